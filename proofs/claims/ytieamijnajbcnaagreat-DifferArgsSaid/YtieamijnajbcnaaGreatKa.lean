/- The document's geometries; a sealer, made. -/
import Derived.Test.YtieamijnajbcnaaGreatK9
import Derived.Test.YtieamijnajbcnaaGreatK6
set_option linter.unusedVariables false
set_option linter.unusedSimpArgs false
namespace Go.Proofs.YtieamijnajbcnaaGreat
open Go
attribute [local irreducible] SW SL SQ SH SA SS Pu Fin CutF HandF

theorem Gm.total_le2 {p t : Nat} (h : Gm.Ok p t) : Gm.total p t ≤ 98 := by
  obtain ⟨_, h2, _, h4⟩ := h
  unfold Gm.total Gm.leaves Gm.epochs Gm.sealed Gm.up
  omega
theorem rgmay_p {p t : Nat} (h : Gm.Ok p t) : Tri Tryz.prog 63 [geoV p t] [] (fun _ => True) (fun v H => v = .bool true ∧ H = []) := by
  obtain ⟨h1, h2, h3, h4⟩ := h
  refine Tri.mk Tryz.func63 rfl Tryz.ntmps63 rfl fun w hw => ?_
  (repeat' (first | refine W.mv ?_ | refine W.zl ?_ | refine W.fa ?_ | refine W.nl ?_ | refine W.as ?_ | refine W.zb ?_ | refine W.za ?_ | refine W.zi ?_ | refine W.zc ?_ | refine W.zp ?_ | refine W.st ?_ | refine SL.nilB ?_ | refine SL.nil ?_ | refine W.al fun b_ => ?_ | refine W.bx fun b_ => ?_ | refine W.bxa fun b_ => ?_ | refine W.sw ?_ | refine W.sa ?_ | refine W.sk ?_ | refine W.bs0 fun b_ => ?_ | refine W.ma fun b_ => ?_ | refine W.bsl fun b_ => ?_ | refine W.zu ?_ | refine W.zf ?_ | refine W.zd ?_ | refine W.zs ?_ | refine W.zv ?_ | refine W.zx ?_ | refine W.ex ?_ | refine W.mf ?_ | refine W.mk ?_ | refine SW.seq ?_ | refine SW.region ?_ | refine SW.block ?_ | refine SW.cond_t rfl ?_ | refine SW.cond_f rfl ?_ | refine SW.exit ?_ | refine SW.ret ?_ | refine SW.skip ?_))
  refine Fin.to [] ?_
  exact F.f1 ⟨rfl, rfl⟩
theorem rgmaps_p {p t : Nat} (h : Gm.Ok p t) : Tri Tryz.prog 92 [geoV p t] [] (fun _ => True) (fun v H => v = .int .i64 (Gm.up p 16 : Nat) ∧ H = []) := by
  obtain ⟨h1, h2, h3, h4⟩ := h
  refine Tri.mk Tryz.func92 rfl Tryz.ntmps92 rfl fun w hw => ?_
  have e : Gm.up p 16 = (p + 15) / 16 := rfl
  rw [e]
  (repeat' (first | refine W.mv ?_ | refine W.zl ?_ | refine W.fa ?_ | refine W.nl ?_ | refine W.as ?_ | refine W.zb ?_ | refine W.za ?_ | refine W.zi ?_ | refine W.zc ?_ | refine W.zp ?_ | refine W.st ?_ | refine SL.nilB ?_ | refine SL.nil ?_ | refine W.al fun b_ => ?_ | refine W.bx fun b_ => ?_ | refine W.bxa fun b_ => ?_ | refine W.sw ?_ | refine W.sa ?_ | refine W.sk ?_ | refine W.bs0 fun b_ => ?_ | refine W.ma fun b_ => ?_ | refine W.bsl fun b_ => ?_ | refine W.zu ?_ | refine W.zf ?_ | refine W.zd ?_ | refine W.zs ?_ | refine W.zv ?_ | refine W.zx ?_ | refine W.ex ?_ | refine W.mf ?_ | refine W.mk ?_ | refine SW.seq ?_ | refine SW.region ?_ | refine SW.cond_t rfl ?_ | refine SW.cond_f rfl ?_ | refine SW.exit ?_ | refine SW.ret ?_ | refine SW.skip ?_))
  refine SW.cut [] [] (fun _ : Unit => [(3, .int .i64 ((p + 15) / 16 : Nat))]) (fun _ => []) (fun _ => True) ?_ ?_
  · (repeat' (first | refine W.mv ?_ | refine W.zl ?_ | refine W.fa ?_ | refine W.nl ?_ | refine W.as ?_ | refine W.zb ?_ | refine W.za ?_ | refine W.zi ?_ | refine W.zc ?_ | refine W.zp ?_ | refine W.st ?_ | refine SL.nilB ?_ | refine SL.nil ?_ | refine W.al fun b_ => ?_ | refine W.bx fun b_ => ?_ | refine W.bxa fun b_ => ?_ | refine W.sw ?_ | refine W.sa ?_ | refine W.sk ?_ | refine W.bs0 fun b_ => ?_ | refine W.ma fun b_ => ?_ | refine W.bsl fun b_ => ?_ | refine W.zu ?_ | refine W.zf ?_ | refine W.zd ?_ | refine W.zs ?_ | refine W.zv ?_ | refine W.zx ?_ | refine W.ex ?_ | refine W.mf ?_ | refine W.mk ?_ | refine SW.seq ?_ | refine SW.region ?_ | refine SW.block ?_ | refine SW.cond_t rfl ?_ | refine SW.cond_f rfl ?_ | refine SW.exit ?_ | refine SW.ret ?_ | refine SW.skip ?_))
    refine SW.loopF [1] (fun n : Nat => [(3, .int .i64 (n : Int))]) (fun _ => [(b_, cl (geoL p t) 39)]) (fun n => 64 - n) (fun n => n ≤ (p + 15) / 16) 0 (Nat.zero_le _) ?_
    intro n hn
    by_cases hl : 16 * n < p
    · (repeat' (first | refine W.mv ?_ | refine W.zl ?_ | refine W.fa ?_ | refine W.nl ?_ | refine W.as ?_ | refine W.zb ?_ | refine W.za ?_ | refine W.zi ?_ | refine W.zc ?_ | refine W.zp ?_ | refine W.st ?_ | refine SL.nilB ?_ | refine SL.nil ?_ | refine W.al fun b_ => ?_ | refine W.bx fun b_ => ?_ | refine W.bxa fun b_ => ?_ | refine W.sw ?_ | refine W.sa ?_ | refine W.sk ?_ | refine W.bs0 fun b_ => ?_ | refine W.ma fun b_ => ?_ | refine W.bsl fun b_ => ?_ | refine W.zu ?_ | refine W.zf ?_ | refine W.zd ?_ | refine W.zs ?_ | refine W.zv ?_ | refine W.zx ?_ | refine W.ex ?_ | refine W.mf ?_ | refine W.mk ?_ | refine SW.seq ?_ | refine SW.region ?_ | refine SW.block ?_ | refine SW.cond_t rfl ?_ | refine SW.cond_f rfl ?_ | refine SW.exit ?_ | refine SW.ret ?_ | refine SW.skip ?_))
      refine HandF.mk (n + 1) ?_ (hM := ?_)
      · omega
      · omega
    · have : n = (p + 15) / 16 := by omega
      subst this
      (repeat' (first | refine W.mv ?_ | refine W.zl ?_ | refine W.fa ?_ | refine W.nl ?_ | refine W.as ?_ | refine W.zb ?_ | refine W.za ?_ | refine W.zi ?_ | refine W.zc ?_ | refine W.zp ?_ | refine W.st ?_ | refine SL.nilB ?_ | refine SL.nil ?_ | refine W.al fun b_ => ?_ | refine W.bx fun b_ => ?_ | refine W.bxa fun b_ => ?_ | refine W.sw ?_ | refine W.sa ?_ | refine W.sk ?_ | refine W.bs0 fun b_ => ?_ | refine W.ma fun b_ => ?_ | refine W.bsl fun b_ => ?_ | refine W.zu ?_ | refine W.zf ?_ | refine W.zd ?_ | refine W.zs ?_ | refine W.zv ?_ | refine W.zx ?_ | refine W.ex ?_ | refine W.mf ?_ | refine W.mk ?_ | refine SW.seq ?_ | refine SW.region ?_ | refine SW.block ?_ | refine SW.cond_t rfl ?_ | refine SW.cond_f rfl ?_ | refine SW.exit ?_ | refine SW.ret ?_ | refine SW.skip ?_))
      refine CutF.mk () ?_
      trivial
  rintro _ -
  (repeat' (first | refine W.mv ?_ | refine W.zl ?_ | refine W.fa ?_ | refine W.nl ?_ | refine W.as ?_ | refine W.zb ?_ | refine W.za ?_ | refine W.zi ?_ | refine W.zc ?_ | refine W.zp ?_ | refine W.st ?_ | refine SL.nilB ?_ | refine SL.nil ?_ | refine W.al fun b_ => ?_ | refine W.bx fun b_ => ?_ | refine W.bxa fun b_ => ?_ | refine W.sw ?_ | refine W.sa ?_ | refine W.sk ?_ | refine W.bs0 fun b_ => ?_ | refine W.ma fun b_ => ?_ | refine W.bsl fun b_ => ?_ | refine W.zu ?_ | refine W.zf ?_ | refine W.zd ?_ | refine W.zs ?_ | refine W.zv ?_ | refine W.zx ?_ | refine W.ex ?_ | refine W.mf ?_ | refine W.mk ?_ | refine SW.seq ?_ | refine SW.region ?_ | refine SW.block ?_ | refine SW.cond_t rfl ?_ | refine SW.cond_f rfl ?_ | refine SW.exit ?_ | refine SW.ret ?_ | refine SW.skip ?_))
  refine Fin.to [] ?_
  exact F.f1 ⟨rfl, rfl⟩
theorem rgsealed_p {p t : Nat} (h : Gm.Ok p t) : Tri Tryz.prog 65 [geoV p t] [] (fun _ => True) (fun v H => v = .int .i64 (Gm.sealed p : Nat) ∧ H = []) := by
  refine Tri.mk Tryz.func65 rfl Tryz.ntmps65 rfl fun w hw => ?_
  have hc := rgmaps_p h
  have hu := Gm.up_le p 16 (by decide)
  obtain ⟨h1, h2, h3, h4⟩ := h
  rw [show ((Gm.sealed p : Nat) : Int) = 1 + ((Gm.up p 16 : Nat) : Int) + (p : Int) by unfold Gm.sealed; omega]
  generalize Gm.up p 16 = u at *
  (repeat' (first | refine W.mv ?_ | refine W.zl ?_ | refine W.fa ?_ | refine W.nl ?_ | refine W.as ?_ | refine W.zb ?_ | refine W.za ?_ | refine W.zi ?_ | refine W.zc ?_ | refine W.zp ?_ | refine W.st ?_ | refine SL.nilB ?_ | refine SL.nil ?_ | refine W.al fun b_ => ?_ | refine W.bx fun b_ => ?_ | refine W.bxa fun b_ => ?_ | refine W.sw ?_ | refine W.sa ?_ | refine W.sk ?_ | refine W.bs0 fun b_ => ?_ | refine W.ma fun b_ => ?_ | refine W.bsl fun b_ => ?_ | refine W.zu ?_ | refine W.zf ?_ | refine W.zd ?_ | refine W.zs ?_ | refine W.zv ?_ | refine W.zx ?_ | refine W.ex ?_ | refine W.mf ?_ | refine W.mk ?_ | refine SW.seq ?_ | refine SW.region ?_ | refine SW.block ?_ | refine SW.cond_t rfl ?_ | refine SW.cond_f rfl ?_ | refine SW.exit ?_ | refine SW.ret ?_ | refine SW.skip ?_))
  (refine SW.regionS [] ?_ (by kernel_rfl); (first | refine SS.lw 0 [] rfl ?_ | refine SS.la 0 [] rfl ?_ | refine SS.tw 0 rfl (p_load_aR rfl rfl (by assumption) (by assumption) (by assumption) (by assumption)) ?_); refine SS.tw 3 rfl (p_fieldAddr rfl rfl OfN.ok) ?_; (first | refine SS.ls 4 [] rfl ?_ | refine SS.tw 4 rfl (p_load_sR rfl rfl (by assumption) (by assumption) (by assumption)) ?_); refine SS.effK 1 ?_ rfl (by kernel_rfl))
  refine W.call hc ?_
  rintro _ _ ⟨rfl, rfl⟩
  (refine SL.nilB ?_; (first | refine SS.tw 2 rfl (p_add rfl rfl rfl (w64 (by omega))) ?_ | refine SS.tw 2 rfl (p_uar rfl rfl rfl) ?_); (first | refine SS.tw 5 rfl (p_add rfl rfl rfl (w64 (by omega))) ?_ | refine SS.tw 5 rfl (p_uar rfl rfl rfl) ?_); refine SS.tw 6 rfl (p_assign rfl rfl) ?_; refine SS.done ?_ (by kernel_rfl))
  (repeat' (first | refine W.mv ?_ | refine W.zl ?_ | refine W.fa ?_ | refine W.nl ?_ | refine W.as ?_ | refine W.zb ?_ | refine W.za ?_ | refine W.zi ?_ | refine W.zc ?_ | refine W.zp ?_ | refine W.st ?_ | refine SL.nilB ?_ | refine SL.nil ?_ | refine W.al fun b_ => ?_ | refine W.bx fun b_ => ?_ | refine W.bxa fun b_ => ?_ | refine W.sw ?_ | refine W.sa ?_ | refine W.sk ?_ | refine W.bs0 fun b_ => ?_ | refine W.ma fun b_ => ?_ | refine W.bsl fun b_ => ?_ | refine W.zu ?_ | refine W.zf ?_ | refine W.zd ?_ | refine W.zs ?_ | refine W.zv ?_ | refine W.zx ?_ | refine W.ex ?_ | refine W.mf ?_ | refine W.mk ?_ | refine SW.seq ?_ | refine SW.region ?_ | refine SW.block ?_ | refine SW.cond_t rfl ?_ | refine SW.cond_f rfl ?_ | refine SW.exit ?_ | refine SW.ret ?_ | refine SW.skip ?_))
  refine Fin.to [] ?_
  exact F.f1 ⟨rfl, rfl⟩
theorem rgepochs_p {p t : Nat} (h : Gm.Ok p t) : Tri Tryz.prog 64 [geoV p t] [] (fun _ => True) (fun v H => v = .int .i64 (Gm.epochs p : Nat) ∧ H = []) := by
  refine Tri.mk Tryz.func64 rfl Tryz.ntmps64 rfl fun w hw => ?_
  have hc := rgsealed_p h
  have hs := Gm.sealed_le h
  have e : Gm.epochs p = (Gm.sealed p + 31) / 32 := rfl
  rw [e]
  generalize Gm.sealed p = s at *
  (repeat' (first | refine W.mv ?_ | refine W.zl ?_ | refine W.fa ?_ | refine W.nl ?_ | refine W.as ?_ | refine W.zb ?_ | refine W.za ?_ | refine W.zi ?_ | refine W.zc ?_ | refine W.zp ?_ | refine W.st ?_ | refine SL.nilB ?_ | refine SL.nil ?_ | refine W.al fun b_ => ?_ | refine W.bx fun b_ => ?_ | refine W.bxa fun b_ => ?_ | refine W.sw ?_ | refine W.sa ?_ | refine W.sk ?_ | refine W.bs0 fun b_ => ?_ | refine W.ma fun b_ => ?_ | refine W.bsl fun b_ => ?_ | refine W.zu ?_ | refine W.zf ?_ | refine W.zd ?_ | refine W.zs ?_ | refine W.zv ?_ | refine W.zx ?_ | refine W.ex ?_ | refine W.mf ?_ | refine W.mk ?_ | refine SW.seq ?_ | refine SW.region ?_ | refine SW.cond_t rfl ?_ | refine SW.cond_f rfl ?_ | refine SW.exit ?_ | refine SW.ret ?_ | refine SW.skip ?_))
  refine SW.cut [] [] (fun _ : Unit => [(3, .int .i64 ((s + 31) / 32 : Nat))]) (fun _ => []) (fun _ => True) ?_ ?_
  · (repeat' (first | refine W.mv ?_ | refine W.zl ?_ | refine W.fa ?_ | refine W.nl ?_ | refine W.as ?_ | refine W.zb ?_ | refine W.za ?_ | refine W.zi ?_ | refine W.zc ?_ | refine W.zp ?_ | refine W.st ?_ | refine SL.nilB ?_ | refine SL.nil ?_ | refine W.al fun b_ => ?_ | refine W.bx fun b_ => ?_ | refine W.bxa fun b_ => ?_ | refine W.sw ?_ | refine W.sa ?_ | refine W.sk ?_ | refine W.bs0 fun b_ => ?_ | refine W.ma fun b_ => ?_ | refine W.bsl fun b_ => ?_ | refine W.zu ?_ | refine W.zf ?_ | refine W.zd ?_ | refine W.zs ?_ | refine W.zv ?_ | refine W.zx ?_ | refine W.ex ?_ | refine W.mf ?_ | refine W.mk ?_ | refine SW.seq ?_ | refine SW.region ?_ | refine SW.block ?_ | refine SW.cond_t rfl ?_ | refine SW.cond_f rfl ?_ | refine SW.exit ?_ | refine SW.ret ?_ | refine SW.skip ?_))
    refine SW.loopF [1] (fun n : Nat => [(3, .int .i64 (n : Int))]) (fun _ => [(b_, cl (geoL p t) 39)]) (fun n => 129 - n) (fun n => n ≤ (s + 31) / 32) 0 (Nat.zero_le _) ?_
    intro n hn
    by_cases hl : 32 * n < s
    · (repeat' (first | refine W.mv ?_ | refine W.zl ?_ | refine W.fa ?_ | refine W.nl ?_ | refine W.as ?_ | refine W.zb ?_ | refine W.za ?_ | refine W.zi ?_ | refine W.zc ?_ | refine W.zp ?_ | refine W.st ?_ | refine SL.nilB ?_ | refine SL.nil ?_ | refine W.al fun b_ => ?_ | refine W.bx fun b_ => ?_ | refine W.bxa fun b_ => ?_ | refine W.sw ?_ | refine W.sa ?_ | refine W.sk ?_ | refine W.bs0 fun b_ => ?_ | refine W.ma fun b_ => ?_ | refine W.bsl fun b_ => ?_ | refine W.zu ?_ | refine W.zf ?_ | refine W.zd ?_ | refine W.zs ?_ | refine W.zv ?_ | refine W.zx ?_ | refine W.ex ?_ | refine W.mf ?_ | refine W.mk ?_ | refine SW.seq ?_ | refine SW.region ?_ | refine SW.block ?_ | refine SW.cond_t rfl ?_ | refine SW.cond_f rfl ?_ | refine SW.exit ?_ | refine SW.ret ?_ | refine SW.skip ?_))
      refine W.call hc ?_
      rintro _ _ ⟨rfl, rfl⟩
      (repeat' (first | refine W.mv ?_ | refine W.zl ?_ | refine W.fa ?_ | refine W.nl ?_ | refine W.as ?_ | refine W.zb ?_ | refine W.za ?_ | refine W.zi ?_ | refine W.zc ?_ | refine W.zp ?_ | refine W.st ?_ | refine SL.nilB ?_ | refine SL.nil ?_ | refine W.al fun b_ => ?_ | refine W.bx fun b_ => ?_ | refine W.bxa fun b_ => ?_ | refine W.sw ?_ | refine W.sa ?_ | refine W.sk ?_ | refine W.bs0 fun b_ => ?_ | refine W.ma fun b_ => ?_ | refine W.bsl fun b_ => ?_ | refine W.zu ?_ | refine W.zf ?_ | refine W.zd ?_ | refine W.zs ?_ | refine W.zv ?_ | refine W.zx ?_ | refine W.ex ?_ | refine W.mf ?_ | refine W.mk ?_ | refine SW.seq ?_ | refine SW.region ?_ | refine SW.block ?_ | refine SW.cond_t rfl ?_ | refine SW.cond_f rfl ?_ | refine SW.exit ?_ | refine SW.ret ?_ | refine SW.skip ?_))
      refine HandF.mk (n + 1) ?_ (hM := ?_)
      · omega
      · omega
    · have : n = (s + 31) / 32 := by omega
      subst this
      (repeat' (first | refine W.mv ?_ | refine W.zl ?_ | refine W.fa ?_ | refine W.nl ?_ | refine W.as ?_ | refine W.zb ?_ | refine W.za ?_ | refine W.zi ?_ | refine W.zc ?_ | refine W.zp ?_ | refine W.st ?_ | refine SL.nilB ?_ | refine SL.nil ?_ | refine W.al fun b_ => ?_ | refine W.bx fun b_ => ?_ | refine W.bxa fun b_ => ?_ | refine W.sw ?_ | refine W.sa ?_ | refine W.sk ?_ | refine W.bs0 fun b_ => ?_ | refine W.ma fun b_ => ?_ | refine W.bsl fun b_ => ?_ | refine W.zu ?_ | refine W.zf ?_ | refine W.zd ?_ | refine W.zs ?_ | refine W.zv ?_ | refine W.zx ?_ | refine W.ex ?_ | refine W.mf ?_ | refine W.mk ?_ | refine SW.seq ?_ | refine SW.region ?_ | refine SW.block ?_ | refine SW.cond_t rfl ?_ | refine SW.cond_f rfl ?_ | refine SW.exit ?_ | refine SW.ret ?_ | refine SW.skip ?_))
      refine W.call hc ?_
      rintro _ _ ⟨rfl, rfl⟩
      (repeat' (first | refine W.mv ?_ | refine W.zl ?_ | refine W.fa ?_ | refine W.nl ?_ | refine W.as ?_ | refine W.zb ?_ | refine W.za ?_ | refine W.zi ?_ | refine W.zc ?_ | refine W.zp ?_ | refine W.st ?_ | refine SL.nilB ?_ | refine SL.nil ?_ | refine W.al fun b_ => ?_ | refine W.bx fun b_ => ?_ | refine W.bxa fun b_ => ?_ | refine W.sw ?_ | refine W.sa ?_ | refine W.sk ?_ | refine W.bs0 fun b_ => ?_ | refine W.ma fun b_ => ?_ | refine W.bsl fun b_ => ?_ | refine W.zu ?_ | refine W.zf ?_ | refine W.zd ?_ | refine W.zs ?_ | refine W.zv ?_ | refine W.zx ?_ | refine W.ex ?_ | refine W.mf ?_ | refine W.mk ?_ | refine SW.seq ?_ | refine SW.region ?_ | refine SW.block ?_ | refine SW.cond_t rfl ?_ | refine SW.cond_f rfl ?_ | refine SW.exit ?_ | refine SW.ret ?_ | refine SW.skip ?_))
      refine CutF.mk () ?_
      trivial
  rintro _ -
  (repeat' (first | refine W.mv ?_ | refine W.zl ?_ | refine W.fa ?_ | refine W.nl ?_ | refine W.as ?_ | refine W.zb ?_ | refine W.za ?_ | refine W.zi ?_ | refine W.zc ?_ | refine W.zp ?_ | refine W.st ?_ | refine SL.nilB ?_ | refine SL.nil ?_ | refine W.al fun b_ => ?_ | refine W.bx fun b_ => ?_ | refine W.bxa fun b_ => ?_ | refine W.sw ?_ | refine W.sa ?_ | refine W.sk ?_ | refine W.bs0 fun b_ => ?_ | refine W.ma fun b_ => ?_ | refine W.bsl fun b_ => ?_ | refine W.zu ?_ | refine W.zf ?_ | refine W.zd ?_ | refine W.zs ?_ | refine W.zv ?_ | refine W.zx ?_ | refine W.ex ?_ | refine W.mf ?_ | refine W.mk ?_ | refine SW.seq ?_ | refine SW.region ?_ | refine SW.block ?_ | refine SW.cond_t rfl ?_ | refine SW.cond_f rfl ?_ | refine SW.exit ?_ | refine SW.ret ?_ | refine SW.skip ?_))
  refine Fin.to [] ?_
  exact F.f1 ⟨rfl, rfl⟩

/-! ### All blocks -/
def pc (x : Nat × Nat) : List Value := [.int .i64 (x.1 : Int), .int .i64 (x.2 : Int)]
def pcs (l : List (Nat × Nat)) : List Value := l.flatMap pc
theorem pcs_len (l : List (Nat × Nat)) : (pcs l).length = l.length * 2 := by
  unfold pcs
  induction l with
  | nil => rfl
  | cons x r ih => rw [List.flatMap_cons, List.length_append, ih]; simp [pc]; omega
theorem pcs_snoc (l : List (Nat × Nat)) (x : Nat × Nat) : pcs l ++ pc x = pcs (l ++ [x]) := by unfold pcs; simp
instance pcO (x : Nat × Nat) : OC (pc x) := by unfold pc; infer_instance
def Gm.row (kind n : Nat) : List (Nat × Nat) := (List.range n).map fun k => (kind, k)
theorem Gm.row_succ (kind n : Nat) : Gm.row kind (n + 1) = Gm.row kind n ++ [(kind, n)] := by unfold Gm.row; rw [List.range_succ, List.map_append]; rfl
theorem Gm.row_len (kind n : Nat) : (Gm.row kind n).length = n := by unfold Gm.row; simp
/-- All blocks of a geometry. -/
def Gm.all (p t : Nat) : List (Nat × Nat) := [(1, 0)] ++ Gm.row 2 (Gm.epochs p) ++ Gm.row 3 (Gm.sealed p) ++ Gm.row 4 (t + 1)
theorem Gm.all_len (p t : Nat) : (Gm.all p t).length = Gm.total p t := by
  unfold Gm.all Gm.total Gm.leaves
  simp only [List.length_append, Gm.row_len, List.length_singleton]
  omega
theorem rgall_p {p t : Nat} (h : Gm.Ok p t) : Tri Tryz.prog 32 [geoV p t] [] (fun _ => True) (fun v H => ∃ Hs, Sl 163 2 v (pcs (Gm.all p t)) Hs ∧ H = Hs) := by
  refine Tri.mk Tryz.func32 rfl Tryz.ntmps32 rfl fun w hw => ?_
  have hm := rgmay_p h
  have hep := rgepochs_p h
  have hse := rgsealed_p h
  have hsl := Gm.sealed_le h
  have hel := Gm.epochs_le h
  have ht : t ≤ 24 := h.2.2.2
  have hall : Gm.all p t = [(1, 0)] ++ Gm.row 2 (Gm.epochs p) ++ Gm.row 3 (Gm.sealed p) ++ Gm.row 4 (t + 1) := rfl
  rw [hall]
  generalize Gm.epochs p = e at *
  generalize Gm.sealed p = s at *
  have hb1 : ∀ a b : Int, bfill (fun i => [(0, 1), (1, 1)][i]?) [.int .i64 0, .int .i64 0] [(0, .int .i64 a), (1, .int .i64 b)] = some [.int .i64 a, .int .i64 b] := fun a b => rfl
  have hb0 : bfill (fun i => [(0, 1), (1, 1)][i]?) [.int .i64 0, .int .i64 0] [(0, .int .i64 1)] = some (pc (1, 0)) := rfl
  have hs0 : bfill (fun i => some (i * 2, 2)) (zs [.int .i64 0, .int .i64 0] 1) [(0, .agg (pc (1, 0)).toArray)] = some (pc (1, 0)) := rfl
  (repeat' (first | refine W.mv ?_ | refine W.zl ?_ | refine W.fa ?_ | refine W.nl ?_ | refine W.as ?_ | refine W.zb ?_ | refine W.za ?_ | refine W.zi ?_ | refine W.zc ?_ | refine W.zp ?_ | refine W.st ?_ | refine SL.nilB ?_ | refine SL.nil ?_ | refine W.al fun b_ => ?_ | refine W.bx fun b_ => ?_ | refine W.bxa fun b_ => ?_ | refine W.sw ?_ | refine W.sa ?_ | refine W.sk ?_ | refine W.bs0 fun b_ => ?_ | refine W.ma fun b_ => ?_ | refine W.bsl fun b_ => ?_ | refine W.zu ?_ | refine W.zf ?_ | refine W.zd ?_ | refine W.zs ?_ | refine W.zv ?_ | refine W.zx ?_ | refine W.ex ?_ | refine W.mf ?_ | refine W.mk ?_ | refine SW.seq ?_ | refine SW.region ?_ | refine SW.block ?_ | refine SW.cond_t rfl ?_ | refine SW.cond_f rfl ?_ | refine SW.exit ?_ | refine SW.ret ?_ | refine SW.skip ?_))
  refine W.call hm ?_
  rintro _ _ ⟨rfl, rfl⟩
  (repeat' (first | refine W.mv ?_ | refine W.zl ?_ | refine W.fa ?_ | refine W.nl ?_ | refine W.as ?_ | refine W.zb ?_ | refine W.za ?_ | refine W.zi ?_ | refine W.zc ?_ | refine W.zp ?_ | refine W.st ?_ | refine SL.nilB ?_ | refine SL.nil ?_ | refine W.al fun b_ => ?_ | refine W.bx fun b_ => ?_ | refine W.bxa fun b_ => ?_ | refine W.sw ?_ | refine W.sa ?_ | refine W.sk ?_ | refine W.bs0 fun b_ => ?_ | refine W.ma fun b_ => ?_ | refine W.bsl fun b_ => ?_ | refine W.zu ?_ | refine W.zf ?_ | refine W.zd ?_ | refine W.zs ?_ | refine W.zv ?_ | refine W.zx ?_ | refine W.ex ?_ | refine W.mf ?_ | refine W.mk ?_ | refine SW.seq ?_ | refine SW.region ?_ | refine SW.cond_t rfl ?_ | refine SW.cond_f rfl ?_ | refine SW.exit ?_ | refine SW.ret ?_ | refine SW.skip ?_))
  rename_i bg
  have hA : Sl 163 2 (.slice (some ⟨b_, 0, none⟩) 1 1) (pcs ([(1, 0)] ++ Gm.row 2 0)) [(b_, cl (pc (1, 0)) 163)] := Sl.own 163 2 b_ (len := 1) (xs := pc (1, 0)) rfl
  generalize b_ = bs at *
  refine SW.cutH [1] ((bg, cl (geoL p t) 39) :: [(bs, cl (pc (1, 0)) 163)]) (fun x : Value × Hp => [(3, x.1)]) (fun x => (bg, cl (geoL p t) 39) :: x.2) (fun x => Sl 163 2 x.1 (pcs ([(1, 0)] ++ Gm.row 2 e)) x.2) ?_ ?_
  · (repeat' (first | refine W.mv ?_ | refine W.zl ?_ | refine W.fa ?_ | refine W.nl ?_ | refine W.as ?_ | refine W.zb ?_ | refine W.za ?_ | refine W.zi ?_ | refine W.zc ?_ | refine W.zp ?_ | refine W.st ?_ | refine SL.nilB ?_ | refine SL.nil ?_ | refine W.al fun b_ => ?_ | refine W.bx fun b_ => ?_ | refine W.bxa fun b_ => ?_ | refine W.sw ?_ | refine W.sa ?_ | refine W.sk ?_ | refine W.bs0 fun b_ => ?_ | refine W.ma fun b_ => ?_ | refine W.bsl fun b_ => ?_ | refine W.zu ?_ | refine W.zf ?_ | refine W.zd ?_ | refine W.zs ?_ | refine W.zv ?_ | refine W.zx ?_ | refine W.ex ?_ | refine W.mf ?_ | refine W.mk ?_ | refine SW.seq ?_ | refine SW.region ?_ | refine SW.block ?_ | refine SW.cond_t rfl ?_ | refine SW.cond_f rfl ?_ | refine SW.exit ?_ | refine SW.ret ?_ | refine SW.skip ?_))
    refine SW.loopF [1] (fun x : Nat × Value × Hp => [(3, x.2.1), (4, .int .i64 (x.1 : Int))]) (fun x => (bg, cl (geoL p t) 39) :: x.2.2) (fun x => e - x.1) (fun x => x.1 ≤ e ∧ Sl 163 2 x.2.1 (pcs ([(1, 0)] ++ Gm.row 2 x.1)) x.2.2) (0, .slice (some ⟨bs, 0, none⟩) 1 1, [(bs, cl (pc (1, 0)) 163)]) ⟨Nat.zero_le _, hA⟩ ?_
    rintro ⟨k, v2, H2⟩ ⟨hk, hS⟩
    dsimp only at hk hS ⊢
    have hS1 := hS.isOne
    have hlen : ([(1, 0)] ++ Gm.row 2 k).length ≤ 1000 := by simp only [List.length_append, Gm.row_len, List.length_singleton]; omega
    have hbk := hb1 2 (k : Int)
    have hbs : bfill (fun i => some (i * 2, 2)) (zs [.int .i64 0, .int .i64 0] 1) [(0, .agg [.int .i64 (2 : Int), .int .i64 (k : Int)].toArray)] = some (pc (2, k)) := rfl
    by_cases h : k < e
    · (repeat' (first | refine W.mv ?_ | refine W.zl ?_ | refine W.fa ?_ | refine W.nl ?_ | refine W.as ?_ | refine W.zb ?_ | refine W.za ?_ | refine W.zi ?_ | refine W.zc ?_ | refine W.zp ?_ | refine W.st ?_ | refine SL.nilB ?_ | refine SL.nil ?_ | refine W.al fun b_ => ?_ | refine W.bx fun b_ => ?_ | refine W.bxa fun b_ => ?_ | refine W.sw ?_ | refine W.sa ?_ | refine W.sk ?_ | refine W.bs0 fun b_ => ?_ | refine W.ma fun b_ => ?_ | refine W.bsl fun b_ => ?_ | refine W.zu ?_ | refine W.zf ?_ | refine W.zd ?_ | refine W.zs ?_ | refine W.zv ?_ | refine W.zx ?_ | refine W.ex ?_ | refine W.mf ?_ | refine W.mk ?_ | refine SW.seq ?_ | refine SW.region ?_ | refine SW.block ?_ | refine SW.cond_t rfl ?_ | refine SW.cond_f rfl ?_ | refine SW.exit ?_ | refine SW.ret ?_ | refine SW.skip ?_))
      refine W.call hep ?_
      rintro _ _ ⟨rfl, rfl⟩
      (repeat' (first | refine W.mv ?_ | refine W.zl ?_ | refine W.fa ?_ | refine W.nl ?_ | refine W.as ?_ | refine W.zb ?_ | refine W.za ?_ | refine W.zi ?_ | refine W.zc ?_ | refine W.zp ?_ | refine W.st ?_ | refine SL.nilB ?_ | refine SL.nil ?_ | refine W.al fun b_ => ?_ | refine W.bx fun b_ => ?_ | refine W.bxa fun b_ => ?_ | refine W.sw ?_ | refine W.sa ?_ | refine W.sk ?_ | refine W.bs0 fun b_ => ?_ | refine W.ma fun b_ => ?_ | refine W.bsl fun b_ => ?_ | refine W.zu ?_ | refine W.zf ?_ | refine W.zd ?_ | refine W.zs ?_ | refine W.zv ?_ | refine W.zx ?_ | refine W.ex ?_ | refine W.mf ?_ | refine W.mk ?_ | refine SW.seq ?_ | refine SW.region ?_ | refine SW.block ?_ | refine SW.cond_t rfl ?_ | refine SW.cond_f rfl ?_ | refine SW.exit ?_ | refine SW.ret ?_ | refine SW.skip ?_))
      refine W.ap (ys := pc (2, k)) (mm := 1) hS (fun w2 hs => (Sl.own 163 2 b_ (xs := pc (2, k)) rfl).srcAt hs inferInstance) (fun v3 H3 h3 => ?_) (hys := rfl) (hbytes := by rw [pcs_len]; simp only [pc, List.length_cons, List.length_nil]; omega)
      have h31 := h3.isOne
      rw [pcs_snoc, List.append_assoc, ← Gm.row_succ] at h3
      (repeat' (first | refine W.mv ?_ | refine W.zl ?_ | refine W.fa ?_ | refine W.nl ?_ | refine W.as ?_ | refine W.zb ?_ | refine W.za ?_ | refine W.zi ?_ | refine W.zc ?_ | refine W.zp ?_ | refine W.st ?_ | refine SL.nilB ?_ | refine SL.nil ?_ | refine W.al fun b_ => ?_ | refine W.bx fun b_ => ?_ | refine W.bxa fun b_ => ?_ | refine W.sw ?_ | refine W.sa ?_ | refine W.sk ?_ | refine W.bs0 fun b_ => ?_ | refine W.ma fun b_ => ?_ | refine W.bsl fun b_ => ?_ | refine W.zu ?_ | refine W.zf ?_ | refine W.zd ?_ | refine W.zs ?_ | refine W.zv ?_ | refine W.zx ?_ | refine W.ex ?_ | refine W.mf ?_ | refine W.mk ?_ | refine SW.seq ?_ | refine SW.region ?_ | refine SW.block ?_ | refine SW.cond_t rfl ?_ | refine SW.cond_f rfl ?_ | refine SW.exit ?_ | refine SW.ret ?_ | refine SW.skip ?_))
      refine HandF.mk (k + 1, v3, H3) ?_
      exact ⟨h, h3⟩
    · have hk2 : k = e := by omega
      rw [hk2] at hS
      (repeat' (first | refine W.mv ?_ | refine W.zl ?_ | refine W.fa ?_ | refine W.nl ?_ | refine W.as ?_ | refine W.zb ?_ | refine W.za ?_ | refine W.zi ?_ | refine W.zc ?_ | refine W.zp ?_ | refine W.st ?_ | refine SL.nilB ?_ | refine SL.nil ?_ | refine W.al fun b_ => ?_ | refine W.bx fun b_ => ?_ | refine W.bxa fun b_ => ?_ | refine W.sw ?_ | refine W.sa ?_ | refine W.sk ?_ | refine W.bs0 fun b_ => ?_ | refine W.ma fun b_ => ?_ | refine W.bsl fun b_ => ?_ | refine W.zu ?_ | refine W.zf ?_ | refine W.zd ?_ | refine W.zs ?_ | refine W.zv ?_ | refine W.zx ?_ | refine W.ex ?_ | refine W.mf ?_ | refine W.mk ?_ | refine SW.seq ?_ | refine SW.region ?_ | refine SW.block ?_ | refine SW.cond_t rfl ?_ | refine SW.cond_f rfl ?_ | refine SW.exit ?_ | refine SW.ret ?_ | refine SW.skip ?_))
      refine W.call hep ?_
      rintro _ _ ⟨rfl, rfl⟩
      (repeat' (first | refine W.mv ?_ | refine W.zl ?_ | refine W.fa ?_ | refine W.nl ?_ | refine W.as ?_ | refine W.zb ?_ | refine W.za ?_ | refine W.zi ?_ | refine W.zc ?_ | refine W.zp ?_ | refine W.st ?_ | refine SL.nilB ?_ | refine SL.nil ?_ | refine W.al fun b_ => ?_ | refine W.bx fun b_ => ?_ | refine W.bxa fun b_ => ?_ | refine W.sw ?_ | refine W.sa ?_ | refine W.sk ?_ | refine W.bs0 fun b_ => ?_ | refine W.ma fun b_ => ?_ | refine W.bsl fun b_ => ?_ | refine W.zu ?_ | refine W.zf ?_ | refine W.zd ?_ | refine W.zs ?_ | refine W.zv ?_ | refine W.zx ?_ | refine W.ex ?_ | refine W.mf ?_ | refine W.mk ?_ | refine SW.seq ?_ | refine SW.region ?_ | refine SW.block ?_ | refine SW.cond_t rfl ?_ | refine SW.cond_f rfl ?_ | refine SW.exit ?_ | refine SW.ret ?_ | refine SW.skip ?_))
      refine CutF.mk (v2, H2) ?_
      exact hS
  rintro ⟨v2, H2⟩ hS
  dsimp only at hS ⊢
  have hS2 := hS.isOne
  (repeat' (first | refine W.mv ?_ | refine W.zl ?_ | refine W.fa ?_ | refine W.nl ?_ | refine W.as ?_ | refine W.zb ?_ | refine W.za ?_ | refine W.zi ?_ | refine W.zc ?_ | refine W.zp ?_ | refine W.st ?_ | refine SL.nilB ?_ | refine SL.nil ?_ | refine W.al fun b_ => ?_ | refine W.bx fun b_ => ?_ | refine W.bxa fun b_ => ?_ | refine W.sw ?_ | refine W.sa ?_ | refine W.sk ?_ | refine W.bs0 fun b_ => ?_ | refine W.ma fun b_ => ?_ | refine W.bsl fun b_ => ?_ | refine W.zu ?_ | refine W.zf ?_ | refine W.zd ?_ | refine W.zs ?_ | refine W.zv ?_ | refine W.zx ?_ | refine W.ex ?_ | refine W.mf ?_ | refine W.mk ?_ | refine SW.seq ?_ | refine SW.region ?_ | refine SW.cond_t rfl ?_ | refine SW.cond_f rfl ?_ | refine SW.exit ?_ | refine SW.ret ?_ | refine SW.skip ?_))
  refine SW.cutH [1] ((bg, cl (geoL p t) 39) :: H2) (fun x : Value × Hp => [(3, x.1)]) (fun x => (bg, cl (geoL p t) 39) :: x.2) (fun x => Sl 163 2 x.1 (pcs ([(1, 0)] ++ Gm.row 2 e ++ Gm.row 3 s)) x.2) ?_ ?_
  · (repeat' (first | refine W.mv ?_ | refine W.zl ?_ | refine W.fa ?_ | refine W.nl ?_ | refine W.as ?_ | refine W.zb ?_ | refine W.za ?_ | refine W.zi ?_ | refine W.zc ?_ | refine W.zp ?_ | refine W.st ?_ | refine SL.nilB ?_ | refine SL.nil ?_ | refine W.al fun b_ => ?_ | refine W.bx fun b_ => ?_ | refine W.bxa fun b_ => ?_ | refine W.sw ?_ | refine W.sa ?_ | refine W.sk ?_ | refine W.bs0 fun b_ => ?_ | refine W.ma fun b_ => ?_ | refine W.bsl fun b_ => ?_ | refine W.zu ?_ | refine W.zf ?_ | refine W.zd ?_ | refine W.zs ?_ | refine W.zv ?_ | refine W.zx ?_ | refine W.ex ?_ | refine W.mf ?_ | refine W.mk ?_ | refine SW.seq ?_ | refine SW.region ?_ | refine SW.block ?_ | refine SW.cond_t rfl ?_ | refine SW.cond_f rfl ?_ | refine SW.exit ?_ | refine SW.ret ?_ | refine SW.skip ?_))
    refine SW.loopF [1] (fun x : Nat × Value × Hp => [(3, x.2.1), (5, .int .i64 (x.1 : Int))]) (fun x => (bg, cl (geoL p t) 39) :: x.2.2) (fun x => s - x.1) (fun x => x.1 ≤ s ∧ Sl 163 2 x.2.1 (pcs ([(1, 0)] ++ Gm.row 2 e ++ Gm.row 3 x.1)) x.2.2) (0, v2, H2) ⟨Nat.zero_le _, by simpa [Gm.row] using hS⟩ ?_
    rintro ⟨k, v2, H2⟩ ⟨hk, hS⟩
    dsimp only at hk hS ⊢
    have hS1 := hS.isOne
    have hlen : ([(1, 0)] ++ Gm.row 2 e ++ Gm.row 3 k).length ≤ 1000 := by simp only [List.length_append, Gm.row_len, List.length_singleton]; omega
    have hbk := hb1 3 (k : Int)
    have hbs : bfill (fun i => some (i * 2, 2)) (zs [.int .i64 0, .int .i64 0] 1) [(0, .agg [.int .i64 (3 : Int), .int .i64 (k : Int)].toArray)] = some (pc (3, k)) := rfl
    by_cases h : k < s
    · (repeat' (first | refine W.mv ?_ | refine W.zl ?_ | refine W.fa ?_ | refine W.nl ?_ | refine W.as ?_ | refine W.zb ?_ | refine W.za ?_ | refine W.zi ?_ | refine W.zc ?_ | refine W.zp ?_ | refine W.st ?_ | refine SL.nilB ?_ | refine SL.nil ?_ | refine W.al fun b_ => ?_ | refine W.bx fun b_ => ?_ | refine W.bxa fun b_ => ?_ | refine W.sw ?_ | refine W.sa ?_ | refine W.sk ?_ | refine W.bs0 fun b_ => ?_ | refine W.ma fun b_ => ?_ | refine W.bsl fun b_ => ?_ | refine W.zu ?_ | refine W.zf ?_ | refine W.zd ?_ | refine W.zs ?_ | refine W.zv ?_ | refine W.zx ?_ | refine W.ex ?_ | refine W.mf ?_ | refine W.mk ?_ | refine SW.seq ?_ | refine SW.region ?_ | refine SW.block ?_ | refine SW.cond_t rfl ?_ | refine SW.cond_f rfl ?_ | refine SW.exit ?_ | refine SW.ret ?_ | refine SW.skip ?_))
      refine W.call hse ?_
      rintro _ _ ⟨rfl, rfl⟩
      (repeat' (first | refine W.mv ?_ | refine W.zl ?_ | refine W.fa ?_ | refine W.nl ?_ | refine W.as ?_ | refine W.zb ?_ | refine W.za ?_ | refine W.zi ?_ | refine W.zc ?_ | refine W.zp ?_ | refine W.st ?_ | refine SL.nilB ?_ | refine SL.nil ?_ | refine W.al fun b_ => ?_ | refine W.bx fun b_ => ?_ | refine W.bxa fun b_ => ?_ | refine W.sw ?_ | refine W.sa ?_ | refine W.sk ?_ | refine W.bs0 fun b_ => ?_ | refine W.ma fun b_ => ?_ | refine W.bsl fun b_ => ?_ | refine W.zu ?_ | refine W.zf ?_ | refine W.zd ?_ | refine W.zs ?_ | refine W.zv ?_ | refine W.zx ?_ | refine W.ex ?_ | refine W.mf ?_ | refine W.mk ?_ | refine SW.seq ?_ | refine SW.region ?_ | refine SW.block ?_ | refine SW.cond_t rfl ?_ | refine SW.cond_f rfl ?_ | refine SW.exit ?_ | refine SW.ret ?_ | refine SW.skip ?_))
      refine W.ap (ys := pc (3, k)) (mm := 1) hS (fun w2 hs => (Sl.own 163 2 b_ (xs := pc (3, k)) rfl).srcAt hs inferInstance) (fun v3 H3 h3 => ?_) (hys := rfl) (hbytes := by rw [pcs_len]; simp only [pc, List.length_cons, List.length_nil]; omega)
      have h31 := h3.isOne
      rw [pcs_snoc, List.append_assoc, ← Gm.row_succ] at h3
      (repeat' (first | refine W.mv ?_ | refine W.zl ?_ | refine W.fa ?_ | refine W.nl ?_ | refine W.as ?_ | refine W.zb ?_ | refine W.za ?_ | refine W.zi ?_ | refine W.zc ?_ | refine W.zp ?_ | refine W.st ?_ | refine SL.nilB ?_ | refine SL.nil ?_ | refine W.al fun b_ => ?_ | refine W.bx fun b_ => ?_ | refine W.bxa fun b_ => ?_ | refine W.sw ?_ | refine W.sa ?_ | refine W.sk ?_ | refine W.bs0 fun b_ => ?_ | refine W.ma fun b_ => ?_ | refine W.bsl fun b_ => ?_ | refine W.zu ?_ | refine W.zf ?_ | refine W.zd ?_ | refine W.zs ?_ | refine W.zv ?_ | refine W.zx ?_ | refine W.ex ?_ | refine W.mf ?_ | refine W.mk ?_ | refine SW.seq ?_ | refine SW.region ?_ | refine SW.block ?_ | refine SW.cond_t rfl ?_ | refine SW.cond_f rfl ?_ | refine SW.exit ?_ | refine SW.ret ?_ | refine SW.skip ?_))
      refine HandF.mk (k + 1, v3, H3) ?_
      exact ⟨h, h3⟩
    · have hk2 : k = s := by omega
      rw [hk2] at hS
      (repeat' (first | refine W.mv ?_ | refine W.zl ?_ | refine W.fa ?_ | refine W.nl ?_ | refine W.as ?_ | refine W.zb ?_ | refine W.za ?_ | refine W.zi ?_ | refine W.zc ?_ | refine W.zp ?_ | refine W.st ?_ | refine SL.nilB ?_ | refine SL.nil ?_ | refine W.al fun b_ => ?_ | refine W.bx fun b_ => ?_ | refine W.bxa fun b_ => ?_ | refine W.sw ?_ | refine W.sa ?_ | refine W.sk ?_ | refine W.bs0 fun b_ => ?_ | refine W.ma fun b_ => ?_ | refine W.bsl fun b_ => ?_ | refine W.zu ?_ | refine W.zf ?_ | refine W.zd ?_ | refine W.zs ?_ | refine W.zv ?_ | refine W.zx ?_ | refine W.ex ?_ | refine W.mf ?_ | refine W.mk ?_ | refine SW.seq ?_ | refine SW.region ?_ | refine SW.block ?_ | refine SW.cond_t rfl ?_ | refine SW.cond_f rfl ?_ | refine SW.exit ?_ | refine SW.ret ?_ | refine SW.skip ?_))
      refine W.call hse ?_
      rintro _ _ ⟨rfl, rfl⟩
      (repeat' (first | refine W.mv ?_ | refine W.zl ?_ | refine W.fa ?_ | refine W.nl ?_ | refine W.as ?_ | refine W.zb ?_ | refine W.za ?_ | refine W.zi ?_ | refine W.zc ?_ | refine W.zp ?_ | refine W.st ?_ | refine SL.nilB ?_ | refine SL.nil ?_ | refine W.al fun b_ => ?_ | refine W.bx fun b_ => ?_ | refine W.bxa fun b_ => ?_ | refine W.sw ?_ | refine W.sa ?_ | refine W.sk ?_ | refine W.bs0 fun b_ => ?_ | refine W.ma fun b_ => ?_ | refine W.bsl fun b_ => ?_ | refine W.zu ?_ | refine W.zf ?_ | refine W.zd ?_ | refine W.zs ?_ | refine W.zv ?_ | refine W.zx ?_ | refine W.ex ?_ | refine W.mf ?_ | refine W.mk ?_ | refine SW.seq ?_ | refine SW.region ?_ | refine SW.block ?_ | refine SW.cond_t rfl ?_ | refine SW.cond_f rfl ?_ | refine SW.exit ?_ | refine SW.ret ?_ | refine SW.skip ?_))
      refine CutF.mk (v2, H2) ?_
      exact hS
  rintro ⟨v3, H3⟩ hS
  dsimp only at hS ⊢
  have hS3 := hS.isOne
  (repeat' (first | refine W.mv ?_ | refine W.zl ?_ | refine W.fa ?_ | refine W.nl ?_ | refine W.as ?_ | refine W.zb ?_ | refine W.za ?_ | refine W.zi ?_ | refine W.zc ?_ | refine W.zp ?_ | refine W.st ?_ | refine SL.nilB ?_ | refine SL.nil ?_ | refine W.al fun b_ => ?_ | refine W.bx fun b_ => ?_ | refine W.bxa fun b_ => ?_ | refine W.sw ?_ | refine W.sa ?_ | refine W.sk ?_ | refine W.bs0 fun b_ => ?_ | refine W.ma fun b_ => ?_ | refine W.bsl fun b_ => ?_ | refine W.zu ?_ | refine W.zf ?_ | refine W.zd ?_ | refine W.zs ?_ | refine W.zv ?_ | refine W.zx ?_ | refine W.ex ?_ | refine W.mf ?_ | refine W.mk ?_ | refine SW.seq ?_ | refine SW.region ?_ | refine SW.cond_t rfl ?_ | refine SW.cond_f rfl ?_ | refine SW.exit ?_ | refine SW.ret ?_ | refine SW.skip ?_))
  refine SW.cutH [1] ((bg, cl (geoL p t) 39) :: H3) (fun x : Value × Hp => [(3, x.1)]) (fun x => (bg, cl (geoL p t) 39) :: x.2) (fun x => Sl 163 2 x.1 (pcs ([(1, 0)] ++ Gm.row 2 e ++ Gm.row 3 s ++ Gm.row 4 (t + 1))) x.2) ?_ ?_
  · (repeat' (first | refine W.mv ?_ | refine W.zl ?_ | refine W.fa ?_ | refine W.nl ?_ | refine W.as ?_ | refine W.zb ?_ | refine W.za ?_ | refine W.zi ?_ | refine W.zc ?_ | refine W.zp ?_ | refine W.st ?_ | refine SL.nilB ?_ | refine SL.nil ?_ | refine W.al fun b_ => ?_ | refine W.bx fun b_ => ?_ | refine W.bxa fun b_ => ?_ | refine W.sw ?_ | refine W.sa ?_ | refine W.sk ?_ | refine W.bs0 fun b_ => ?_ | refine W.ma fun b_ => ?_ | refine W.bsl fun b_ => ?_ | refine W.zu ?_ | refine W.zf ?_ | refine W.zd ?_ | refine W.zs ?_ | refine W.zv ?_ | refine W.zx ?_ | refine W.ex ?_ | refine W.mf ?_ | refine W.mk ?_ | refine SW.seq ?_ | refine SW.region ?_ | refine SW.block ?_ | refine SW.cond_t rfl ?_ | refine SW.cond_f rfl ?_ | refine SW.exit ?_ | refine SW.ret ?_ | refine SW.skip ?_))
    refine SW.loopF [1] (fun x : Nat × Value × Hp => [(3, x.2.1), (6, .int .i64 (x.1 : Int))]) (fun x => (bg, cl (geoL p t) 39) :: x.2.2) (fun x => (t + 1) - x.1) (fun x => x.1 ≤ (t + 1) ∧ Sl 163 2 x.2.1 (pcs ([(1, 0)] ++ Gm.row 2 e ++ Gm.row 3 s ++ Gm.row 4 x.1)) x.2.2) (0, v3, H3) ⟨Nat.zero_le _, by simpa [Gm.row] using hS⟩ ?_
    rintro ⟨k, v2, H2⟩ ⟨hk, hS⟩
    dsimp only at hk hS ⊢
    have hS1 := hS.isOne
    have hlen : ([(1, 0)] ++ Gm.row 2 e ++ Gm.row 3 s ++ Gm.row 4 k).length ≤ 1000 := by simp only [List.length_append, Gm.row_len, List.length_singleton]; omega
    have hbk := hb1 4 (k : Int)
    have hbs : bfill (fun i => some (i * 2, 2)) (zs [.int .i64 0, .int .i64 0] 1) [(0, .agg [.int .i64 (4 : Int), .int .i64 (k : Int)].toArray)] = some (pc (4, k)) := rfl
    by_cases h : k < (t + 1)
    · (repeat' (first | refine W.mv ?_ | refine W.zl ?_ | refine W.fa ?_ | refine W.nl ?_ | refine W.as ?_ | refine W.zb ?_ | refine W.za ?_ | refine W.zi ?_ | refine W.zc ?_ | refine W.zp ?_ | refine W.st ?_ | refine SL.nilB ?_ | refine SL.nil ?_ | refine W.al fun b_ => ?_ | refine W.bx fun b_ => ?_ | refine W.bxa fun b_ => ?_ | refine W.sw ?_ | refine W.sa ?_ | refine W.sk ?_ | refine W.bs0 fun b_ => ?_ | refine W.ma fun b_ => ?_ | refine W.bsl fun b_ => ?_ | refine W.zu ?_ | refine W.zf ?_ | refine W.zd ?_ | refine W.zs ?_ | refine W.zv ?_ | refine W.zx ?_ | refine W.ex ?_ | refine W.mf ?_ | refine W.mk ?_ | refine SW.seq ?_ | refine SW.region ?_ | refine SW.block ?_ | refine SW.cond_t rfl ?_ | refine SW.cond_f rfl ?_ | refine SW.exit ?_ | refine SW.ret ?_ | refine SW.skip ?_))
      refine W.ap (ys := pc (4, k)) (mm := 1) hS (fun w2 hs => (Sl.own 163 2 b_ (xs := pc (4, k)) rfl).srcAt hs inferInstance) (fun v3 H3 h3 => ?_) (hys := rfl) (hbytes := by rw [pcs_len]; simp only [pc, List.length_cons, List.length_nil]; omega)
      have h31 := h3.isOne
      rw [pcs_snoc, List.append_assoc, ← Gm.row_succ] at h3
      (repeat' (first | refine W.mv ?_ | refine W.zl ?_ | refine W.fa ?_ | refine W.nl ?_ | refine W.as ?_ | refine W.zb ?_ | refine W.za ?_ | refine W.zi ?_ | refine W.zc ?_ | refine W.zp ?_ | refine W.st ?_ | refine SL.nilB ?_ | refine SL.nil ?_ | refine W.al fun b_ => ?_ | refine W.bx fun b_ => ?_ | refine W.bxa fun b_ => ?_ | refine W.sw ?_ | refine W.sa ?_ | refine W.sk ?_ | refine W.bs0 fun b_ => ?_ | refine W.ma fun b_ => ?_ | refine W.bsl fun b_ => ?_ | refine W.zu ?_ | refine W.zf ?_ | refine W.zd ?_ | refine W.zs ?_ | refine W.zv ?_ | refine W.zx ?_ | refine W.ex ?_ | refine W.mf ?_ | refine W.mk ?_ | refine SW.seq ?_ | refine SW.region ?_ | refine SW.block ?_ | refine SW.cond_t rfl ?_ | refine SW.cond_f rfl ?_ | refine SW.exit ?_ | refine SW.ret ?_ | refine SW.skip ?_))
      refine HandF.mk (k + 1, v3, H3) ?_
      exact ⟨h, h3⟩
    · have hk2 : k = (t + 1) := by omega
      rw [hk2] at hS
      (repeat' (first | refine W.mv ?_ | refine W.zl ?_ | refine W.fa ?_ | refine W.nl ?_ | refine W.as ?_ | refine W.zb ?_ | refine W.za ?_ | refine W.zi ?_ | refine W.zc ?_ | refine W.zp ?_ | refine W.st ?_ | refine SL.nilB ?_ | refine SL.nil ?_ | refine W.al fun b_ => ?_ | refine W.bx fun b_ => ?_ | refine W.bxa fun b_ => ?_ | refine W.sw ?_ | refine W.sa ?_ | refine W.sk ?_ | refine W.bs0 fun b_ => ?_ | refine W.ma fun b_ => ?_ | refine W.bsl fun b_ => ?_ | refine W.zu ?_ | refine W.zf ?_ | refine W.zd ?_ | refine W.zs ?_ | refine W.zv ?_ | refine W.zx ?_ | refine W.ex ?_ | refine W.mf ?_ | refine W.mk ?_ | refine SW.seq ?_ | refine SW.region ?_ | refine SW.block ?_ | refine SW.cond_t rfl ?_ | refine SW.cond_f rfl ?_ | refine SW.exit ?_ | refine SW.ret ?_ | refine SW.skip ?_))
      refine CutF.mk (v2, H2) ?_
      exact hS
  rintro ⟨v4, H4⟩ hS
  dsimp only at hS ⊢
  have hS4 := hS.isOne
  (repeat' (first | refine W.mv ?_ | refine W.zl ?_ | refine W.fa ?_ | refine W.nl ?_ | refine W.as ?_ | refine W.zb ?_ | refine W.za ?_ | refine W.zi ?_ | refine W.zc ?_ | refine W.zp ?_ | refine W.st ?_ | refine SL.nilB ?_ | refine SL.nil ?_ | refine W.al fun b_ => ?_ | refine W.bx fun b_ => ?_ | refine W.bxa fun b_ => ?_ | refine W.sw ?_ | refine W.sa ?_ | refine W.sk ?_ | refine W.bs0 fun b_ => ?_ | refine W.ma fun b_ => ?_ | refine W.bsl fun b_ => ?_ | refine W.zu ?_ | refine W.zf ?_ | refine W.zd ?_ | refine W.zs ?_ | refine W.zv ?_ | refine W.zx ?_ | refine W.ex ?_ | refine W.mf ?_ | refine W.mk ?_ | refine SW.seq ?_ | refine SW.region ?_ | refine SW.block ?_ | refine SW.cond_t rfl ?_ | refine SW.cond_f rfl ?_ | refine SW.exit ?_ | refine SW.ret ?_ | refine SW.skip ?_))
  refine Fin.to H4 ?_
  exact F.f1 ⟨H4, hS, rfl⟩
end Go.Proofs.YtieamijnajbcnaaGreat
