/- The document's path; the root that a leaf and its path lead to. -/
import Derived.Test.YtieamijnajbcnaaD8
set_option linter.unusedVariables false
set_option linter.unusedSimpArgs false
namespace Go.Proofs.Ytieamijnajbcnaa
open Go
attribute [local irreducible] SW SL SQ SH SA SS Pu Fin CutF HandF

theorem F.cHt {P : Program} {C : Ctx} {ρ : Fr} {H : Hp} {fn : Func} {R : Value → Hp → Prop} {e : Exit} {t ty n b u : Nat} {l : List Value} {v2 : Value} {T : TypeId} (Hc : Hp) {s : Hp} (l2 : List Value) [hp : Part H Hc s] (hR : R (.tuple #[.agg l2.toArray, v2]) Hc) (he : e = .ret ∨ e = .normal := by first | exact .inl rfl | exact .inr rfl) (hrs : fn.results = #[.cell t ty, .tmp u] := by exact rfl) (ht : lk ρ t = some (.pointer (some ⟨b, 0, none⟩)) := by exact rfl) (hu : lk ρ u = some v2 := by exact rfl) (hat : At H b (cl l T) := by infer_instance) (hl : l = l2 := by first | assumption | exact rfl) (iR : RowTy P ty n := by infer_instance) (hn : l2.length = n := by first | assumption | exact rfl) : Fin P C fn R e ρ H := by
  subst hl
  exact Fin.c1t1 he hrs ht hu hn Hc hR
theorem rpath_p (l : List (List UInt8)) (hl : D32 l) (v : Value) (k : Nat) (hk : k < l.length) (h2 : l.length ≤ 1024) :
    Tri Try.prog 34 [v, .int .i64 (k : Int)] [] (fun w => Rd [] w 32 v (cbs l.flatten)) (fun r H => Sl 24 32 r (cbs (pathV l k (dep l.length)).flatten) H) := by
  refine Tri.mk Try.func34 rfl Try.ntmps34 rfl fun w hw => ?_
  have hw2 := hw
  obtain ⟨a, cap, rfl, hc, hg⟩ := hw.row hl
  have hle := dep_le l.length
  have hd10 := dep_max (n := l.length) (k := 10) (by simpa using h2)
  have hdp := rdepth_p l.length (by omega)
  generalize dep l.length = D at *
  (repeat' (first | refine W.mv ?_ | refine W.zl ?_ | refine W.fa ?_ | refine W.nl ?_ | refine W.as ?_ | refine W.zb ?_ | refine W.za ?_ | refine W.zi ?_ | refine W.zc ?_ | refine W.zp ?_ | refine W.st ?_ | refine SL.nilB ?_ | refine SL.nil ?_ | refine W.al fun b_ => ?_ | refine W.bx fun b_ => ?_ | refine W.bxa fun b_ => ?_ | refine W.sw ?_ | refine W.sa ?_ | refine W.sk ?_ | refine W.bs0 fun b_ => ?_ | refine W.ma fun b_ => ?_ | refine W.bsl fun b_ => ?_ | refine W.zu ?_ | refine W.zf ?_ | refine W.zd ?_ | refine W.zs ?_ | refine W.zv ?_ | refine W.zx ?_ | refine W.ex ?_ | refine W.mf ?_ | refine W.mk ?_ | refine SW.seq ?_ | refine SW.region ?_ | refine SW.cond_t rfl ?_ | refine SW.cond_f rfl ?_ | refine SW.exit ?_ | refine SW.ret ?_ | refine SW.skip ?_))
  refine SW.cutH [] [] (fun x : Value × Hp => [(5, x.1)]) (fun x => x.2) (fun x => Sl 24 32 x.1 (cbs (pathV l k D).flatten) x.2) ?_ ?_
  · (repeat' (first | refine W.mv ?_ | refine W.zl ?_ | refine W.fa ?_ | refine W.nl ?_ | refine W.as ?_ | refine W.zb ?_ | refine W.za ?_ | refine W.zi ?_ | refine W.zc ?_ | refine W.zp ?_ | refine W.st ?_ | refine SL.nilB ?_ | refine SL.nil ?_ | refine W.al fun b_ => ?_ | refine W.bx fun b_ => ?_ | refine W.bxa fun b_ => ?_ | refine W.sw ?_ | refine W.sa ?_ | refine W.sk ?_ | refine W.bs0 fun b_ => ?_ | refine W.ma fun b_ => ?_ | refine W.bsl fun b_ => ?_ | refine W.zu ?_ | refine W.zf ?_ | refine W.zd ?_ | refine W.zs ?_ | refine W.zv ?_ | refine W.zx ?_ | refine W.ex ?_ | refine W.mf ?_ | refine W.mk ?_ | refine SW.seq ?_ | refine SW.region ?_ | refine SW.block ?_ | refine SW.cond_t rfl ?_ | refine SW.cond_f rfl ?_ | refine SW.exit ?_ | refine SW.ret ?_ | refine SW.skip ?_))
    rw [show (k : Int) = ((k / 2 ^ 0 : Nat) : Int) by simp]
    refine SW.loopF [0] (fun x : Nat × Value × Hp => [(1, .int .i64 ((k / 2 ^ x.1 : Nat) : Int)), (5, x.2.1), (6, .int .i64 (x.1 : Int))]) (fun x => x.2.2) (fun x => D - x.1) (fun x => x.1 ≤ D ∧ Sl 24 32 x.2.1 (cbs (pathV l k x.1).flatten) x.2.2) (0, .slice none 0 0, []) ⟨Nat.zero_le _, Sl.nil _ _⟩ ?_
    rintro ⟨d, v2, H2⟩ ⟨hd, h2'⟩
    dsimp only at hd h2' ⊢
    have h21 := h2'.isOne
    by_cases hdD : d < D
    · have hXY : 2 ^ (D - d) = 2 ^ (D - (d + 1)) * 2 := by rw [show D - d = D - (d + 1) + 1 by omega, Nat.pow_succ]
      have hXd : 2 ^ (D - d) * 2 ^ d = 2 ^ D := by rw [← Nat.pow_add, show D - d + d = D by omega]
      have hDm : 2 ^ D ≤ 1024 := Nat.pow_le_pow_right (n := 2) (by omega) hd10
      have hjd : k / 2 ^ d < 2 ^ (D - d) := by
        rw [Nat.div_lt_iff_lt_mul (Nat.pow_pos (by omega)), hXd]
        omega
      have hs : sib (k / 2 ^ d) < 2 ^ (D - d) := by rw [hXY] at hjd ⊢; exact sib_lt hjd
      have hsm : (sib (k / 2 ^ d) + 1) * 2 ^ d ≤ 2 ^ (D - d) * 2 ^ d := Nat.mul_le_mul_right _ hs
      have hat := rat_p l hl (.slice a l.length cap) (by omega) d (sib (k / 2 ^ d)) (by omega)
      have hc := cl32 (atV_len hl d (sib (k / 2 ^ d)))
      have hb1 := b1d (atV_len hl d (sib (k / 2 ^ d)))
      have hjj : k / 2 ^ d ≤ k := Nat.div_le_self ..
      have hnx := half_pow k d
      have hnp := pathV_next l k d
      have hpl := pathV_len l k d
      have hfl := flatN_len (pathV_32 hl k d)
      have hnx2 : ((k / 2 ^ (d + 1) : Nat) : Int) = ((k / 2 ^ d : Nat) : Int) / 2 := by rw [← hnx]; rfl
      have hS : sib (k / 2 ^ d) = if (k / 2 ^ d) % 2 = 1 then k / 2 ^ d - 1 else k / 2 ^ d + 1 := rfl
      generalize sib (k / 2 ^ d) = S at *
      generalize 2 ^ (D - d) = X at *
      generalize k / 2 ^ d = J at *
      clear hXY hXd hsm
      by_cases ho : J % 2 = 1
      · rw [if_pos ho] at hS
        (repeat' (first | refine W.mv ?_ | refine W.zl ?_ | refine W.fa ?_ | refine W.nl ?_ | refine W.as ?_ | refine W.zb ?_ | refine W.za ?_ | refine W.zi ?_ | refine W.zc ?_ | refine W.zp ?_ | refine W.st ?_ | refine SL.nilB ?_ | refine SL.nil ?_ | refine W.al fun b_ => ?_ | refine W.bx fun b_ => ?_ | refine W.bxa fun b_ => ?_ | refine W.sw ?_ | refine W.sa ?_ | refine W.sk ?_ | refine W.bs0 fun b_ => ?_ | refine W.ma fun b_ => ?_ | refine W.bsl fun b_ => ?_ | refine W.zu ?_ | refine W.zf ?_ | refine W.zd ?_ | refine W.zs ?_ | refine W.zv ?_ | refine W.zx ?_ | refine W.ex ?_ | refine W.mf ?_ | refine W.mk ?_ | refine SW.seq ?_ | refine SW.region ?_ | refine SW.block ?_ | refine SW.cond_t rfl ?_ | refine SW.cond_f rfl ?_ | refine SW.exit ?_ | refine SW.ret ?_ | refine SW.skip ?_))
        refine W.call hdp ?_
        rintro _ _ ⟨rfl, rfl⟩
        (repeat' (first | refine W.mv ?_ | refine W.zl ?_ | refine W.fa ?_ | refine W.nl ?_ | refine W.as ?_ | refine W.zb ?_ | refine W.za ?_ | refine W.zi ?_ | refine W.zc ?_ | refine W.zp ?_ | refine W.st ?_ | refine SL.nilB ?_ | refine SL.nil ?_ | refine W.al fun b_ => ?_ | refine W.bx fun b_ => ?_ | refine W.bxa fun b_ => ?_ | refine W.sw ?_ | refine W.sa ?_ | refine W.sk ?_ | refine W.bs0 fun b_ => ?_ | refine W.ma fun b_ => ?_ | refine W.bsl fun b_ => ?_ | refine W.zu ?_ | refine W.zf ?_ | refine W.zd ?_ | refine W.zs ?_ | refine W.zv ?_ | refine W.zx ?_ | refine W.ex ?_ | refine W.mf ?_ | refine W.mk ?_ | refine SW.seq ?_ | refine SW.region ?_ | refine SW.block ?_ | refine SW.cond_t rfl ?_ | refine SW.cond_f rfl ?_ | refine SW.exit ?_ | refine SW.ret ?_ | refine SW.skip ?_))
        refine W.callE hat ?_ ?_ (hpre := fun w2 hs => hw2.ro (Hc := []) hs)
        · rw [show (S : Int) = (J : Int) - 1 by omega]
        rintro _ _ ⟨rfl, rfl⟩
        (repeat' (first | refine W.mv ?_ | refine W.zl ?_ | refine W.fa ?_ | refine W.nl ?_ | refine W.as ?_ | refine W.zb ?_ | refine W.za ?_ | refine W.zi ?_ | refine W.zc ?_ | refine W.zp ?_ | refine W.st ?_ | refine SL.nilB ?_ | refine SL.nil ?_ | refine W.al fun b_ => ?_ | refine W.bx fun b_ => ?_ | refine W.bxa fun b_ => ?_ | refine W.sw ?_ | refine W.sa ?_ | refine W.sk ?_ | refine W.bs0 fun b_ => ?_ | refine W.ma fun b_ => ?_ | refine W.bsl fun b_ => ?_ | refine W.zu ?_ | refine W.zf ?_ | refine W.zd ?_ | refine W.zs ?_ | refine W.zv ?_ | refine W.zx ?_ | refine W.ex ?_ | refine W.mf ?_ | refine W.mk ?_ | refine SW.seq ?_ | refine SW.region ?_ | refine SW.block ?_ | refine SW.cond_t rfl ?_ | refine SW.cond_f rfl ?_ | refine SW.exit ?_ | refine SW.ret ?_ | refine SW.skip ?_))
        refine W.ap (ys := cbs (atV l d S)) (mm := 1) h2' (fun w2 hs => (Sl.own 24 32 b_ (xs := cbs (atV l d S)) hc).srcAt hs inferInstance) (fun v3 H3 h3 => ?_) (hys := hc) (hbytes := by rw [hc, cbs_len, hfl, hpl]; omega)
        have h31 := h3.isOne
        rw [snoc_fl, hnp] at h3
        (repeat' (first | refine W.mv ?_ | refine W.zl ?_ | refine W.fa ?_ | refine W.nl ?_ | refine W.as ?_ | refine W.zb ?_ | refine W.za ?_ | refine W.zi ?_ | refine W.zc ?_ | refine W.zp ?_ | refine W.st ?_ | refine SL.nilB ?_ | refine SL.nil ?_ | refine W.al fun b_ => ?_ | refine W.bx fun b_ => ?_ | refine W.bxa fun b_ => ?_ | refine W.sw ?_ | refine W.sa ?_ | refine W.sk ?_ | refine W.bs0 fun b_ => ?_ | refine W.ma fun b_ => ?_ | refine W.bsl fun b_ => ?_ | refine W.zu ?_ | refine W.zf ?_ | refine W.zd ?_ | refine W.zs ?_ | refine W.zv ?_ | refine W.zx ?_ | refine W.ex ?_ | refine W.mf ?_ | refine W.mk ?_ | refine SW.seq ?_ | refine SW.region ?_ | refine SW.block ?_ | refine SW.cond_t rfl ?_ | refine SW.cond_f rfl ?_ | refine SW.exit ?_ | refine SW.ret ?_ | refine SW.skip ?_))
        rw [← hnx2]
        refine HandF.mk (d + 1, v3, H3) ?_
        exact ⟨hdD, h3⟩
      · rw [if_neg ho] at hS
        (repeat' (first | refine W.mv ?_ | refine W.zl ?_ | refine W.fa ?_ | refine W.nl ?_ | refine W.as ?_ | refine W.zb ?_ | refine W.za ?_ | refine W.zi ?_ | refine W.zc ?_ | refine W.zp ?_ | refine W.st ?_ | refine SL.nilB ?_ | refine SL.nil ?_ | refine W.al fun b_ => ?_ | refine W.bx fun b_ => ?_ | refine W.bxa fun b_ => ?_ | refine W.sw ?_ | refine W.sa ?_ | refine W.sk ?_ | refine W.bs0 fun b_ => ?_ | refine W.ma fun b_ => ?_ | refine W.bsl fun b_ => ?_ | refine W.zu ?_ | refine W.zf ?_ | refine W.zd ?_ | refine W.zs ?_ | refine W.zv ?_ | refine W.zx ?_ | refine W.ex ?_ | refine W.mf ?_ | refine W.mk ?_ | refine SW.seq ?_ | refine SW.region ?_ | refine SW.block ?_ | refine SW.cond_t rfl ?_ | refine SW.cond_f rfl ?_ | refine SW.exit ?_ | refine SW.ret ?_ | refine SW.skip ?_))
        refine W.call hdp ?_
        rintro _ _ ⟨rfl, rfl⟩
        (repeat' (first | refine W.mv ?_ | refine W.zl ?_ | refine W.fa ?_ | refine W.nl ?_ | refine W.as ?_ | refine W.zb ?_ | refine W.za ?_ | refine W.zi ?_ | refine W.zc ?_ | refine W.zp ?_ | refine W.st ?_ | refine SL.nilB ?_ | refine SL.nil ?_ | refine W.al fun b_ => ?_ | refine W.bx fun b_ => ?_ | refine W.bxa fun b_ => ?_ | refine W.sw ?_ | refine W.sa ?_ | refine W.sk ?_ | refine W.bs0 fun b_ => ?_ | refine W.ma fun b_ => ?_ | refine W.bsl fun b_ => ?_ | refine W.zu ?_ | refine W.zf ?_ | refine W.zd ?_ | refine W.zs ?_ | refine W.zv ?_ | refine W.zx ?_ | refine W.ex ?_ | refine W.mf ?_ | refine W.mk ?_ | refine SW.seq ?_ | refine SW.region ?_ | refine SW.block ?_ | refine SW.cond_t rfl ?_ | refine SW.cond_f rfl ?_ | refine SW.exit ?_ | refine SW.ret ?_ | refine SW.skip ?_))
        refine W.callE hat ?_ ?_ (hpre := fun w2 hs => hw2.ro (Hc := []) hs)
        · rw [show (S : Int) = (J : Int) + 1 by omega]
        rintro _ _ ⟨rfl, rfl⟩
        (repeat' (first | refine W.mv ?_ | refine W.zl ?_ | refine W.fa ?_ | refine W.nl ?_ | refine W.as ?_ | refine W.zb ?_ | refine W.za ?_ | refine W.zi ?_ | refine W.zc ?_ | refine W.zp ?_ | refine W.st ?_ | refine SL.nilB ?_ | refine SL.nil ?_ | refine W.al fun b_ => ?_ | refine W.bx fun b_ => ?_ | refine W.bxa fun b_ => ?_ | refine W.sw ?_ | refine W.sa ?_ | refine W.sk ?_ | refine W.bs0 fun b_ => ?_ | refine W.ma fun b_ => ?_ | refine W.bsl fun b_ => ?_ | refine W.zu ?_ | refine W.zf ?_ | refine W.zd ?_ | refine W.zs ?_ | refine W.zv ?_ | refine W.zx ?_ | refine W.ex ?_ | refine W.mf ?_ | refine W.mk ?_ | refine SW.seq ?_ | refine SW.region ?_ | refine SW.block ?_ | refine SW.cond_t rfl ?_ | refine SW.cond_f rfl ?_ | refine SW.exit ?_ | refine SW.ret ?_ | refine SW.skip ?_))
        refine W.ap (ys := cbs (atV l d S)) (mm := 1) h2' (fun w2 hs => (Sl.own 24 32 b_ (xs := cbs (atV l d S)) hc).srcAt hs inferInstance) (fun v3 H3 h3 => ?_) (hys := hc) (hbytes := by rw [hc, cbs_len, hfl, hpl]; omega)
        have h31 := h3.isOne
        rw [snoc_fl, hnp] at h3
        (repeat' (first | refine W.mv ?_ | refine W.zl ?_ | refine W.fa ?_ | refine W.nl ?_ | refine W.as ?_ | refine W.zb ?_ | refine W.za ?_ | refine W.zi ?_ | refine W.zc ?_ | refine W.zp ?_ | refine W.st ?_ | refine SL.nilB ?_ | refine SL.nil ?_ | refine W.al fun b_ => ?_ | refine W.bx fun b_ => ?_ | refine W.bxa fun b_ => ?_ | refine W.sw ?_ | refine W.sa ?_ | refine W.sk ?_ | refine W.bs0 fun b_ => ?_ | refine W.ma fun b_ => ?_ | refine W.bsl fun b_ => ?_ | refine W.zu ?_ | refine W.zf ?_ | refine W.zd ?_ | refine W.zs ?_ | refine W.zv ?_ | refine W.zx ?_ | refine W.ex ?_ | refine W.mf ?_ | refine W.mk ?_ | refine SW.seq ?_ | refine SW.region ?_ | refine SW.block ?_ | refine SW.cond_t rfl ?_ | refine SW.cond_f rfl ?_ | refine SW.exit ?_ | refine SW.ret ?_ | refine SW.skip ?_))
        rw [← hnx2]
        refine HandF.mk (d + 1, v3, H3) ?_
        exact ⟨hdD, h3⟩
    · have hd2 : d = D := by omega
      subst hd2
      (repeat' (first | refine W.mv ?_ | refine W.zl ?_ | refine W.fa ?_ | refine W.nl ?_ | refine W.as ?_ | refine W.zb ?_ | refine W.za ?_ | refine W.zi ?_ | refine W.zc ?_ | refine W.zp ?_ | refine W.st ?_ | refine SL.nilB ?_ | refine SL.nil ?_ | refine W.al fun b_ => ?_ | refine W.bx fun b_ => ?_ | refine W.bxa fun b_ => ?_ | refine W.sw ?_ | refine W.sa ?_ | refine W.sk ?_ | refine W.bs0 fun b_ => ?_ | refine W.ma fun b_ => ?_ | refine W.bsl fun b_ => ?_ | refine W.zu ?_ | refine W.zf ?_ | refine W.zd ?_ | refine W.zs ?_ | refine W.zv ?_ | refine W.zx ?_ | refine W.ex ?_ | refine W.mf ?_ | refine W.mk ?_ | refine SW.seq ?_ | refine SW.region ?_ | refine SW.block ?_ | refine SW.cond_t rfl ?_ | refine SW.cond_f rfl ?_ | refine SW.exit ?_ | refine SW.ret ?_ | refine SW.skip ?_))
      refine W.call hdp ?_
      rintro _ _ ⟨rfl, rfl⟩
      (repeat' (first | refine W.mv ?_ | refine W.zl ?_ | refine W.fa ?_ | refine W.nl ?_ | refine W.as ?_ | refine W.zb ?_ | refine W.za ?_ | refine W.zi ?_ | refine W.zc ?_ | refine W.zp ?_ | refine W.st ?_ | refine SL.nilB ?_ | refine SL.nil ?_ | refine W.al fun b_ => ?_ | refine W.bx fun b_ => ?_ | refine W.bxa fun b_ => ?_ | refine W.sw ?_ | refine W.sa ?_ | refine W.sk ?_ | refine W.bs0 fun b_ => ?_ | refine W.ma fun b_ => ?_ | refine W.bsl fun b_ => ?_ | refine W.zu ?_ | refine W.zf ?_ | refine W.zd ?_ | refine W.zs ?_ | refine W.zv ?_ | refine W.zx ?_ | refine W.ex ?_ | refine W.mf ?_ | refine W.mk ?_ | refine SW.seq ?_ | refine SW.region ?_ | refine SW.block ?_ | refine SW.cond_t rfl ?_ | refine SW.cond_f rfl ?_ | refine SW.exit ?_ | refine SW.ret ?_ | refine SW.skip ?_))
      refine CutF.mk (v2, H2) ?_
      exact h2'
  rintro ⟨v2, H2⟩ h2'
  dsimp only at h2' ⊢
  have h21 := h2'.isOne
  (repeat' (first | refine W.mv ?_ | refine W.zl ?_ | refine W.fa ?_ | refine W.nl ?_ | refine W.as ?_ | refine W.zb ?_ | refine W.za ?_ | refine W.zi ?_ | refine W.zc ?_ | refine W.zp ?_ | refine W.st ?_ | refine SL.nilB ?_ | refine SL.nil ?_ | refine W.al fun b_ => ?_ | refine W.bx fun b_ => ?_ | refine W.bxa fun b_ => ?_ | refine W.sw ?_ | refine W.sa ?_ | refine W.sk ?_ | refine W.bs0 fun b_ => ?_ | refine W.ma fun b_ => ?_ | refine W.bsl fun b_ => ?_ | refine W.zu ?_ | refine W.zf ?_ | refine W.zd ?_ | refine W.zs ?_ | refine W.zv ?_ | refine W.zx ?_ | refine W.ex ?_ | refine W.mf ?_ | refine W.mk ?_ | refine SW.seq ?_ | refine SW.region ?_ | refine SW.block ?_ | refine SW.cond_t rfl ?_ | refine SW.cond_f rfl ?_ | refine SW.exit ?_ | refine SW.ret ?_ | refine SW.skip ?_))
  refine Fin.to H2 ?_
  exact F.f1 h2'
theorem up_pl (d i : Nat) (hd : d ≤ 1099511627776) (hi : i ≤ 1099511627776) : Tri Try.prog 60 [placeV d i] [] (fun _ => True) (fun v H => v = placeV (d + 1) (i / 2) ∧ H = []) := by
  refine Tri.mk Try.func60 rfl Try.ntmps60 rfl fun w hw => ?_
  have hbp : bfill (fun i => [(0, 1), (1, 1)][i]?) ([.int .i64 0] ++ [.int .i64 0]) [(0, .int .i64 ((d : Int) + 1)), (1, .int .i64 ((i : Int) / 2))] = some [.int .i64 ((d + 1 : Nat) : Int), .int .i64 ((i / 2 : Nat) : Int)] := rfl
  (repeat' (first | refine W.mv ?_ | refine W.zl ?_ | refine W.fa ?_ | refine W.nl ?_ | refine W.as ?_ | refine W.zb ?_ | refine W.za ?_ | refine W.zi ?_ | refine W.zc ?_ | refine W.zp ?_ | refine W.st ?_ | refine SL.nilB ?_ | refine SL.nil ?_ | refine W.al fun b_ => ?_ | refine W.bx fun b_ => ?_ | refine W.bxa fun b_ => ?_ | refine W.sw ?_ | refine W.sa ?_ | refine W.sk ?_ | refine W.bs0 fun b_ => ?_ | refine W.ma fun b_ => ?_ | refine W.bsl fun b_ => ?_ | refine W.zu ?_ | refine W.zf ?_ | refine W.zd ?_ | refine W.zs ?_ | refine W.zv ?_ | refine W.zx ?_ | refine W.ex ?_ | refine W.mf ?_ | refine W.mk ?_ | refine SW.seq ?_ | refine SW.region ?_ | refine SW.block ?_ | refine SW.cond_t rfl ?_ | refine SW.cond_f rfl ?_ | refine SW.exit ?_ | refine SW.ret ?_ | refine SW.skip ?_))
  exact F.c0 [.int .i64 ((d + 1 : Nat) : Int), .int .i64 ((i / 2 : Nat) : Int)] ⟨rfl, rfl⟩
/-- One step up. -/
def upS (s : Nat × Nat × List UInt8) (y : List UInt8) : Nat × Nat × List UInt8 := (s.1 + 1, s.2.1 / 2, if s.2.1 % 2 = 1 then nodeV (s.1 + 1) (s.2.1 / 2) y s.2.2 else nodeV (s.1 + 1) (s.2.1 / 2) s.2.2 y)
def upTo (k : Nat) (x : List UInt8) (p : List (List UInt8)) (d : Nat) : Nat × Nat × List UInt8 := (p.take d).foldl upS (0, k, x)
theorem upTo_0 (k : Nat) (x : List UInt8) (p : List (List UInt8)) : upTo k x p 0 = (0, k, x) := rfl
theorem upTo_next (k : Nat) (x : List UInt8) {p : List (List UInt8)} {d : Nat} {y : List UInt8} (h : p[d]? = some y) : upTo k x p (d + 1) = upS (upTo k x p d) y := by
  obtain ⟨hl, hv⟩ := List.getElem?_eq_some_iff.1 h
  unfold upTo
  rw [List.take_add_one, h]
  simp
theorem upTo_inv (k : Nat) {x : List UInt8} (hx : x.length = 32) (p : List (List UInt8)) : ∀ d, d ≤ p.length → (upTo k x p d).1 = d ∧ (upTo k x p d).2.1 = k / 2 ^ d ∧ (upTo k x p d).2.2.length = 32 := by
  intro d
  induction d with
  | zero => intro _; exact ⟨rfl, by simp [upTo], hx⟩
  | succ d ih =>
    intro hd
    obtain ⟨h1, h2, h3⟩ := ih (by omega)
    rw [upTo_next k x (List.getElem?_eq_getElem (show d < p.length by omega))]
    refine ⟨by simp [upS, h1], ?_, ?_⟩
    · simp only [upS, h2]; exact half_pow k d
    · unfold upS; dsimp only; split <;> exact nodeV_len ..
/-- The path of a tree leads to its root. -/
theorem upTo_path (l : List (List UInt8)) (k D : Nat) : ∀ d, d ≤ D → upTo k (atV l 0 k) (pathV l k D) d = (d, k / 2 ^ d, atV l d (k / 2 ^ d)) := by
  intro d
  induction d with
  | zero => intro _; simp [upTo]
  | succ d ih =>
    intro hd
    have hg : (pathV l k D)[d]? = some (atV l d (sib (k / 2 ^ d))) := by simp [pathV, show d < D by omega]
    rw [upTo_next _ _ hg, ih (by omega)]
    unfold upS
    dsimp only
    have hh := half_pow k d
    rw [hh]
    rw [show atV l (d + 1) (k / 2 ^ (d + 1)) = nodeV (d + 1) (k / 2 ^ (d + 1)) (atV l d (2 * (k / 2 ^ (d + 1)))) (atV l d (2 * (k / 2 ^ (d + 1)) + 1)) from rfl]
    unfold sib
    by_cases ho : k / 2 ^ d % 2 = 1
    · rw [if_pos ho, if_pos ho, show k / 2 ^ d - 1 = 2 * (k / 2 ^ (d + 1)) by omega, show 2 * (k / 2 ^ (d + 1)) + 1 = k / 2 ^ d by omega]
    · rw [if_neg ho, if_neg ho, show k / 2 ^ d + 1 = 2 * (k / 2 ^ (d + 1)) + 1 by omega, show 2 * (k / 2 ^ (d + 1)) = k / 2 ^ d by omega]
/-- What a leaf and its path lead to. -/
def upV (n k : Nat) (x : List UInt8) (p : List (List UInt8)) : List UInt8 := Sha.sum (rootT n (upTo k x p p.length).2.2)
def upOk (n k : Int) (p : List (List UInt8)) : Prop := 1 ≤ n ∧ n ≤ 1024 ∧ 0 ≤ k ∧ k < n ∧ p.length = dep n.toNat
instance (n k : Int) (p : List (List UInt8)) : Decidable (upOk n k p) := by unfold upOk; infer_instance
theorem Up_bad {b : Nat} {Hb : Hp} (n k : Int) (x : List UInt8) (v : Value) (p : List (List UInt8)) (hx : x.length = 32) (hp : D32 p) (hbad : ¬ upOk n k p) :
    Tri Try.prog 30 [.pointer (some ⟨b, 0, none⟩), .int .i64 n, .int .i64 k, dgV x, v] Hb (fun w => Rd (Hb.map Prod.fst) w 32 v (cbs p.flatten)) (fun r H' => r = .tuple #[dgV z32, .int .i64 1] ∧ H' = Hb) := by
  refine Tri.mk Try.func30 rfl Try.ntmps30 rfl fun w hw => ?_
  have hw2 := hw
  obtain ⟨a, cap, rfl, hc, hg⟩ := hw.row hp
  have hx1 := cl32 hx
  unfold upOk at hbad
  by_cases h1 : n < 1
  · (repeat' (first | refine W.mv ?_ | refine W.zl ?_ | refine W.fa ?_ | refine W.nl ?_ | refine W.as ?_ | refine W.zb ?_ | refine W.za ?_ | refine W.zi ?_ | refine W.zc ?_ | refine W.zp ?_ | refine W.st ?_ | refine SL.nilB ?_ | refine SL.nil ?_ | refine W.al fun b_ => ?_ | refine W.bx fun b_ => ?_ | refine W.bxa fun b_ => ?_ | refine W.sw ?_ | refine W.sa ?_ | refine W.sk ?_ | refine W.bs0 fun b_ => ?_ | refine W.ma fun b_ => ?_ | refine W.bsl fun b_ => ?_ | refine W.zu ?_ | refine W.zf ?_ | refine W.zd ?_ | refine W.zs ?_ | refine W.zv ?_ | refine W.zx ?_ | refine W.ex ?_ | refine W.mf ?_ | refine W.mk ?_ | refine SW.seq ?_ | refine SW.region ?_ | refine SW.block ?_ | refine SW.cond_t rfl ?_ | refine SW.cond_f rfl ?_ | refine SW.exit ?_ | refine SW.ret ?_ | refine SW.skip ?_))
    exact F.cHt Hb (cbs z32) ⟨rfl, rfl⟩
  · by_cases h2 : 1024 < n
    · (repeat' (first | refine W.mv ?_ | refine W.zl ?_ | refine W.fa ?_ | refine W.nl ?_ | refine W.as ?_ | refine W.zb ?_ | refine W.za ?_ | refine W.zi ?_ | refine W.zc ?_ | refine W.zp ?_ | refine W.st ?_ | refine SL.nilB ?_ | refine SL.nil ?_ | refine W.al fun b_ => ?_ | refine W.bx fun b_ => ?_ | refine W.bxa fun b_ => ?_ | refine W.sw ?_ | refine W.sa ?_ | refine W.sk ?_ | refine W.bs0 fun b_ => ?_ | refine W.ma fun b_ => ?_ | refine W.bsl fun b_ => ?_ | refine W.zu ?_ | refine W.zf ?_ | refine W.zd ?_ | refine W.zs ?_ | refine W.zv ?_ | refine W.zx ?_ | refine W.ex ?_ | refine W.mf ?_ | refine W.mk ?_ | refine SW.seq ?_ | refine SW.region ?_ | refine SW.block ?_ | refine SW.cond_t rfl ?_ | refine SW.cond_f rfl ?_ | refine SW.exit ?_ | refine SW.ret ?_ | refine SW.skip ?_))
      exact F.cHt Hb (cbs z32) ⟨rfl, rfl⟩
    · by_cases h3 : k < 0
      · (repeat' (first | refine W.mv ?_ | refine W.zl ?_ | refine W.fa ?_ | refine W.nl ?_ | refine W.as ?_ | refine W.zb ?_ | refine W.za ?_ | refine W.zi ?_ | refine W.zc ?_ | refine W.zp ?_ | refine W.st ?_ | refine SL.nilB ?_ | refine SL.nil ?_ | refine W.al fun b_ => ?_ | refine W.bx fun b_ => ?_ | refine W.bxa fun b_ => ?_ | refine W.sw ?_ | refine W.sa ?_ | refine W.sk ?_ | refine W.bs0 fun b_ => ?_ | refine W.ma fun b_ => ?_ | refine W.bsl fun b_ => ?_ | refine W.zu ?_ | refine W.zf ?_ | refine W.zd ?_ | refine W.zs ?_ | refine W.zv ?_ | refine W.zx ?_ | refine W.ex ?_ | refine W.mf ?_ | refine W.mk ?_ | refine SW.seq ?_ | refine SW.region ?_ | refine SW.block ?_ | refine SW.cond_t rfl ?_ | refine SW.cond_f rfl ?_ | refine SW.exit ?_ | refine SW.ret ?_ | refine SW.skip ?_))
        exact F.cHt Hb (cbs z32) ⟨rfl, rfl⟩
      · by_cases h4 : n ≤ k
        · (repeat' (first | refine W.mv ?_ | refine W.zl ?_ | refine W.fa ?_ | refine W.nl ?_ | refine W.as ?_ | refine W.zb ?_ | refine W.za ?_ | refine W.zi ?_ | refine W.zc ?_ | refine W.zp ?_ | refine W.st ?_ | refine SL.nilB ?_ | refine SL.nil ?_ | refine W.al fun b_ => ?_ | refine W.bx fun b_ => ?_ | refine W.bxa fun b_ => ?_ | refine W.sw ?_ | refine W.sa ?_ | refine W.sk ?_ | refine W.bs0 fun b_ => ?_ | refine W.ma fun b_ => ?_ | refine W.bsl fun b_ => ?_ | refine W.zu ?_ | refine W.zf ?_ | refine W.zd ?_ | refine W.zs ?_ | refine W.zv ?_ | refine W.zx ?_ | refine W.ex ?_ | refine W.mf ?_ | refine W.mk ?_ | refine SW.seq ?_ | refine SW.region ?_ | refine SW.block ?_ | refine SW.cond_t rfl ?_ | refine SW.cond_f rfl ?_ | refine SW.exit ?_ | refine SW.ret ?_ | refine SW.skip ?_))
          exact F.cHt Hb (cbs z32) ⟨rfl, rfl⟩
        · obtain ⟨m, rfl⟩ : ∃ m : Nat, n = (m : Int) := ⟨n.toNat, by omega⟩
          rw [Int.toNat_natCast] at hbad
          have h5 : p.length ≠ dep m := fun h => hbad ⟨by omega, by omega, by omega, by omega, h⟩
          (repeat' (first | refine W.mv ?_ | refine W.zl ?_ | refine W.fa ?_ | refine W.nl ?_ | refine W.as ?_ | refine W.zb ?_ | refine W.za ?_ | refine W.zi ?_ | refine W.zc ?_ | refine W.zp ?_ | refine W.st ?_ | refine SL.nilB ?_ | refine SL.nil ?_ | refine W.al fun b_ => ?_ | refine W.bx fun b_ => ?_ | refine W.bxa fun b_ => ?_ | refine W.sw ?_ | refine W.sa ?_ | refine W.sk ?_ | refine W.bs0 fun b_ => ?_ | refine W.ma fun b_ => ?_ | refine W.bsl fun b_ => ?_ | refine W.zu ?_ | refine W.zf ?_ | refine W.zd ?_ | refine W.zs ?_ | refine W.zv ?_ | refine W.zx ?_ | refine W.ex ?_ | refine W.mf ?_ | refine W.mk ?_ | refine SW.seq ?_ | refine SW.region ?_ | refine SW.block ?_ | refine SW.cond_t rfl ?_ | refine SW.cond_f rfl ?_ | refine SW.exit ?_ | refine SW.ret ?_ | refine SW.skip ?_))
          refine W.call (depth_p m (by omega)) ?_
          rintro _ _ ⟨rfl, rfl⟩
          (repeat' (first | refine W.mv ?_ | refine W.zl ?_ | refine W.fa ?_ | refine W.nl ?_ | refine W.as ?_ | refine W.zb ?_ | refine W.za ?_ | refine W.zi ?_ | refine W.zc ?_ | refine W.zp ?_ | refine W.st ?_ | refine SL.nilB ?_ | refine SL.nil ?_ | refine W.al fun b_ => ?_ | refine W.bx fun b_ => ?_ | refine W.bxa fun b_ => ?_ | refine W.sw ?_ | refine W.sa ?_ | refine W.sk ?_ | refine W.bs0 fun b_ => ?_ | refine W.ma fun b_ => ?_ | refine W.bsl fun b_ => ?_ | refine W.zu ?_ | refine W.zf ?_ | refine W.zd ?_ | refine W.zs ?_ | refine W.zv ?_ | refine W.zx ?_ | refine W.ex ?_ | refine W.mf ?_ | refine W.mk ?_ | refine SW.seq ?_ | refine SW.region ?_ | refine SW.block ?_ | refine SW.cond_t rfl ?_ | refine SW.cond_f rfl ?_ | refine SW.exit ?_ | refine SW.ret ?_ | refine SW.skip ?_))
          exact F.cHt Hb (cbs z32) ⟨rfl, rfl⟩
theorem Up_p {b tp : Nat} {s : Bk} {Hb : Hp} (hB : BookP b tp s Hb) (n k : Nat) (x : List UInt8) (v : Value) (p : List (List UInt8)) (hx : x.length = 32) (hp : D32 p) (hok : upOk n k p) :
    Tri Try.prog 30 [.pointer (some ⟨b, 0, none⟩), .int .i64 (n : Int), .int .i64 (k : Int), dgV x, v] Hb (fun w => Rd (Hb.map Prod.fst) w 32 v (cbs p.flatten)) (fun r H' => r = .tuple #[dgV (upV n k x p), .int .i64 0] ∧ ∃ s', BookP b tp s' H') := by
  refine Tri.mk Try.func30 rfl Try.ntmps30 rfl fun w hw => ?_
  have hw2 := hw
  obtain ⟨a, cap, rfl, hc, hg⟩ := hw.row hp
  have hx1 := cl32 hx
  obtain ⟨h1, h2, h3, h4, h5⟩ := hok
  rw [Int.toNat_natCast] at h5
  have hd10 := dep_max (n := n) (k := 10) (by omega)
  have hdp := depth_p n (by omega)
  rw [← h5] at hdp
  have hz1 : (cbs z32).length = 32 := rfl
  have hbp : bfill (fun i => [(0, 1), (1, 1)][i]?) ([.int .i64 0] ++ [.int .i64 0]) [(0, .int .i64 0), (1, .int .i64 (k : Int))] = some [.int .i64 ((0 : Nat) : Int), .int .i64 (k : Int)] := rfl
  (repeat' (first | refine W.mv ?_ | refine W.zl ?_ | refine W.fa ?_ | refine W.nl ?_ | refine W.as ?_ | refine W.zb ?_ | refine W.za ?_ | refine W.zi ?_ | refine W.zc ?_ | refine W.zp ?_ | refine W.st ?_ | refine SL.nilB ?_ | refine SL.nil ?_ | refine W.al fun b_ => ?_ | refine W.bx fun b_ => ?_ | refine W.bxa fun b_ => ?_ | refine W.sw ?_ | refine W.sa ?_ | refine W.sk ?_ | refine W.bs0 fun b_ => ?_ | refine W.ma fun b_ => ?_ | refine W.bsl fun b_ => ?_ | refine W.zu ?_ | refine W.zf ?_ | refine W.zd ?_ | refine W.zs ?_ | refine W.zv ?_ | refine W.zx ?_ | refine W.ex ?_ | refine W.mf ?_ | refine W.mk ?_ | refine SW.seq ?_ | refine SW.region ?_ | refine SW.block ?_ | refine SW.cond_t rfl ?_ | refine SW.cond_f rfl ?_ | refine SW.exit ?_ | refine SW.ret ?_ | refine SW.skip ?_))
  refine W.call hdp ?_
  rintro _ _ ⟨rfl, rfl⟩
  (repeat' (first | refine W.mv ?_ | refine W.zl ?_ | refine W.fa ?_ | refine W.nl ?_ | refine W.as ?_ | refine W.zb ?_ | refine W.za ?_ | refine W.zi ?_ | refine W.zc ?_ | refine W.zp ?_ | refine W.st ?_ | refine SL.nilB ?_ | refine SL.nil ?_ | refine W.al fun b_ => ?_ | refine W.bx fun b_ => ?_ | refine W.bxa fun b_ => ?_ | refine W.sw ?_ | refine W.sa ?_ | refine W.sk ?_ | refine W.bs0 fun b_ => ?_ | refine W.ma fun b_ => ?_ | refine W.bsl fun b_ => ?_ | refine W.zu ?_ | refine W.zf ?_ | refine W.zd ?_ | refine W.zs ?_ | refine W.zv ?_ | refine W.zx ?_ | refine W.ex ?_ | refine W.mf ?_ | refine W.mk ?_ | refine SW.seq ?_ | refine SW.region ?_ | refine SW.cond_t rfl ?_ | refine SW.cond_f rfl ?_ | refine SW.exit ?_ | refine SW.ret ?_ | refine SW.skip ?_))
  rename_i bx bo
  have hinv := upTo_inv k hx p
  refine SW.cutH [0, 1, 8, 10] ((bx, cl (cbs x) 25) :: (b_, cl [.int .i64 ((0 : Nat) : Int), .int .i64 (k : Int)] 90) :: Hb) (fun x : Bk × Hp => []) (fun y => (bx, cl (cbs (upTo k x p p.length).2.2) 25) :: y.2) (fun y => BookP b tp y.1 y.2) ?_ ?_
  · (repeat' (first | refine W.mv ?_ | refine W.zl ?_ | refine W.fa ?_ | refine W.nl ?_ | refine W.as ?_ | refine W.zb ?_ | refine W.za ?_ | refine W.zi ?_ | refine W.zc ?_ | refine W.zp ?_ | refine W.st ?_ | refine SL.nilB ?_ | refine SL.nil ?_ | refine W.al fun b_ => ?_ | refine W.bx fun b_ => ?_ | refine W.bxa fun b_ => ?_ | refine W.sw ?_ | refine W.sa ?_ | refine W.sk ?_ | refine W.bs0 fun b_ => ?_ | refine W.ma fun b_ => ?_ | refine W.bsl fun b_ => ?_ | refine W.zu ?_ | refine W.zf ?_ | refine W.zd ?_ | refine W.zs ?_ | refine W.zv ?_ | refine W.zx ?_ | refine W.ex ?_ | refine W.mf ?_ | refine W.mk ?_ | refine SW.seq ?_ | refine SW.region ?_ | refine SW.block ?_ | refine SW.cond_t rfl ?_ | refine SW.cond_f rfl ?_ | refine SW.exit ?_ | refine SW.ret ?_ | refine SW.skip ?_))
    refine SW.loopF [0, 1, 8, 10, 12, 42, 43] (fun y : Nat × Nat × List UInt8 × Bk × Hp => [(44, .int .i64 (y.1 : Int))]) (fun y => (bx, cl (cbs y.2.2.1) 25) :: (b_, cl [.int .i64 ((y.1 : Nat) : Int), .int .i64 ((y.2.1 : Nat) : Int)] 90) :: y.2.2.2.2) (fun y => p.length - y.1) (fun y => y.1 ≤ p.length ∧ upTo k x p y.1 = (y.1, y.2.1, y.2.2.1) ∧ BookP b tp y.2.2.2.1 y.2.2.2.2) (0, k, x, s, Hb) ⟨Nat.zero_le _, rfl, hB⟩ ?_
    rintro ⟨d, J, Z, s2, Hb2⟩ ⟨hd, hup, hB2⟩
    dsimp only at hd hup hB2 ⊢
    obtain ⟨e1, e2, e3⟩ := hinv d hd
    rw [hup] at e2 e3
    dsimp only at e2 e3
    by_cases hdl : d < p.length
    · obtain ⟨y, hy⟩ : ∃ y, p[d]? = some y := ⟨_, List.getElem?_eq_getElem hdl⟩
      obtain ⟨pb, po, lv, T, fz, rfl, hb, hk, hv⟩ := hg d y hy
      have hy32 := hp y (List.mem_of_getElem? hy)
      have hcy := cl32 hy32
      have hnext := upTo_next k x hy
      have hJk : J ≤ k := by rw [e2]; exact Nat.div_le_self ..
      unfold upS at hnext
      rw [hup] at hnext
      dsimp only at hnext
      have hcz := cl32 e3
      clear e1 e2
      have hnl : ∀ A B, (cbs (nodeV (d + 1) (J / 2) A B)).length = 32 := fun A B => cl32 (nodeV_len ..)
      (repeat' (first | refine W.mv ?_ | refine W.zl ?_ | refine W.fa ?_ | refine W.nl ?_ | refine W.as ?_ | refine W.zb ?_ | refine W.za ?_ | refine W.zi ?_ | refine W.zc ?_ | refine W.zp ?_ | refine W.st ?_ | refine SL.nilB ?_ | refine SL.nil ?_ | refine W.al fun b_ => ?_ | refine W.bx fun b_ => ?_ | refine W.bxa fun b_ => ?_ | refine W.sw ?_ | refine W.sa ?_ | refine W.sk ?_ | refine W.bs0 fun b_ => ?_ | refine W.ma fun b_ => ?_ | refine W.bsl fun b_ => ?_ | refine W.zu ?_ | refine W.zf ?_ | refine W.zd ?_ | refine W.zs ?_ | refine W.zv ?_ | refine W.zx ?_ | refine W.ex ?_ | refine W.mf ?_ | refine W.mk ?_ | refine SW.seq ?_ | refine SW.region ?_ | refine SW.block ?_ | refine SW.cond_t rfl ?_ | refine SW.cond_f rfl ?_ | refine SW.exit ?_ | refine SW.ret ?_ | refine SW.skip ?_))
      rename_i bp
      refine SW.cutH [0, 1, 8, 10, 12, 14, 42, 43, 44] [] (fun y : Nat × Nat => [(15, .pointer (some ⟨y.1, 0, none⟩)), (16, .pointer (some ⟨y.2, 0, none⟩))]) (fun z => [(z.1, cl (cbs Z) 25), (z.2, cl (cbs y) 25)]) (fun _ => True) ?_ ?_
      · (refine SW.regionS [5] ?_ (by kernel_rfl); (first | refine SS.lw 0 [5] rfl ?_ | refine SS.la 0 [5] rfl ?_ | refine SS.tw 0 rfl (p_load_aR rfl rfl (by assumption) (by assumption) (by assumption) (by assumption)) ?_); (first | refine SS.lw 1 [5] rfl ?_ | refine SS.la 1 [5] rfl ?_ | refine SS.tw 1 rfl (p_load_aR rfl rfl (by assumption) (by assumption) (by assumption) (by assumption)) ?_); skip /- [2, 3] are ready -/)
        refine SS.twoK 2 3 ?_ ?_ rfl rfl
        · refine W.al fun b15 => ?_
          refine SL.nilB ?_
          refine SS.effK 3 ?_ rfl (by kernel_rfl)
          refine W.al fun b16 => ?_
          (refine SL.nilB ?_; refine SS.effK 4 ?_ rfl (by kernel_rfl); (repeat' (first | refine W.mv ?_ | refine W.zl ?_ | refine W.fa ?_ | refine W.nl ?_ | refine W.as ?_ | refine W.zb ?_ | refine W.za ?_ | refine W.zi ?_ | refine W.zc ?_ | refine W.zp ?_ | refine W.st ?_ | refine SL.nilB ?_ | refine SL.nil ?_ | refine W.al fun b_ => ?_ | refine W.bx fun b_ => ?_ | refine W.bxa fun b_ => ?_ | refine W.sw ?_ | refine W.sa ?_ | refine W.sk ?_ | refine W.bs0 fun b_ => ?_ | refine W.ma fun b_ => ?_ | refine W.bsl fun b_ => ?_ | refine W.zu ?_ | refine W.zf ?_ | refine W.zd ?_ | refine W.zs ?_ | refine W.zv ?_ | refine W.zx ?_ | refine W.ex ?_ | refine W.mf ?_ | refine W.mk ?_)); refine SS.effB 5 ?_ rfl (by kernel_rfl); (repeat' (first | refine W.mv ?_ | refine W.zl ?_ | refine W.fa ?_ | refine W.nl ?_ | refine W.as ?_ | refine W.zb ?_ | refine W.za ?_ | refine W.zi ?_ | refine W.zc ?_ | refine W.zp ?_ | refine W.st ?_ | refine SL.nilB ?_ | refine SL.nil ?_ | refine W.al fun b_ => ?_ | refine W.bx fun b_ => ?_ | refine W.bxa fun b_ => ?_ | refine W.sw ?_ | refine W.sa ?_ | refine W.sk ?_ | refine W.bs0 fun b_ => ?_ | refine W.ma fun b_ => ?_ | refine W.bsl fun b_ => ?_ | refine W.zu ?_ | refine W.zf ?_ | refine W.zd ?_ | refine W.zs ?_ | refine W.zv ?_ | refine W.zx ?_ | refine W.ex ?_ | refine W.mf ?_ | refine W.mk ?_)); refine SS.done ?_ (by kernel_rfl))
          exact CutF.mk (b15, b16) trivial
        · refine W.al fun b16 => ?_
          refine SL.nilB ?_
          refine SS.effK 2 ?_ rfl (by kernel_rfl)
          refine W.al fun b15 => ?_
          (refine SL.nilB ?_; refine SS.effK 4 ?_ rfl (by kernel_rfl); (repeat' (first | refine W.mv ?_ | refine W.zl ?_ | refine W.fa ?_ | refine W.nl ?_ | refine W.as ?_ | refine W.zb ?_ | refine W.za ?_ | refine W.zi ?_ | refine W.zc ?_ | refine W.zp ?_ | refine W.st ?_ | refine SL.nilB ?_ | refine SL.nil ?_ | refine W.al fun b_ => ?_ | refine W.bx fun b_ => ?_ | refine W.bxa fun b_ => ?_ | refine W.sw ?_ | refine W.sa ?_ | refine W.sk ?_ | refine W.bs0 fun b_ => ?_ | refine W.ma fun b_ => ?_ | refine W.bsl fun b_ => ?_ | refine W.zu ?_ | refine W.zf ?_ | refine W.zd ?_ | refine W.zs ?_ | refine W.zv ?_ | refine W.zx ?_ | refine W.ex ?_ | refine W.mf ?_ | refine W.mk ?_)); refine SS.effB 5 ?_ rfl (by kernel_rfl); (repeat' (first | refine W.mv ?_ | refine W.zl ?_ | refine W.fa ?_ | refine W.nl ?_ | refine W.as ?_ | refine W.zb ?_ | refine W.za ?_ | refine W.zi ?_ | refine W.zc ?_ | refine W.zp ?_ | refine W.st ?_ | refine SL.nilB ?_ | refine SL.nil ?_ | refine W.al fun b_ => ?_ | refine W.bx fun b_ => ?_ | refine W.bxa fun b_ => ?_ | refine W.sw ?_ | refine W.sa ?_ | refine W.sk ?_ | refine W.bs0 fun b_ => ?_ | refine W.ma fun b_ => ?_ | refine W.bsl fun b_ => ?_ | refine W.zu ?_ | refine W.zf ?_ | refine W.zd ?_ | refine W.zs ?_ | refine W.zv ?_ | refine W.zx ?_ | refine W.ex ?_ | refine W.mf ?_ | refine W.mk ?_)); refine SS.done ?_ (by kernel_rfl))
          exact CutF.mk (b15, b16) trivial
      rintro ⟨b15, b16⟩ -
      dsimp only
      by_cases ho : J % 2 = 1
      · rw [if_pos ho] at hnext
        have hn1 := hnl y Z
        (repeat' (first | refine W.mv ?_ | refine W.zl ?_ | refine W.fa ?_ | refine W.nl ?_ | refine W.as ?_ | refine W.zb ?_ | refine W.za ?_ | refine W.zi ?_ | refine W.zc ?_ | refine W.zp ?_ | refine W.st ?_ | refine SL.nilB ?_ | refine SL.nil ?_ | refine W.al fun b_ => ?_ | refine W.bx fun b_ => ?_ | refine W.bxa fun b_ => ?_ | refine W.sw ?_ | refine W.sa ?_ | refine W.sk ?_ | refine W.bs0 fun b_ => ?_ | refine W.ma fun b_ => ?_ | refine W.bsl fun b_ => ?_ | refine W.zu ?_ | refine W.zf ?_ | refine W.zd ?_ | refine W.zs ?_ | refine W.zv ?_ | refine W.zx ?_ | refine W.ex ?_ | refine W.mf ?_ | refine W.mk ?_ | refine SW.seq ?_ | refine SW.region ?_ | refine SW.block ?_ | refine SW.cond_t rfl ?_ | refine SW.cond_f rfl ?_ | refine SW.exit ?_ | refine SW.ret ?_ | refine SW.skip ?_))
        (refine SW.regionS [3] ?_ (by kernel_rfl); (first | refine SS.lw 0 [3] rfl ?_ | refine SS.la 0 [3] rfl ?_ | refine SS.tw 0 rfl (p_load_aR rfl rfl (by assumption) (by assumption) (by assumption) (by assumption)) ?_); (first | refine SS.lw 1 [3] rfl ?_ | refine SS.la 1 [3] rfl ?_ | refine SS.tw 1 rfl (p_load_aR rfl rfl (by assumption) (by assumption) (by assumption) (by assumption)) ?_); refine SS.effK 2 ?_ rfl (by kernel_rfl); (repeat' (first | refine W.mv ?_ | refine W.zl ?_ | refine W.fa ?_ | refine W.nl ?_ | refine W.as ?_ | refine W.zb ?_ | refine W.za ?_ | refine W.zi ?_ | refine W.zc ?_ | refine W.zp ?_ | refine W.st ?_ | refine SL.nilB ?_ | refine SL.nil ?_ | refine W.al fun b_ => ?_ | refine W.bx fun b_ => ?_ | refine W.bxa fun b_ => ?_ | refine W.sw ?_ | refine W.sa ?_ | refine W.sk ?_ | refine W.bs0 fun b_ => ?_ | refine W.ma fun b_ => ?_ | refine W.bsl fun b_ => ?_ | refine W.zu ?_ | refine W.zf ?_ | refine W.zd ?_ | refine W.zs ?_ | refine W.zv ?_ | refine W.zx ?_ | refine W.ex ?_ | refine W.mf ?_ | refine W.mk ?_)); refine SS.effB 3 ?_ rfl (by kernel_rfl); (repeat' (first | refine W.mv ?_ | refine W.zl ?_ | refine W.fa ?_ | refine W.nl ?_ | refine W.as ?_ | refine W.zb ?_ | refine W.za ?_ | refine W.zi ?_ | refine W.zc ?_ | refine W.zp ?_ | refine W.st ?_ | refine SL.nilB ?_ | refine SL.nil ?_ | refine W.al fun b_ => ?_ | refine W.bx fun b_ => ?_ | refine W.bxa fun b_ => ?_ | refine W.sw ?_ | refine W.sa ?_ | refine W.sk ?_ | refine W.bs0 fun b_ => ?_ | refine W.ma fun b_ => ?_ | refine W.bsl fun b_ => ?_ | refine W.zu ?_ | refine W.zf ?_ | refine W.zd ?_ | refine W.zs ?_ | refine W.zv ?_ | refine W.zx ?_ | refine W.ex ?_ | refine W.mf ?_ | refine W.mk ?_)); refine SS.done ?_ (by kernel_rfl))
        (repeat' (first | refine W.mv ?_ | refine W.zl ?_ | refine W.fa ?_ | refine W.nl ?_ | refine W.as ?_ | refine W.zb ?_ | refine W.za ?_ | refine W.zi ?_ | refine W.zc ?_ | refine W.zp ?_ | refine W.st ?_ | refine SL.nilB ?_ | refine SL.nil ?_ | refine W.al fun b_ => ?_ | refine W.bx fun b_ => ?_ | refine W.bxa fun b_ => ?_ | refine W.sw ?_ | refine W.sa ?_ | refine W.sk ?_ | refine W.bs0 fun b_ => ?_ | refine W.ma fun b_ => ?_ | refine W.bsl fun b_ => ?_ | refine W.zu ?_ | refine W.zf ?_ | refine W.zd ?_ | refine W.zs ?_ | refine W.zv ?_ | refine W.zx ?_ | refine W.ex ?_ | refine W.mf ?_ | refine W.mk ?_ | refine SW.seq ?_ | refine SW.region ?_ | refine SW.block ?_ | refine SW.cond_t rfl ?_ | refine SW.cond_f rfl ?_ | refine SW.exit ?_ | refine SW.ret ?_ | refine SW.skip ?_))
        refine W.call (up_pl d J (by omega) (by omega)) ?_
        rintro _ _ ⟨rfl, rfl⟩
        (repeat' (first | refine W.mv ?_ | refine W.zl ?_ | refine W.fa ?_ | refine W.nl ?_ | refine W.as ?_ | refine W.zb ?_ | refine W.za ?_ | refine W.zi ?_ | refine W.zc ?_ | refine W.zp ?_ | refine W.st ?_ | refine SL.nilB ?_ | refine SL.nil ?_ | refine W.al fun b_ => ?_ | refine W.bx fun b_ => ?_ | refine W.bxa fun b_ => ?_ | refine W.sw ?_ | refine W.sa ?_ | refine W.sk ?_ | refine W.bs0 fun b_ => ?_ | refine W.ma fun b_ => ?_ | refine W.bsl fun b_ => ?_ | refine W.zu ?_ | refine W.zf ?_ | refine W.zd ?_ | refine W.zs ?_ | refine W.zv ?_ | refine W.zx ?_ | refine W.ex ?_ | refine W.mf ?_ | refine W.mk ?_ | refine SW.seq ?_ | refine SW.region ?_ | refine SW.block ?_ | refine SW.cond_t rfl ?_ | refine SW.cond_f rfl ?_ | refine SW.exit ?_ | refine SW.ret ?_ | refine SW.skip ?_))
        refine W.call (node_p hB2 (d + 1) (J / 2) _ _ hy32 e3) ?_
        rintro _ Hb3 ⟨rfl, hB3⟩
        (repeat' (first | refine W.mv ?_ | refine W.zl ?_ | refine W.fa ?_ | refine W.nl ?_ | refine W.as ?_ | refine W.zb ?_ | refine W.za ?_ | refine W.zi ?_ | refine W.zc ?_ | refine W.zp ?_ | refine W.st ?_ | refine SL.nilB ?_ | refine SL.nil ?_ | refine W.al fun b_ => ?_ | refine W.bx fun b_ => ?_ | refine W.bxa fun b_ => ?_ | refine W.sw ?_ | refine W.sa ?_ | refine W.sk ?_ | refine W.bs0 fun b_ => ?_ | refine W.ma fun b_ => ?_ | refine W.bsl fun b_ => ?_ | refine W.zu ?_ | refine W.zf ?_ | refine W.zd ?_ | refine W.zs ?_ | refine W.zv ?_ | refine W.zx ?_ | refine W.ex ?_ | refine W.mf ?_ | refine W.mk ?_ | refine SW.seq ?_ | refine SW.region ?_ | refine SW.block ?_ | refine SW.cond_t rfl ?_ | refine SW.cond_f rfl ?_ | refine SW.exit ?_ | refine SW.ret ?_ | refine SW.skip ?_))
        refine HandF.mk (d + 1, J / 2, nodeV (d + 1) (J / 2) y Z, s2.add (nodeT (d + 1) (J / 2) y Z), Hb3) ?_
        exact ⟨hdl, hnext, hB3⟩
      · rw [if_neg ho] at hnext
        have hn1 := hnl Z y
        (repeat' (first | refine W.mv ?_ | refine W.zl ?_ | refine W.fa ?_ | refine W.nl ?_ | refine W.as ?_ | refine W.zb ?_ | refine W.za ?_ | refine W.zi ?_ | refine W.zc ?_ | refine W.zp ?_ | refine W.st ?_ | refine SL.nilB ?_ | refine SL.nil ?_ | refine W.al fun b_ => ?_ | refine W.bx fun b_ => ?_ | refine W.bxa fun b_ => ?_ | refine W.sw ?_ | refine W.sa ?_ | refine W.sk ?_ | refine W.bs0 fun b_ => ?_ | refine W.ma fun b_ => ?_ | refine W.bsl fun b_ => ?_ | refine W.zu ?_ | refine W.zf ?_ | refine W.zd ?_ | refine W.zs ?_ | refine W.zv ?_ | refine W.zx ?_ | refine W.ex ?_ | refine W.mf ?_ | refine W.mk ?_ | refine SW.seq ?_ | refine SW.region ?_ | refine SW.block ?_ | refine SW.cond_t rfl ?_ | refine SW.cond_f rfl ?_ | refine SW.exit ?_ | refine SW.ret ?_ | refine SW.skip ?_))
        refine W.call (up_pl d J (by omega) (by omega)) ?_
        rintro _ _ ⟨rfl, rfl⟩
        (repeat' (first | refine W.mv ?_ | refine W.zl ?_ | refine W.fa ?_ | refine W.nl ?_ | refine W.as ?_ | refine W.zb ?_ | refine W.za ?_ | refine W.zi ?_ | refine W.zc ?_ | refine W.zp ?_ | refine W.st ?_ | refine SL.nilB ?_ | refine SL.nil ?_ | refine W.al fun b_ => ?_ | refine W.bx fun b_ => ?_ | refine W.bxa fun b_ => ?_ | refine W.sw ?_ | refine W.sa ?_ | refine W.sk ?_ | refine W.bs0 fun b_ => ?_ | refine W.ma fun b_ => ?_ | refine W.bsl fun b_ => ?_ | refine W.zu ?_ | refine W.zf ?_ | refine W.zd ?_ | refine W.zs ?_ | refine W.zv ?_ | refine W.zx ?_ | refine W.ex ?_ | refine W.mf ?_ | refine W.mk ?_ | refine SW.seq ?_ | refine SW.region ?_ | refine SW.block ?_ | refine SW.cond_t rfl ?_ | refine SW.cond_f rfl ?_ | refine SW.exit ?_ | refine SW.ret ?_ | refine SW.skip ?_))
        refine W.call (node_p hB2 (d + 1) (J / 2) _ _ e3 hy32) ?_
        rintro _ Hb3 ⟨rfl, hB3⟩
        (repeat' (first | refine W.mv ?_ | refine W.zl ?_ | refine W.fa ?_ | refine W.nl ?_ | refine W.as ?_ | refine W.zb ?_ | refine W.za ?_ | refine W.zi ?_ | refine W.zc ?_ | refine W.zp ?_ | refine W.st ?_ | refine SL.nilB ?_ | refine SL.nil ?_ | refine W.al fun b_ => ?_ | refine W.bx fun b_ => ?_ | refine W.bxa fun b_ => ?_ | refine W.sw ?_ | refine W.sa ?_ | refine W.sk ?_ | refine W.bs0 fun b_ => ?_ | refine W.ma fun b_ => ?_ | refine W.bsl fun b_ => ?_ | refine W.zu ?_ | refine W.zf ?_ | refine W.zd ?_ | refine W.zs ?_ | refine W.zv ?_ | refine W.zx ?_ | refine W.ex ?_ | refine W.mf ?_ | refine W.mk ?_ | refine SW.seq ?_ | refine SW.region ?_ | refine SW.block ?_ | refine SW.cond_t rfl ?_ | refine SW.cond_f rfl ?_ | refine SW.exit ?_ | refine SW.ret ?_ | refine SW.skip ?_))
        refine HandF.mk (d + 1, J / 2, nodeV (d + 1) (J / 2) Z y, s2.add (nodeT (d + 1) (J / 2) Z y), Hb3) ?_
        exact ⟨hdl, hnext, hB3⟩
    · have hd2 : d = p.length := by omega
      subst hd2
      rw [show Z = (upTo k x p p.length).2.2 by rw [hup]]
      (repeat' (first | refine W.mv ?_ | refine W.zl ?_ | refine W.fa ?_ | refine W.nl ?_ | refine W.as ?_ | refine W.zb ?_ | refine W.za ?_ | refine W.zi ?_ | refine W.zc ?_ | refine W.zp ?_ | refine W.st ?_ | refine SL.nilB ?_ | refine SL.nil ?_ | refine W.al fun b_ => ?_ | refine W.bx fun b_ => ?_ | refine W.bxa fun b_ => ?_ | refine W.sw ?_ | refine W.sa ?_ | refine W.sk ?_ | refine W.bs0 fun b_ => ?_ | refine W.ma fun b_ => ?_ | refine W.bsl fun b_ => ?_ | refine W.zu ?_ | refine W.zf ?_ | refine W.zd ?_ | refine W.zs ?_ | refine W.zv ?_ | refine W.zx ?_ | refine W.ex ?_ | refine W.mf ?_ | refine W.mk ?_ | refine SW.seq ?_ | refine SW.region ?_ | refine SW.block ?_ | refine SW.cond_t rfl ?_ | refine SW.cond_f rfl ?_ | refine SW.exit ?_ | refine SW.ret ?_ | refine SW.skip ?_))
      refine CutF.mk (s2, Hb2) ?_
      exact hB2
  rintro ⟨s2, Hb2⟩ hB2
  dsimp only at hB2 ⊢
  obtain ⟨-, -, e3⟩ := hinv p.length (Nat.le_refl _)
  have hcz := cl32 e3
  have hcr := cl32 (Sha.sum_len (rootT n (upTo k x p p.length).2.2))
  (repeat' (first | refine W.mv ?_ | refine W.zl ?_ | refine W.fa ?_ | refine W.nl ?_ | refine W.as ?_ | refine W.zb ?_ | refine W.za ?_ | refine W.zi ?_ | refine W.zc ?_ | refine W.zp ?_ | refine W.st ?_ | refine SL.nilB ?_ | refine SL.nil ?_ | refine W.al fun b_ => ?_ | refine W.bx fun b_ => ?_ | refine W.bxa fun b_ => ?_ | refine W.sw ?_ | refine W.sa ?_ | refine W.sk ?_ | refine W.bs0 fun b_ => ?_ | refine W.ma fun b_ => ?_ | refine W.bsl fun b_ => ?_ | refine W.zu ?_ | refine W.zf ?_ | refine W.zd ?_ | refine W.zs ?_ | refine W.zv ?_ | refine W.zx ?_ | refine W.ex ?_ | refine W.mf ?_ | refine W.mk ?_ | refine SW.seq ?_ | refine SW.region ?_ | refine SW.block ?_ | refine SW.cond_t rfl ?_ | refine SW.cond_f rfl ?_ | refine SW.exit ?_ | refine SW.ret ?_ | refine SW.skip ?_))
  refine W.call (root_p hB2 n _ e3) ?_
  rintro _ Hb3 ⟨rfl, hB3⟩
  (repeat' (first | refine W.mv ?_ | refine W.zl ?_ | refine W.fa ?_ | refine W.nl ?_ | refine W.as ?_ | refine W.zb ?_ | refine W.za ?_ | refine W.zi ?_ | refine W.zc ?_ | refine W.zp ?_ | refine W.st ?_ | refine SL.nilB ?_ | refine SL.nil ?_ | refine W.al fun b_ => ?_ | refine W.bx fun b_ => ?_ | refine W.bxa fun b_ => ?_ | refine W.sw ?_ | refine W.sa ?_ | refine W.sk ?_ | refine W.bs0 fun b_ => ?_ | refine W.ma fun b_ => ?_ | refine W.bsl fun b_ => ?_ | refine W.zu ?_ | refine W.zf ?_ | refine W.zd ?_ | refine W.zs ?_ | refine W.zv ?_ | refine W.zx ?_ | refine W.ex ?_ | refine W.mf ?_ | refine W.mk ?_ | refine SW.seq ?_ | refine SW.region ?_ | refine SW.block ?_ | refine SW.cond_t rfl ?_ | refine SW.cond_f rfl ?_ | refine SW.exit ?_ | refine SW.ret ?_ | refine SW.skip ?_))
  exact F.cHt Hb3 (cbs (upV n k x p)) ⟨rfl, _, hB3⟩
end Go.Proofs.Ytieamijnajbcnaa
