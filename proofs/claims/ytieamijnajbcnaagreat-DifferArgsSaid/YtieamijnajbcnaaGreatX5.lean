/- In which leaves two trees are unlike, and how many pairs of sums tell that. -/
import Derived.Test.YtieamijnajbcnaaGreatX4
set_option linter.unusedVariables false
set_option linter.unusedSimpArgs false
set_option linter.unusedSectionVars false
namespace Go.Proofs.YtieamijnajbcnaaGreat
open Go
attribute [local irreducible] SW SL SQ SH SA SS Pu Fin CutF HandF

theorem flatN_setB {α : Type} {n : Nat} {L : List (List α)} {x : List α} {c : α} (h : ∀ x ∈ L, x.length = n) : ∀ {k i : Nat}, i < n → L[k]? = some x → L.flatten.set (k * n + i) c = (L.set k (x.set i c)).flatten := by
  induction L with
  | nil => intro k i _ hk; simp at hk
  | cons a t ih =>
    intro k i hi hk
    have ha := h a (List.mem_cons_self ..)
    cases k with
    | zero =>
      simp only [List.getElem?_cons_zero, Option.some.injEq] at hk
      subst hk
      rw [List.flatten_cons, Nat.zero_mul, Nat.zero_add, List.set_append_left _ _ (by omega), List.set_cons_zero, List.flatten_cons]
    | succ k =>
      rw [List.getElem?_cons_succ] at hk
      rw [List.flatten_cons, List.set_append_right _ _ (by rw [ha, Nat.succ_mul]; omega), ha, show (k + 1) * n + i - n = k * n + i by rw [Nat.succ_mul]; omega, ih (fun y hy => h y (List.mem_cons_of_mem _ hy)) hi hk, List.set_cons_succ, List.flatten_cons]
theorem cbs_setB {L : List (List UInt8)} {junk : List Value} {x : List UInt8} (c : UInt8) (h : D32 L) {k i : Nat} (hi : i < 32) (hk : L[k]? = some x) : (cbs L.flatten ++ junk).set (k * 32 + i) (.int .u8 (c.toNat : Int)) = cbs (L.set k (x.set i c)).flatten ++ junk := by
  have hkl := (List.getElem?_eq_some_iff.1 hk).1
  have hl : (cbs L.flatten).length = L.length * 32 := by rw [cbs_len, flatN_len h]
  have hm : (k + 1) * 32 ≤ L.length * 32 := Nat.mul_le_mul_right _ hkl
  rw [List.set_append_left _ _ (by rw [hl]; omega), ← flatN_setB h hi hk]
  congr 1
  unfold cbs
  rw [List.map_set]
set_option maxRecDepth 100000 in
theorem awake34_p : Tri Tryz.prog 11 [] [] (fun _ => True) (fun v H => v = .bool true ∧ H = []) := by
  refine Tri.mk Tryz.func11 rfl Tryz.ntmps11 rfl fun w hw => ?_
  have hset : (zs (List.replicate 32 (.int .u8 0)) 5).set (4 * 32 + 0) (.int .u8 1) = cbs exM.flatten := by
    have := cbs_setB (L := exL) (junk := []) (x := z32) 1 exL_32 (k := 4) (i := 0) (by omega) rfl
    rw [List.append_nil, List.append_nil] at this
    rw [zs32]
    exact this
  (repeat' (first | refine W.mv ?_ | refine W.zl ?_ | refine W.fa ?_ | refine W.nl ?_ | refine W.as ?_ | refine W.zb ?_ | refine W.za ?_ | refine W.zi ?_ | refine W.zc ?_ | refine W.zp ?_ | refine W.st ?_ | refine SL.nilB ?_ | refine SL.nil ?_ | refine W.al fun b_ => ?_ | refine W.bx fun b_ => ?_ | refine W.bxa fun b_ => ?_ | refine W.sw ?_ | refine W.sa ?_ | refine W.sk ?_ | refine W.bs0 fun b_ => ?_ | refine W.ma fun b_ => ?_ | refine W.bsl fun b_ => ?_ | refine W.zu ?_ | refine W.zf ?_ | refine W.zd ?_ | refine W.zs ?_ | refine W.zv ?_ | refine W.zx ?_ | refine W.ex ?_ | refine W.mf ?_ | refine W.mk ?_ | refine SW.seq ?_ | refine SW.region ?_ | refine SW.block ?_ | refine SW.cond_t rfl ?_ | refine SW.cond_f rfl ?_ | refine SW.exit ?_ | refine SW.ret ?_ | refine SW.skip ?_))
  rw [hset, zs32, show (List.replicate 5 z32 : List (List UInt8)) = exL from rfl]
  rename_i b1
  have hUn := ex_unlike
  have hDif := ex_dif
  have hDep : dep exL.length = 3 := ex_dep
  have h1 : exL.length = 5 := rfl
  have h2 : exM.length = 5 := rfl
  have hL := exL_32
  have hM := exM_32
  have hcl : (cbs exL.flatten).length = 5 * 32 := by rw [cbs_len, flatN_len hL, h1]
  have hcm : (cbs exM.flatten).length = 5 * 32 := by rw [cbs_len, flatN_len hM, h2]
  have hbq : bfill (fun i => some (i * 1, 1)) (zs [.int .i64 0] 1) [(0, .int .i64 4)] = some (iv [4]) := rfl
  generalize exL = L at *
  generalize exM = M at *
  refine W.call Book_p ?_
  rintro _ B0 ⟨b, tp, rfl, hB⟩
  (repeat' (first | refine W.mv ?_ | refine W.zl ?_ | refine W.fa ?_ | refine W.nl ?_ | refine W.as ?_ | refine W.zb ?_ | refine W.za ?_ | refine W.zi ?_ | refine W.zc ?_ | refine W.zp ?_ | refine W.st ?_ | refine SL.nilB ?_ | refine SL.nil ?_ | refine W.al fun b_ => ?_ | refine W.bx fun b_ => ?_ | refine W.bxa fun b_ => ?_ | refine W.sw ?_ | refine W.sa ?_ | refine W.sk ?_ | refine W.bs0 fun b_ => ?_ | refine W.ma fun b_ => ?_ | refine W.bsl fun b_ => ?_ | refine W.zu ?_ | refine W.zf ?_ | refine W.zd ?_ | refine W.zs ?_ | refine W.zv ?_ | refine W.zx ?_ | refine W.ex ?_ | refine W.mf ?_ | refine W.mk ?_ | refine SW.seq ?_ | refine SW.region ?_ | refine SW.block ?_ | refine SW.cond_t rfl ?_ | refine SW.cond_f rfl ?_ | refine SW.exit ?_ | refine SW.ret ?_ | refine SW.skip ?_))
  refine W.call (planted_p hB L hL (by omega) (by omega) _) ?_ rfl (fun w2 hs => ?_)
  rotate_left
  · exact Rd.own (Hc := B0) (Sl.own 32 32 b1 (len := 5) (xs := cbs L.flatten) hcl) hs inferInstance
  rintro _ _ ⟨ta, Ha, B1, rfl, rfl, hTa, hB1⟩
  (repeat' (first | refine W.mv ?_ | refine W.zl ?_ | refine W.fa ?_ | refine W.nl ?_ | refine W.as ?_ | refine W.zb ?_ | refine W.za ?_ | refine W.zi ?_ | refine W.zc ?_ | refine W.zp ?_ | refine W.st ?_ | refine SL.nilB ?_ | refine SL.nil ?_ | refine W.al fun b_ => ?_ | refine W.bx fun b_ => ?_ | refine W.bxa fun b_ => ?_ | refine W.sw ?_ | refine W.sa ?_ | refine W.sk ?_ | refine W.bs0 fun b_ => ?_ | refine W.ma fun b_ => ?_ | refine W.bsl fun b_ => ?_ | refine W.zu ?_ | refine W.zf ?_ | refine W.zd ?_ | refine W.zs ?_ | refine W.zv ?_ | refine W.zx ?_ | refine W.ex ?_ | refine W.mf ?_ | refine W.mk ?_ | refine SW.seq ?_ | refine SW.region ?_ | refine SW.block ?_ | refine SW.cond_t rfl ?_ | refine SW.cond_f rfl ?_ | refine SW.exit ?_ | refine SW.ret ?_ | refine SW.skip ?_))
  refine W.call (planted_p hB1 M hM (by omega) (by omega) _) ?_ rfl (fun w2 hs => ?_)
  rotate_left
  · exact Rd.own (Hc := B1) (Sl.own 32 32 b_ (len := 5) (xs := cbs M.flatten) hcm) hs inferInstance
  rintro _ _ ⟨tb, Hm, B2, rfl, rfl, hTb, hB2⟩
  (repeat' (first | refine W.mv ?_ | refine W.zl ?_ | refine W.fa ?_ | refine W.nl ?_ | refine W.as ?_ | refine W.zb ?_ | refine W.za ?_ | refine W.zi ?_ | refine W.zc ?_ | refine W.zp ?_ | refine W.st ?_ | refine SL.nilB ?_ | refine SL.nil ?_ | refine W.al fun b_ => ?_ | refine W.bx fun b_ => ?_ | refine W.bxa fun b_ => ?_ | refine W.sw ?_ | refine W.sa ?_ | refine W.sk ?_ | refine W.bs0 fun b_ => ?_ | refine W.ma fun b_ => ?_ | refine W.bsl fun b_ => ?_ | refine W.zu ?_ | refine W.zf ?_ | refine W.zd ?_ | refine W.zs ?_ | refine W.zv ?_ | refine W.zx ?_ | refine W.ex ?_ | refine W.mf ?_ | refine W.mk ?_ | refine SW.seq ?_ | refine SW.region ?_ | refine SW.block ?_ | refine SW.cond_t rfl ?_ | refine SW.cond_f rfl ?_ | refine SW.exit ?_ | refine SW.ret ?_ | refine SW.skip ?_))
  refine W.call (Trees_p hTa hTb hL hM (by omega) (by omega) (by omega) True (fun _ => hDif)) ?_
  rintro _ Hx ⟨ov, Ho, out, n, rfl, rfl, hov, hol2, hres⟩
  obtain ⟨rfl, rfl⟩ := hres trivial
  rw [hUn] at hov
  rw [hUn, hDep]
  have ho1 := hov.isOne
  obtain ⟨oa, ol, oc, rfl, hol⟩ := hov.form
  rw [show 1 + 2 * aboveV [4] 3 = 7 from rfl]
  (repeat' (first | refine W.mv ?_ | refine W.zl ?_ | refine W.fa ?_ | refine W.nl ?_ | refine W.as ?_ | refine W.zb ?_ | refine W.za ?_ | refine W.zi ?_ | refine W.zc ?_ | refine W.zp ?_ | refine W.st ?_ | refine SL.nilB ?_ | refine SL.nil ?_ | refine W.al fun b_ => ?_ | refine W.bx fun b_ => ?_ | refine W.bxa fun b_ => ?_ | refine W.sw ?_ | refine W.sa ?_ | refine W.sk ?_ | refine W.bs0 fun b_ => ?_ | refine W.ma fun b_ => ?_ | refine W.bsl fun b_ => ?_ | refine W.zu ?_ | refine W.zf ?_ | refine W.zd ?_ | refine W.zs ?_ | refine W.zv ?_ | refine W.zx ?_ | refine W.ex ?_ | refine W.mf ?_ | refine W.mk ?_ | refine SW.seq ?_ | refine SW.region ?_ | refine SW.block ?_ | refine SW.cond_t rfl ?_ | refine SW.cond_f rfl ?_ | refine SW.exit ?_ | refine SW.ret ?_ | refine SW.skip ?_))
  refine W.call (same_p [4] [4] (.slice oa ol oc) (.slice (some ⟨b_, 0, none⟩) 1 1) (by simp) (by simp)) ?_ rfl (fun w2 hs => ⟨Rd.ownB [] hov hs, Rd.own (Hc := []) (Sl.own 3 1 b_ (len := 1) (xs := iv [4]) rfl) hs inferInstance⟩)
  rintro _ _ ⟨rfl, rfl⟩
  rw [decide_eq_true rfl]
  (repeat' (first | refine W.mv ?_ | refine W.zl ?_ | refine W.fa ?_ | refine W.nl ?_ | refine W.as ?_ | refine W.zb ?_ | refine W.za ?_ | refine W.zi ?_ | refine W.zc ?_ | refine W.zp ?_ | refine W.st ?_ | refine SL.nilB ?_ | refine SL.nil ?_ | refine W.al fun b_ => ?_ | refine W.bx fun b_ => ?_ | refine W.bxa fun b_ => ?_ | refine W.sw ?_ | refine W.sa ?_ | refine W.sk ?_ | refine W.bs0 fun b_ => ?_ | refine W.ma fun b_ => ?_ | refine W.bsl fun b_ => ?_ | refine W.zu ?_ | refine W.zf ?_ | refine W.zd ?_ | refine W.zs ?_ | refine W.zv ?_ | refine W.zx ?_ | refine W.ex ?_ | refine W.mf ?_ | refine W.mk ?_ | refine SW.seq ?_ | refine SW.region ?_ | refine SW.block ?_ | refine SW.cond_t rfl ?_ | refine SW.cond_f rfl ?_ | refine SW.exit ?_ | refine SW.ret ?_ | refine SW.skip ?_))
  refine Fin.to [] ?_
  exact F.f1 ⟨rfl, rfl⟩
end Go.Proofs.YtieamijnajbcnaaGreat
