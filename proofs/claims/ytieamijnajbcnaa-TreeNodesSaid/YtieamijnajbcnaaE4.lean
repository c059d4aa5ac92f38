/- Each sum of each level is as the chapter says. -/
import Derived.Test.YtieamijnajbcnaaE3
set_option linter.unusedVariables false
set_option linter.unusedSimpArgs false
namespace Go.Proofs.Ytieamijnajbcnaa
open Go
attribute [local irreducible] SW SL SQ SH SA SS Pu Fin CutF HandF

theorem Depth_v {t b : Nat} {l : List (List UInt8)} {H : Hp} (hT : TreeV t b l H) (h2 : l.length ≤ 1024) : Tri Try.prog 26 [.pointer (some ⟨t, 0, none⟩)] H (fun _ => True) (fun v H' => v = .int .i64 ((dep l.length : Nat) : Int) ∧ H' = H) := by
  have hd := dep_max (n := l.length) (k := 10) (by simpa using h2)
  have hl : (rowsV l (dep l.length) (dep l.length + 1)).length = dep l.length + 1 := by simp [rowsV]
  have := Depth_p hT (by omega) (by omega)
  rwa [hl, Nat.add_sub_cancel] at this
/-- How often the width is doubled. -/
def stepsTo (D : Nat) (level : Int) : Nat := if level < 0 then D else D - level.toNat
theorem nodes_law (l : List (List UInt8)) (hl : D32 l) (v : Value) (level i : Int) : Tri Try.prog 5 [v, .int .i64 level, .int .i64 i] [] (fun w => Rd [] w 32 v (cbs l.flatten)) (fun r _ => r = .bool true) := by
  refine Tri.mk Try.func5 rfl Try.ntmps5 rfl fun w hw => ?_
  obtain ⟨a, cap, rfl, -, -⟩ := hw.row hl
  have hfew := few_q l hl a cap
  obtain ⟨hL, hL20, hw2⟩ := hw.few hl
  generalize l.take 20 = L at hfew hL hL20 hw2
  (repeat' (first | refine W.mv ?_ | refine W.zl ?_ | refine W.fa ?_ | refine W.nl ?_ | refine W.as ?_ | refine W.zb ?_ | refine W.za ?_ | refine W.zi ?_ | refine W.zc ?_ | refine W.zp ?_ | refine W.st ?_ | refine SL.nilB ?_ | refine SL.nil ?_ | refine W.al fun b_ => ?_ | refine W.bx fun b_ => ?_ | refine W.bxa fun b_ => ?_ | refine W.sw ?_ | refine W.sa ?_ | refine W.sk ?_ | refine W.bs0 fun b_ => ?_ | refine W.ma fun b_ => ?_ | refine W.bsl fun b_ => ?_ | refine W.zu ?_ | refine W.zf ?_ | refine W.zd ?_ | refine W.zs ?_ | refine W.zv ?_ | refine W.zx ?_ | refine W.ex ?_ | refine W.mf ?_ | refine W.mk ?_ | refine SW.seq ?_ | refine SW.region ?_ | refine SW.block ?_ | refine SW.cond_t rfl ?_ | refine SW.cond_f rfl ?_ | refine SW.exit ?_ | refine SW.ret ?_ | refine SW.skip ?_))
  refine W.call hfew ?_ rfl (fun w2 hs => hw.ro (Hc := []) hs)
  rintro _ _ ⟨rfl, rfl⟩
  (repeat' (first | refine W.mv ?_ | refine W.zl ?_ | refine W.fa ?_ | refine W.nl ?_ | refine W.as ?_ | refine W.zb ?_ | refine W.za ?_ | refine W.zi ?_ | refine W.zc ?_ | refine W.zp ?_ | refine W.st ?_ | refine SL.nilB ?_ | refine SL.nil ?_ | refine W.al fun b_ => ?_ | refine W.bx fun b_ => ?_ | refine W.bxa fun b_ => ?_ | refine W.sw ?_ | refine W.sa ?_ | refine W.sk ?_ | refine W.bs0 fun b_ => ?_ | refine W.ma fun b_ => ?_ | refine W.bsl fun b_ => ?_ | refine W.zu ?_ | refine W.zf ?_ | refine W.zd ?_ | refine W.zs ?_ | refine W.zv ?_ | refine W.zx ?_ | refine W.ex ?_ | refine W.mf ?_ | refine W.mk ?_ | refine SW.seq ?_ | refine SW.region ?_ | refine SW.block ?_ | refine SW.cond_t rfl ?_ | refine SW.cond_f rfl ?_ | refine SW.exit ?_ | refine SW.ret ?_ | refine SW.skip ?_))
  refine W.call Book_p ?_
  rintro _ B0 ⟨b, tp, rfl, hB⟩
  (repeat' (first | refine W.mv ?_ | refine W.zl ?_ | refine W.fa ?_ | refine W.nl ?_ | refine W.as ?_ | refine W.zb ?_ | refine W.za ?_ | refine W.zi ?_ | refine W.zc ?_ | refine W.zp ?_ | refine W.st ?_ | refine SL.nilB ?_ | refine SL.nil ?_ | refine W.al fun b_ => ?_ | refine W.bx fun b_ => ?_ | refine W.bxa fun b_ => ?_ | refine W.sw ?_ | refine W.sa ?_ | refine W.sk ?_ | refine W.bs0 fun b_ => ?_ | refine W.ma fun b_ => ?_ | refine W.bsl fun b_ => ?_ | refine W.zu ?_ | refine W.zf ?_ | refine W.zd ?_ | refine W.zs ?_ | refine W.zv ?_ | refine W.zx ?_ | refine W.ex ?_ | refine W.mf ?_ | refine W.mk ?_ | refine SW.seq ?_ | refine SW.region ?_ | refine SW.block ?_ | refine SW.cond_t rfl ?_ | refine SW.cond_f rfl ?_ | refine SW.exit ?_ | refine SW.ret ?_ | refine SW.skip ?_))
  refine W.call (digests_p L hL _ (by omega)) ?_ rfl (fun w2 hs => hw2.ro (Hc := []) hs)
  intro dv Hd hdv
  have hd1 := hdv.isOne
  obtain ⟨da, dl, dc, rfl, hdl⟩ := hdv.form
  obtain rfl : dl = L.length := by rw [cbs_len, flatN_len hL] at hdl; omega
  (repeat' (first | refine W.mv ?_ | refine W.zl ?_ | refine W.fa ?_ | refine W.nl ?_ | refine W.as ?_ | refine W.zb ?_ | refine W.za ?_ | refine W.zi ?_ | refine W.zc ?_ | refine W.zp ?_ | refine W.st ?_ | refine SL.nilB ?_ | refine SL.nil ?_ | refine W.al fun b_ => ?_ | refine W.bx fun b_ => ?_ | refine W.bxa fun b_ => ?_ | refine W.sw ?_ | refine W.sa ?_ | refine W.sk ?_ | refine W.bs0 fun b_ => ?_ | refine W.ma fun b_ => ?_ | refine W.bsl fun b_ => ?_ | refine W.zu ?_ | refine W.zf ?_ | refine W.zd ?_ | refine W.zs ?_ | refine W.zv ?_ | refine W.zx ?_ | refine W.ex ?_ | refine W.mf ?_ | refine W.mk ?_ | refine SW.seq ?_ | refine SW.region ?_ | refine SW.block ?_ | refine SW.cond_t rfl ?_ | refine SW.cond_f rfl ?_ | refine SW.exit ?_ | refine SW.ret ?_ | refine SW.skip ?_))
  by_cases h0 : L.length = 0
  · rw [h0]
    refine W.call (new_none b da dc) ?_
    rintro _ _ ⟨rfl, rfl⟩
    (repeat' (first | refine W.mv ?_ | refine W.zl ?_ | refine W.fa ?_ | refine W.nl ?_ | refine W.as ?_ | refine W.zb ?_ | refine W.za ?_ | refine W.zi ?_ | refine W.zc ?_ | refine W.zp ?_ | refine W.st ?_ | refine SL.nilB ?_ | refine SL.nil ?_ | refine W.al fun b_ => ?_ | refine W.bx fun b_ => ?_ | refine W.bxa fun b_ => ?_ | refine W.sw ?_ | refine W.sa ?_ | refine W.sk ?_ | refine W.bs0 fun b_ => ?_ | refine W.ma fun b_ => ?_ | refine W.bsl fun b_ => ?_ | refine W.zu ?_ | refine W.zf ?_ | refine W.zd ?_ | refine W.zs ?_ | refine W.zv ?_ | refine W.zx ?_ | refine W.ex ?_ | refine W.mf ?_ | refine W.mk ?_ | refine SW.seq ?_ | refine SW.region ?_ | refine SW.block ?_ | refine SW.cond_t rfl ?_ | refine SW.cond_f rfl ?_ | refine SW.exit ?_ | refine SW.ret ?_ | refine SW.skip ?_))
    refine W.call awake12_p ?_
    rintro _ _ ⟨rfl, rfl⟩
    (repeat' (first | refine W.mv ?_ | refine W.zl ?_ | refine W.fa ?_ | refine W.nl ?_ | refine W.as ?_ | refine W.zb ?_ | refine W.za ?_ | refine W.zi ?_ | refine W.zc ?_ | refine W.zp ?_ | refine W.st ?_ | refine SL.nilB ?_ | refine SL.nil ?_ | refine W.al fun b_ => ?_ | refine W.bx fun b_ => ?_ | refine W.bxa fun b_ => ?_ | refine W.sw ?_ | refine W.sa ?_ | refine W.sk ?_ | refine W.bs0 fun b_ => ?_ | refine W.ma fun b_ => ?_ | refine W.bsl fun b_ => ?_ | refine W.zu ?_ | refine W.zf ?_ | refine W.zd ?_ | refine W.zs ?_ | refine W.zv ?_ | refine W.zx ?_ | refine W.ex ?_ | refine W.mf ?_ | refine W.mk ?_ | refine SW.seq ?_ | refine SW.region ?_ | refine SW.block ?_ | refine SW.cond_t rfl ?_ | refine SW.cond_f rfl ?_ | refine SW.exit ?_ | refine SW.ret ?_ | refine SW.skip ?_))
    refine Fin.to [] ?_
    exact F.f1 rfl
  · have hz : (List.replicate 32 (Value.int .u8 0)).length = 32 := rfl
    have hd10 := dep_max (n := L.length) (k := 5) (by show L.length ≤ 32; omega)
    have hdp := rdepth_p L.length (by omega)
    refine W.call (new_p hB (.slice da L.length dc) L hL (by omega) (by omega)) ?_ rfl (fun w2 hs => Rd.own (Hc := B0) hdv hs inferInstance)
    rintro _ _ ⟨t, Ht, B1, rfl, rfl, hT, hB1⟩
    have hDep := Depth_v hT (by omega)
    have hNode := Node_p hT level i (by omega)
    have hnl : (nodeAt L level i).length = 32 := by
      unfold nodeAt
      split
      · exact atV_len hL _ _
      · rfl
    have hcn := cl32 hnl
    have hnd : nodeAt L level i = if 0 ≤ level ∧ level ≤ dep L.length ∧ 0 ≤ i ∧ i < ((2 ^ (dep L.length - level.toNat) : Nat) : Int) then atV L level.toNat i.toNat else z32 := rfl
    generalize nodeAt L level i = N at hNode hnl hcn hnd
    generalize dep L.length = D at hd10 hdp hDep hnd
    (repeat' (first | refine W.mv ?_ | refine W.zl ?_ | refine W.fa ?_ | refine W.nl ?_ | refine W.as ?_ | refine W.zb ?_ | refine W.za ?_ | refine W.zi ?_ | refine W.zc ?_ | refine W.zp ?_ | refine W.st ?_ | refine SL.nilB ?_ | refine SL.nil ?_ | refine W.al fun b_ => ?_ | refine W.bx fun b_ => ?_ | refine W.bxa fun b_ => ?_ | refine W.sw ?_ | refine W.sa ?_ | refine W.sk ?_ | refine W.bs0 fun b_ => ?_ | refine W.ma fun b_ => ?_ | refine W.bsl fun b_ => ?_ | refine W.zu ?_ | refine W.zf ?_ | refine W.zd ?_ | refine W.zs ?_ | refine W.zv ?_ | refine W.zx ?_ | refine W.ex ?_ | refine W.mf ?_ | refine W.mk ?_ | refine SW.seq ?_ | refine SW.region ?_ | refine SW.block ?_ | refine SW.cond_t rfl ?_ | refine SW.cond_f rfl ?_ | refine SW.exit ?_ | refine SW.ret ?_ | refine SW.skip ?_))
    refine W.call hdp ?_
    rintro _ _ ⟨rfl, rfl⟩
    (repeat' (first | refine W.mv ?_ | refine W.zl ?_ | refine W.fa ?_ | refine W.nl ?_ | refine W.as ?_ | refine W.zb ?_ | refine W.za ?_ | refine W.zi ?_ | refine W.zc ?_ | refine W.zp ?_ | refine W.st ?_ | refine SL.nilB ?_ | refine SL.nil ?_ | refine W.al fun b_ => ?_ | refine W.bx fun b_ => ?_ | refine W.bxa fun b_ => ?_ | refine W.sw ?_ | refine W.sa ?_ | refine W.sk ?_ | refine W.bs0 fun b_ => ?_ | refine W.ma fun b_ => ?_ | refine W.bsl fun b_ => ?_ | refine W.zu ?_ | refine W.zf ?_ | refine W.zd ?_ | refine W.zs ?_ | refine W.zv ?_ | refine W.zx ?_ | refine W.ex ?_ | refine W.mf ?_ | refine W.mk ?_ | refine SW.seq ?_ | refine SW.region ?_ | refine SW.cond_t rfl ?_ | refine SW.cond_f rfl ?_ | refine SW.exit ?_ | refine SW.ret ?_ | refine SW.skip ?_))
    refine SW.cut [0, 1, 2, 7, 9, 10] [] (fun _ : Unit => [(11, .int .i64 ((2 ^ stepsTo D level : Nat) : Int))]) (fun _ => []) (fun _ => True) ?_ ?_
    · (repeat' (first | refine W.mv ?_ | refine W.zl ?_ | refine W.fa ?_ | refine W.nl ?_ | refine W.as ?_ | refine W.zb ?_ | refine W.za ?_ | refine W.zi ?_ | refine W.zc ?_ | refine W.zp ?_ | refine W.st ?_ | refine SL.nilB ?_ | refine SL.nil ?_ | refine W.al fun b_ => ?_ | refine W.bx fun b_ => ?_ | refine W.bxa fun b_ => ?_ | refine W.sw ?_ | refine W.sa ?_ | refine W.sk ?_ | refine W.bs0 fun b_ => ?_ | refine W.ma fun b_ => ?_ | refine W.bsl fun b_ => ?_ | refine W.zu ?_ | refine W.zf ?_ | refine W.zd ?_ | refine W.zs ?_ | refine W.zv ?_ | refine W.zx ?_ | refine W.ex ?_ | refine W.mf ?_ | refine W.mk ?_ | refine SW.seq ?_ | refine SW.region ?_ | refine SW.block ?_ | refine SW.cond_t rfl ?_ | refine SW.cond_f rfl ?_ | refine SW.exit ?_ | refine SW.ret ?_ | refine SW.skip ?_))
      refine SW.loopG [0, 1, 2, 7, 9, 10] [] (fun s : Nat => [(11, .int .i64 ((2 ^ s : Nat) : Int)), (12, .int .i64 ((D - s : Nat) : Int))]) (fun _ => []) (fun s => D - s) (fun s => s ≤ stepsTo D level ∧ s ≤ D) 0 ⟨Nat.zero_le _, Nat.zero_le _⟩ ?_
      rintro s ⟨hs1, hs2⟩
      have hst : stepsTo D level = if level < 0 then D else D - level.toNat := rfl
      have hX : 2 ^ s ≤ 32 := Nat.pow_le_pow_right (n := 2) (by omega) (show s ≤ 5 by omega)
      have hs2' : ((2 ^ (s + 1) : Nat) : Int) = 2 * ((2 ^ s : Nat) : Int) := by rw [Nat.pow_succ, Nat.mul_comm]; rfl
      have hE : ((D - (s + 1) : Nat) : Int) = ((D - s - 1 : Nat) : Int) := by rw [Nat.sub_sub]
      have hM : D - s = 0 ∨ D - (s + 1) < D - s := by omega
      generalize hEq : D - s = E at *
      generalize hXe : 2 ^ s = X at *
      by_cases h1 : level < (E : Int)
      · by_cases h2 : 0 < E
        · have hlt : s + 1 ≤ stepsTo D level := by
            rw [hst]; split <;> omega
          (repeat' (first | refine W.mv ?_ | refine W.zl ?_ | refine W.fa ?_ | refine W.nl ?_ | refine W.as ?_ | refine W.zb ?_ | refine W.za ?_ | refine W.zi ?_ | refine W.zc ?_ | refine W.zp ?_ | refine W.st ?_ | refine SL.nilB ?_ | refine SL.nil ?_ | refine W.al fun b_ => ?_ | refine W.bx fun b_ => ?_ | refine W.bxa fun b_ => ?_ | refine W.sw ?_ | refine W.sa ?_ | refine W.sk ?_ | refine W.bs0 fun b_ => ?_ | refine W.ma fun b_ => ?_ | refine W.bsl fun b_ => ?_ | refine W.zu ?_ | refine W.zf ?_ | refine W.zd ?_ | refine W.zs ?_ | refine W.zv ?_ | refine W.zx ?_ | refine W.ex ?_ | refine W.mf ?_ | refine W.mk ?_ | refine SW.seq ?_ | refine SW.region ?_ | refine SW.block ?_ | refine SW.cond_t rfl ?_ | refine SW.cond_f rfl ?_ | refine SW.exit ?_ | refine SW.ret ?_ | refine SW.skip ?_))
          rw [← hs2', show (E : Int) - 1 = ((D - (s + 1) : Nat) : Int) by omega]
          refine HandF.mk (s + 1) ?_
          exact ⟨hlt, by omega⟩
        · have hs : s = stepsTo D level := by
            rw [hst] at hs1 ⊢
            split at hs1 <;> split <;> omega
          rw [show X = 2 ^ stepsTo D level by rw [← hXe, ← hs]]
          (repeat' (first | refine W.mv ?_ | refine W.zl ?_ | refine W.fa ?_ | refine W.nl ?_ | refine W.as ?_ | refine W.zb ?_ | refine W.za ?_ | refine W.zi ?_ | refine W.zc ?_ | refine W.zp ?_ | refine W.st ?_ | refine SL.nilB ?_ | refine SL.nil ?_ | refine W.al fun b_ => ?_ | refine W.bx fun b_ => ?_ | refine W.bxa fun b_ => ?_ | refine W.sw ?_ | refine W.sa ?_ | refine W.sk ?_ | refine W.bs0 fun b_ => ?_ | refine W.ma fun b_ => ?_ | refine W.bsl fun b_ => ?_ | refine W.zu ?_ | refine W.zf ?_ | refine W.zd ?_ | refine W.zs ?_ | refine W.zv ?_ | refine W.zx ?_ | refine W.ex ?_ | refine W.mf ?_ | refine W.mk ?_ | refine SW.seq ?_ | refine SW.region ?_ | refine SW.block ?_ | refine SW.cond_t rfl ?_ | refine SW.cond_f rfl ?_ | refine SW.exit ?_ | refine SW.ret ?_ | refine SW.skip ?_))
          exact CutF.mk () trivial
      · have hs : s = stepsTo D level := by
          rw [hst] at hs1 ⊢
          split at hs1 <;> split <;> omega
        rw [show X = 2 ^ stepsTo D level by rw [← hXe, ← hs]]
        (repeat' (first | refine W.mv ?_ | refine W.zl ?_ | refine W.fa ?_ | refine W.nl ?_ | refine W.as ?_ | refine W.zb ?_ | refine W.za ?_ | refine W.zi ?_ | refine W.zc ?_ | refine W.zp ?_ | refine W.st ?_ | refine SL.nilB ?_ | refine SL.nil ?_ | refine W.al fun b_ => ?_ | refine W.bx fun b_ => ?_ | refine W.bxa fun b_ => ?_ | refine W.sw ?_ | refine W.sa ?_ | refine W.sk ?_ | refine W.bs0 fun b_ => ?_ | refine W.ma fun b_ => ?_ | refine W.bsl fun b_ => ?_ | refine W.zu ?_ | refine W.zf ?_ | refine W.zd ?_ | refine W.zs ?_ | refine W.zv ?_ | refine W.zx ?_ | refine W.ex ?_ | refine W.mf ?_ | refine W.mk ?_ | refine SW.seq ?_ | refine SW.region ?_ | refine SW.block ?_ | refine SW.cond_t rfl ?_ | refine SW.cond_f rfl ?_ | refine SW.exit ?_ | refine SW.ret ?_ | refine SW.skip ?_))
        exact CutF.mk () trivial
    rintro _ -
    have hS5 : stepsTo D level ≤ 5 := by unfold stepsTo; split <;> omega
    have hX : 2 ^ stepsTo D level ≤ 32 := Nat.pow_le_pow_right (n := 2) (by omega) hS5
    have hXe : 0 ≤ level → stepsTo D level = D - level.toNat := fun h => by unfold stepsTo; rw [if_neg (by omega)]
    rcases (show (level < 0) ∨ (0 ≤ level ∧ (D : Int) < level) ∨ ((0 ≤ level ∧ level ≤ (D : Int)) ∧ i < 0) ∨ ((0 ≤ level ∧ level ≤ (D : Int)) ∧ 0 ≤ i ∧ ((2 ^ stepsTo D level : Nat) : Int) ≤ i) ∨ ((0 ≤ level ∧ level ≤ (D : Int)) ∧ 0 ≤ i ∧ i < ((2 ^ stepsTo D level : Nat) : Int)) by omega) with h | ⟨h1, h2⟩ | ⟨⟨h1, h2⟩, h3⟩ | ⟨⟨h1, h2⟩, h3, h4⟩ | ⟨⟨h1, h2⟩, h3, h4⟩
    case' inl =>
      rw [if_neg (by omega)] at hnd
      rw [show List.replicate 32 (Value.int .u8 0) = cbs N by rw [hnd]; rfl]
      generalize 2 ^ stepsTo D level = X at *
      (repeat' (first | refine W.mv ?_ | refine W.zl ?_ | refine W.fa ?_ | refine W.nl ?_ | refine W.as ?_ | refine W.zb ?_ | refine W.za ?_ | refine W.zi ?_ | refine W.zc ?_ | refine W.zp ?_ | refine W.st ?_ | refine SL.nilB ?_ | refine SL.nil ?_ | refine W.al fun b_ => ?_ | refine W.bx fun b_ => ?_ | refine W.bxa fun b_ => ?_ | refine W.sw ?_ | refine W.sa ?_ | refine W.sk ?_ | refine W.bs0 fun b_ => ?_ | refine W.ma fun b_ => ?_ | refine W.bsl fun b_ => ?_ | refine W.zu ?_ | refine W.zf ?_ | refine W.zd ?_ | refine W.zs ?_ | refine W.zv ?_ | refine W.zx ?_ | refine W.ex ?_ | refine W.mf ?_ | refine W.mk ?_ | refine SW.seq ?_ | refine SW.region ?_ | refine SW.block ?_ | refine SW.cond_t rfl ?_ | refine SW.cond_f rfl ?_ | refine SW.exit ?_ | refine SW.ret ?_ | refine SW.skip ?_))
    case' inr.inl =>
      rw [if_neg (by omega)] at hnd
      rw [show List.replicate 32 (Value.int .u8 0) = cbs N by rw [hnd]; rfl]
      generalize 2 ^ stepsTo D level = X at *
      (repeat' (first | refine W.mv ?_ | refine W.zl ?_ | refine W.fa ?_ | refine W.nl ?_ | refine W.as ?_ | refine W.zb ?_ | refine W.za ?_ | refine W.zi ?_ | refine W.zc ?_ | refine W.zp ?_ | refine W.st ?_ | refine SL.nilB ?_ | refine SL.nil ?_ | refine W.al fun b_ => ?_ | refine W.bx fun b_ => ?_ | refine W.bxa fun b_ => ?_ | refine W.sw ?_ | refine W.sa ?_ | refine W.sk ?_ | refine W.bs0 fun b_ => ?_ | refine W.ma fun b_ => ?_ | refine W.bsl fun b_ => ?_ | refine W.zu ?_ | refine W.zf ?_ | refine W.zd ?_ | refine W.zs ?_ | refine W.zv ?_ | refine W.zx ?_ | refine W.ex ?_ | refine W.mf ?_ | refine W.mk ?_ | refine SW.seq ?_ | refine SW.region ?_ | refine SW.block ?_ | refine SW.cond_t rfl ?_ | refine SW.cond_f rfl ?_ | refine SW.exit ?_ | refine SW.ret ?_ | refine SW.skip ?_))
    case' inr.inr.inl =>
      rw [if_neg (by omega)] at hnd
      rw [show List.replicate 32 (Value.int .u8 0) = cbs N by rw [hnd]; rfl]
      generalize 2 ^ stepsTo D level = X at *
      (repeat' (first | refine W.mv ?_ | refine W.zl ?_ | refine W.fa ?_ | refine W.nl ?_ | refine W.as ?_ | refine W.zb ?_ | refine W.za ?_ | refine W.zi ?_ | refine W.zc ?_ | refine W.zp ?_ | refine W.st ?_ | refine SL.nilB ?_ | refine SL.nil ?_ | refine W.al fun b_ => ?_ | refine W.bx fun b_ => ?_ | refine W.bxa fun b_ => ?_ | refine W.sw ?_ | refine W.sa ?_ | refine W.sk ?_ | refine W.bs0 fun b_ => ?_ | refine W.ma fun b_ => ?_ | refine W.bsl fun b_ => ?_ | refine W.zu ?_ | refine W.zf ?_ | refine W.zd ?_ | refine W.zs ?_ | refine W.zv ?_ | refine W.zx ?_ | refine W.ex ?_ | refine W.mf ?_ | refine W.mk ?_ | refine SW.seq ?_ | refine SW.region ?_ | refine SW.block ?_ | refine SW.cond_t rfl ?_ | refine SW.cond_f rfl ?_ | refine SW.exit ?_ | refine SW.ret ?_ | refine SW.skip ?_))
    case' inr.inr.inr.inl =>
      rw [hXe h1] at h4
      rw [if_neg (by omega)] at hnd
      rw [hXe h1]
      rw [hXe h1] at hX
      rw [show List.replicate 32 (Value.int .u8 0) = cbs N by rw [hnd]; rfl]
      generalize 2 ^ (D - level.toNat) = X at *
      (repeat' (first | refine W.mv ?_ | refine W.zl ?_ | refine W.fa ?_ | refine W.nl ?_ | refine W.as ?_ | refine W.zb ?_ | refine W.za ?_ | refine W.zi ?_ | refine W.zc ?_ | refine W.zp ?_ | refine W.st ?_ | refine SL.nilB ?_ | refine SL.nil ?_ | refine W.al fun b_ => ?_ | refine W.bx fun b_ => ?_ | refine W.bxa fun b_ => ?_ | refine W.sw ?_ | refine W.sa ?_ | refine W.sk ?_ | refine W.bs0 fun b_ => ?_ | refine W.ma fun b_ => ?_ | refine W.bsl fun b_ => ?_ | refine W.zu ?_ | refine W.zf ?_ | refine W.zd ?_ | refine W.zs ?_ | refine W.zv ?_ | refine W.zx ?_ | refine W.ex ?_ | refine W.mf ?_ | refine W.mk ?_ | refine SW.seq ?_ | refine SW.region ?_ | refine SW.block ?_ | refine SW.cond_t rfl ?_ | refine SW.cond_f rfl ?_ | refine SW.exit ?_ | refine SW.ret ?_ | refine SW.skip ?_))
    case' inr.inr.inr.inr =>
      rw [hXe h1] at h4 hX
      rw [if_pos ⟨h1, h2, h3, h4⟩] at hnd
      rw [hXe h1]
      obtain ⟨e, he⟩ : ∃ e : Nat, level = (e : Int) := ⟨level.toNat, by omega⟩
      obtain ⟨j, hj⟩ : ∃ j : Nat, i = (j : Int) := ⟨i.toNat, by omega⟩
      rw [he, hj, Int.toNat_natCast, Int.toNat_natCast] at hnd
      have he5 : 2 ^ e ≤ 2 ^ 5 := Nat.pow_le_pow_right (by omega) (by omega)
      have hj32 : j + 1 ≤ 33 := by omega
      have hm : (j + 1) * 2 ^ e ≤ 33 * 2 ^ 5 := Nat.mul_le_mul hj32 he5
      have hat := rat_p L hL (.slice a L.length cap) (by omega) e j (by omega)
      generalize 2 ^ (D - level.toNat) = X at *
      clear hm he5
      (repeat' (first | refine W.mv ?_ | refine W.zl ?_ | refine W.fa ?_ | refine W.nl ?_ | refine W.as ?_ | refine W.zb ?_ | refine W.za ?_ | refine W.zi ?_ | refine W.zc ?_ | refine W.zp ?_ | refine W.st ?_ | refine SL.nilB ?_ | refine SL.nil ?_ | refine W.al fun b_ => ?_ | refine W.bx fun b_ => ?_ | refine W.bxa fun b_ => ?_ | refine W.sw ?_ | refine W.sa ?_ | refine W.sk ?_ | refine W.bs0 fun b_ => ?_ | refine W.ma fun b_ => ?_ | refine W.bsl fun b_ => ?_ | refine W.zu ?_ | refine W.zf ?_ | refine W.zd ?_ | refine W.zs ?_ | refine W.zv ?_ | refine W.zx ?_ | refine W.ex ?_ | refine W.mf ?_ | refine W.mk ?_ | refine SW.seq ?_ | refine SW.region ?_ | refine SW.block ?_ | refine SW.cond_t rfl ?_ | refine SW.cond_f rfl ?_ | refine SW.exit ?_ | refine SW.ret ?_ | refine SW.skip ?_))
      refine W.callE hat ?_ ?_ (hpre := fun w2 hs => hw2.ro (Hc := []) hs)
      rotate_left
      rintro _ _ ⟨rfl, rfl⟩
      rw [← hnd]
      (repeat' (first | refine W.mv ?_ | refine W.zl ?_ | refine W.fa ?_ | refine W.nl ?_ | refine W.as ?_ | refine W.zb ?_ | refine W.za ?_ | refine W.zi ?_ | refine W.zc ?_ | refine W.zp ?_ | refine W.st ?_ | refine SL.nilB ?_ | refine SL.nil ?_ | refine W.al fun b_ => ?_ | refine W.bx fun b_ => ?_ | refine W.bxa fun b_ => ?_ | refine W.sw ?_ | refine W.sa ?_ | refine W.sk ?_ | refine W.bs0 fun b_ => ?_ | refine W.ma fun b_ => ?_ | refine W.bsl fun b_ => ?_ | refine W.zu ?_ | refine W.zf ?_ | refine W.zd ?_ | refine W.zs ?_ | refine W.zv ?_ | refine W.zx ?_ | refine W.ex ?_ | refine W.mf ?_ | refine W.mk ?_ | refine SW.seq ?_ | refine SW.region ?_ | refine SW.block ?_ | refine SW.cond_t rfl ?_ | refine SW.cond_f rfl ?_ | refine SW.exit ?_ | refine SW.ret ?_ | refine SW.skip ?_))
      rotate_left
      rw [he, hj]
    all_goals
      (refine SW.regionS [1, 13] ?_ (by kernel_rfl); refine SS.tw 0 rfl (p_move rfl rfl) ?_; refine SS.tw 2 rfl (p_move rfl rfl) ?_; refine SS.effB 1 ?_ rfl (by kernel_rfl))
      refine W.call hDep ?_
      rintro _ _ ⟨rfl, rfl⟩
      (refine SL.nilB ?_; (first | refine SS.tw 3 rfl (Pu.t (p_cmp rfl rfl rfl rfl) (by dsimp only [cmpP]; first | done | omega)) ?_; refine SS.tw 4 rfl (p_move rfl rfl) ?_; (first | refine SS.sk 5 rfl ?_ | refine SS.tw 5 rfl (p_move rfl rfl) ?_); (first | refine SS.sk 6 rfl ?_ | refine SS.tw 6 rfl (p_move rfl rfl) ?_); (first | refine SS.sk 7 rfl ?_ | refine SS.tw 7 rfl (p_move rfl rfl) ?_); (first | refine SS.sk 9 rfl ?_ | refine SS.lw 9 [10, 11, 12, 13] rfl ?_ | refine SS.la 9 [10, 11, 12, 13] rfl ?_ | refine SS.tw 9 rfl (p_load_aR rfl rfl (by assumption) (by assumption) (by assumption) (by assumption)) ?_); (first | refine SS.sk 8 rfl ?_; (first | refine SS.sk 10 rfl ?_ | refine SS.tw 10 rfl (p_eqA_t rfl rfl rfl hnl rfl) ?_); (first | refine SS.tw 11 rfl (p_pick_t rfl rfl rfl) ?_ | refine SS.tw 11 rfl (p_pick_f rfl rfl rfl) ?_); refine SS.tw 12 rfl (p_move rfl rfl) ?_; (first | refine SS.sk 13 rfl ?_; (first | refine SS.tw 14 rfl (p_pick_t rfl rfl rfl) ?_ | refine SS.tw 14 rfl (p_pick_f rfl rfl rfl) ?_); refine SS.tw 15 rfl (p_assign rfl rfl) ?_; refine SS.done ?_ (by kernel_rfl) | refine SS.effB 13 ?_ rfl (by kernel_rfl)) | refine SS.effK 8 ?_ rfl (by kernel_rfl)) | refine SS.tw 3 rfl (Pu.f (p_cmp rfl rfl rfl rfl) (by dsimp only [cmpP]; first | done | omega)) ?_; refine SS.tw 4 rfl (p_move rfl rfl) ?_; (first | refine SS.sk 5 rfl ?_ | refine SS.tw 5 rfl (p_move rfl rfl) ?_); (first | refine SS.sk 6 rfl ?_ | refine SS.tw 6 rfl (p_move rfl rfl) ?_); (first | refine SS.sk 7 rfl ?_ | refine SS.tw 7 rfl (p_move rfl rfl) ?_); (first | refine SS.sk 9 rfl ?_ | refine SS.lw 9 [10, 11, 12, 13] rfl ?_ | refine SS.la 9 [10, 11, 12, 13] rfl ?_ | refine SS.tw 9 rfl (p_load_aR rfl rfl (by assumption) (by assumption) (by assumption) (by assumption)) ?_); (first | refine SS.sk 8 rfl ?_; (first | refine SS.sk 10 rfl ?_ | refine SS.tw 10 rfl (p_eqA_t rfl rfl rfl hnl rfl) ?_); (first | refine SS.tw 11 rfl (p_pick_t rfl rfl rfl) ?_ | refine SS.tw 11 rfl (p_pick_f rfl rfl rfl) ?_); refine SS.tw 12 rfl (p_move rfl rfl) ?_; (first | refine SS.sk 13 rfl ?_; (first | refine SS.tw 14 rfl (p_pick_t rfl rfl rfl) ?_ | refine SS.tw 14 rfl (p_pick_f rfl rfl rfl) ?_); refine SS.tw 15 rfl (p_assign rfl rfl) ?_; refine SS.done ?_ (by kernel_rfl) | refine SS.effB 13 ?_ rfl (by kernel_rfl)) | refine SS.effK 8 ?_ rfl (by kernel_rfl)) | (refine SS.cs 3 rfl (p_cmp rfl rfl rfl rfl) (fun h_ => ?_) (fun h_ => ?_) <;> dsimp only [cmpP] at h_ <;> (refine SS.tw 4 rfl (p_move rfl rfl) ?_; (first | refine SS.sk 5 rfl ?_ | refine SS.tw 5 rfl (p_move rfl rfl) ?_); (first | refine SS.sk 6 rfl ?_ | refine SS.tw 6 rfl (p_move rfl rfl) ?_); (first | refine SS.sk 7 rfl ?_ | refine SS.tw 7 rfl (p_move rfl rfl) ?_); (first | refine SS.sk 9 rfl ?_ | refine SS.lw 9 [10, 11, 12, 13] rfl ?_ | refine SS.la 9 [10, 11, 12, 13] rfl ?_ | refine SS.tw 9 rfl (p_load_aR rfl rfl (by assumption) (by assumption) (by assumption) (by assumption)) ?_); (first | refine SS.sk 8 rfl ?_; (first | refine SS.sk 10 rfl ?_ | refine SS.tw 10 rfl (p_eqA_t rfl rfl rfl hnl rfl) ?_); (first | refine SS.tw 11 rfl (p_pick_t rfl rfl rfl) ?_ | refine SS.tw 11 rfl (p_pick_f rfl rfl rfl) ?_); refine SS.tw 12 rfl (p_move rfl rfl) ?_; (first | refine SS.sk 13 rfl ?_; (first | refine SS.tw 14 rfl (p_pick_t rfl rfl rfl) ?_ | refine SS.tw 14 rfl (p_pick_f rfl rfl rfl) ?_); refine SS.tw 15 rfl (p_assign rfl rfl) ?_; refine SS.done ?_ (by kernel_rfl) | refine SS.effB 13 ?_ rfl (by kernel_rfl)) | refine SS.effK 8 ?_ rfl (by kernel_rfl))))))
      refine W.call hNode ?_
      rintro _ _ ⟨rfl, rfl⟩
      (refine SL.nilB ?_; (first | refine SS.sk 10 rfl ?_ | refine SS.tw 10 rfl (p_eqA_t rfl rfl rfl hnl rfl) ?_); (first | refine SS.tw 11 rfl (p_pick_t rfl rfl rfl) ?_ | refine SS.tw 11 rfl (p_pick_f rfl rfl rfl) ?_); refine SS.tw 12 rfl (p_move rfl rfl) ?_; (first | refine SS.sk 13 rfl ?_; (first | refine SS.tw 14 rfl (p_pick_t rfl rfl rfl) ?_ | refine SS.tw 14 rfl (p_pick_f rfl rfl rfl) ?_); refine SS.tw 15 rfl (p_assign rfl rfl) ?_; refine SS.done ?_ (by kernel_rfl) | refine SS.effB 13 ?_ rfl (by kernel_rfl)))
      refine W.call awake12_p ?_
      rintro _ _ ⟨rfl, rfl⟩
      (refine SL.nilB ?_; (first | refine SS.tw 14 rfl (p_pick_t rfl rfl rfl) ?_ | refine SS.tw 14 rfl (p_pick_f rfl rfl rfl) ?_); refine SS.tw 15 rfl (p_assign rfl rfl) ?_; refine SS.done ?_ (by kernel_rfl))
      (repeat' (first | refine W.mv ?_ | refine W.zl ?_ | refine W.fa ?_ | refine W.nl ?_ | refine W.as ?_ | refine W.zb ?_ | refine W.za ?_ | refine W.zi ?_ | refine W.zc ?_ | refine W.zp ?_ | refine W.st ?_ | refine SL.nilB ?_ | refine SL.nil ?_ | refine W.al fun b_ => ?_ | refine W.bx fun b_ => ?_ | refine W.bxa fun b_ => ?_ | refine W.sw ?_ | refine W.sa ?_ | refine W.sk ?_ | refine W.bs0 fun b_ => ?_ | refine W.ma fun b_ => ?_ | refine W.bsl fun b_ => ?_ | refine W.zu ?_ | refine W.zf ?_ | refine W.zd ?_ | refine W.zs ?_ | refine W.zv ?_ | refine W.zx ?_ | refine W.ex ?_ | refine W.mf ?_ | refine W.mk ?_ | refine SW.seq ?_ | refine SW.region ?_ | refine SW.block ?_ | refine SW.cond_t rfl ?_ | refine SW.cond_f rfl ?_ | refine SW.exit ?_ | refine SW.ret ?_ | refine SW.skip ?_))
      refine Fin.to [] ?_
      exact F.f1 rfl
end Go.Proofs.Ytieamijnajbcnaa
