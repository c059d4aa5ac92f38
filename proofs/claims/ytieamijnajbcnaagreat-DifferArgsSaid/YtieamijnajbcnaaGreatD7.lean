/- A tree's leaves, sums, ways. -/
import Derived.Test.YtieamijnajbcnaaGreatD6
set_option linter.unusedVariables false
set_option linter.unusedSimpArgs false
namespace Go.Proofs.YtieamijnajbcnaaGreat
open Go
attribute [local irreducible] SW SL SQ SH SA SS Pu Fin CutF HandF

def nodeAt (l : List (List UInt8)) (d i : Int) : List UInt8 := if 0 ≤ d ∧ d ≤ dep l.length ∧ 0 ≤ i ∧ i < ((2 ^ (dep l.length - d.toNat) : Nat) : Int) then atV l d.toNat i.toNat else z32
theorem Node_p {t b : Nat} {l : List (List UInt8)} {H : Hp} (hT : TreeV t b l H) (d i : Int) (h2 : l.length ≤ 1024) : Tri Tryz.prog 20 [.pointer (some ⟨t, 0, none⟩), .int .i64 d, .int .i64 i] H (fun _ => True) (fun v H' => v = dgV (nodeAt l d i) ∧ H' = H) := by
  have hd10 := dep_max (n := l.length) (k := 10) (by simpa using h2)
  obtain ⟨lb, lc, vs, lj, Hw, rfl, hrw, hvl, hlc⟩ := hT.open (by simp [rowsV])
  have hLl : (rowsV l (dep l.length) (dep l.length + 1)).length = dep l.length + 1 := by simp [rowsV]
  rw [hLl] at hlc ⊢
  refine Tri.mk Tryz.func20 rfl Tryz.ntmps20 rfl fun w hw => ?_
  have hout : ∀ (h : ¬ (0 ≤ d ∧ d ≤ dep l.length ∧ 0 ≤ i ∧ i < ((2 ^ (dep l.length - d.toNat) : Nat) : Int))), nodeAt l d i = z32 := fun h => by unfold nodeAt; rw [if_neg h]
  by_cases h1 : 0 ≤ d
  · obtain ⟨e, rfl⟩ : ∃ e : Nat, d = (e : Int) := ⟨d.toNat, by omega⟩
    rw [Int.toNat_natCast] at hout
    by_cases he : e < dep l.length + 1
    · obtain ⟨rb, rc, rj, hv, hat, hr32, hrc⟩ := hrw.get (rowsV_get l (D := dep l.length) he)
      rw [rowV_len] at hv hrc
      have hv2 := app_get (lj := lj) hv
      have hXm : 2 ^ (dep l.length - e) ≤ 1024 := Nat.pow_le_pow_right (n := 2) (by omega) (show dep l.length - e ≤ 10 by omega)
      have hrg := fun j h => rowV_get l (D := dep l.length) (d := e) (i := j) h
      have hin : ∀ j : Nat, j < 2 ^ (dep l.length - e) → nodeAt l (e : Int) (j : Int) = atV l e j := fun j h => by
        unfold nodeAt; rw [if_pos ⟨by omega, by omega, by omega, by rw [Int.toNat_natCast]; omega⟩]; rfl
      generalize 2 ^ (dep l.length - e) = X at *
      by_cases hi : 0 ≤ i
      · obtain ⟨j, rfl⟩ : ∃ j : Nat, i = (j : Int) := ⟨i.toNat, by omega⟩
        by_cases hj : j < X
        · have hg := cbs_getJ (junk := rj) hr32 (hrg j hj)
          have hc := cl32 (hr32 _ (List.mem_of_getElem? (hrg j hj)))
          rw [hin j hj]
          (repeat' (first | refine W.mv ?_ | refine W.zl ?_ | refine W.fa ?_ | refine W.nl ?_ | refine W.as ?_ | refine W.zb ?_ | refine W.za ?_ | refine W.zi ?_ | refine W.zc ?_ | refine W.zp ?_ | refine W.st ?_ | refine SL.nilB ?_ | refine SL.nil ?_ | refine W.al fun b_ => ?_ | refine W.bx fun b_ => ?_ | refine W.bxa fun b_ => ?_ | refine W.sw ?_ | refine W.sa ?_ | refine W.sk ?_ | refine W.bs0 fun b_ => ?_ | refine W.ma fun b_ => ?_ | refine W.bsl fun b_ => ?_ | refine W.zu ?_ | refine W.zf ?_ | refine W.zd ?_ | refine W.zs ?_ | refine W.zv ?_ | refine W.zx ?_ | refine W.ex ?_ | refine W.mf ?_ | refine W.mk ?_ | refine SW.seq ?_ | refine SW.region ?_ | refine SW.block ?_ | refine SW.cond_t rfl ?_ | refine SW.cond_f rfl ?_ | refine SW.exit ?_ | refine SW.ret ?_ | refine SW.skip ?_))
          refine F.cH ((t, cl [.pointer (some ⟨b, 0, none⟩), .int .i64 (l.length : Int), .slice (some ⟨lb, 0, none⟩) (dep l.length + 1) lc] 127) :: ([(lb, cl (vs ++ lj) 76)] ++ Hw)) (cbs (atV l e j)) ?_
          exact ⟨rfl, rfl⟩
        · rw [hout (by omega)]
          (repeat' (first | refine W.mv ?_ | refine W.zl ?_ | refine W.fa ?_ | refine W.nl ?_ | refine W.as ?_ | refine W.zb ?_ | refine W.za ?_ | refine W.zi ?_ | refine W.zc ?_ | refine W.zp ?_ | refine W.st ?_ | refine SL.nilB ?_ | refine SL.nil ?_ | refine W.al fun b_ => ?_ | refine W.bx fun b_ => ?_ | refine W.bxa fun b_ => ?_ | refine W.sw ?_ | refine W.sa ?_ | refine W.sk ?_ | refine W.bs0 fun b_ => ?_ | refine W.ma fun b_ => ?_ | refine W.bsl fun b_ => ?_ | refine W.zu ?_ | refine W.zf ?_ | refine W.zd ?_ | refine W.zs ?_ | refine W.zv ?_ | refine W.zx ?_ | refine W.ex ?_ | refine W.mf ?_ | refine W.mk ?_ | refine SW.seq ?_ | refine SW.region ?_ | refine SW.block ?_ | refine SW.cond_t rfl ?_ | refine SW.cond_f rfl ?_ | refine SW.exit ?_ | refine SW.ret ?_ | refine SW.skip ?_))
          refine F.cH ((t, cl [.pointer (some ⟨b, 0, none⟩), .int .i64 (l.length : Int), .slice (some ⟨lb, 0, none⟩) (dep l.length + 1) lc] 127) :: ([(lb, cl (vs ++ lj) 76)] ++ Hw)) (cbs z32) ?_
          exact ⟨rfl, rfl⟩
      · rw [hout (by omega)]
        (repeat' (first | refine W.mv ?_ | refine W.zl ?_ | refine W.fa ?_ | refine W.nl ?_ | refine W.as ?_ | refine W.zb ?_ | refine W.za ?_ | refine W.zi ?_ | refine W.zc ?_ | refine W.zp ?_ | refine W.st ?_ | refine SL.nilB ?_ | refine SL.nil ?_ | refine W.al fun b_ => ?_ | refine W.bx fun b_ => ?_ | refine W.bxa fun b_ => ?_ | refine W.sw ?_ | refine W.sa ?_ | refine W.sk ?_ | refine W.bs0 fun b_ => ?_ | refine W.ma fun b_ => ?_ | refine W.bsl fun b_ => ?_ | refine W.zu ?_ | refine W.zf ?_ | refine W.zd ?_ | refine W.zs ?_ | refine W.zv ?_ | refine W.zx ?_ | refine W.ex ?_ | refine W.mf ?_ | refine W.mk ?_ | refine SW.seq ?_ | refine SW.region ?_ | refine SW.block ?_ | refine SW.cond_t rfl ?_ | refine SW.cond_f rfl ?_ | refine SW.exit ?_ | refine SW.ret ?_ | refine SW.skip ?_))
        refine F.cH ((t, cl [.pointer (some ⟨b, 0, none⟩), .int .i64 (l.length : Int), .slice (some ⟨lb, 0, none⟩) (dep l.length + 1) lc] 127) :: ([(lb, cl (vs ++ lj) 76)] ++ Hw)) (cbs z32) ?_
        exact ⟨rfl, rfl⟩
    · rw [hout (by omega)]
      (repeat' (first | refine W.mv ?_ | refine W.zl ?_ | refine W.fa ?_ | refine W.nl ?_ | refine W.as ?_ | refine W.zb ?_ | refine W.za ?_ | refine W.zi ?_ | refine W.zc ?_ | refine W.zp ?_ | refine W.st ?_ | refine SL.nilB ?_ | refine SL.nil ?_ | refine W.al fun b_ => ?_ | refine W.bx fun b_ => ?_ | refine W.bxa fun b_ => ?_ | refine W.sw ?_ | refine W.sa ?_ | refine W.sk ?_ | refine W.bs0 fun b_ => ?_ | refine W.ma fun b_ => ?_ | refine W.bsl fun b_ => ?_ | refine W.zu ?_ | refine W.zf ?_ | refine W.zd ?_ | refine W.zs ?_ | refine W.zv ?_ | refine W.zx ?_ | refine W.ex ?_ | refine W.mf ?_ | refine W.mk ?_ | refine SW.seq ?_ | refine SW.region ?_ | refine SW.block ?_ | refine SW.cond_t rfl ?_ | refine SW.cond_f rfl ?_ | refine SW.exit ?_ | refine SW.ret ?_ | refine SW.skip ?_))
      refine F.cH ((t, cl [.pointer (some ⟨b, 0, none⟩), .int .i64 (l.length : Int), .slice (some ⟨lb, 0, none⟩) (dep l.length + 1) lc] 127) :: ([(lb, cl (vs ++ lj) 76)] ++ Hw)) (cbs z32) ?_
      exact ⟨rfl, rfl⟩
  · rw [hout (by omega)]
    (repeat' (first | refine W.mv ?_ | refine W.zl ?_ | refine W.fa ?_ | refine W.nl ?_ | refine W.as ?_ | refine W.zb ?_ | refine W.za ?_ | refine W.zi ?_ | refine W.zc ?_ | refine W.zp ?_ | refine W.st ?_ | refine SL.nilB ?_ | refine SL.nil ?_ | refine W.al fun b_ => ?_ | refine W.bx fun b_ => ?_ | refine W.bxa fun b_ => ?_ | refine W.sw ?_ | refine W.sa ?_ | refine W.sk ?_ | refine W.bs0 fun b_ => ?_ | refine W.ma fun b_ => ?_ | refine W.bsl fun b_ => ?_ | refine W.zu ?_ | refine W.zf ?_ | refine W.zd ?_ | refine W.zs ?_ | refine W.zv ?_ | refine W.zx ?_ | refine W.ex ?_ | refine W.mf ?_ | refine W.mk ?_ | refine SW.seq ?_ | refine SW.region ?_ | refine SW.block ?_ | refine SW.cond_t rfl ?_ | refine SW.cond_f rfl ?_ | refine SW.exit ?_ | refine SW.ret ?_ | refine SW.skip ?_))
    refine F.cH ((t, cl [.pointer (some ⟨b, 0, none⟩), .int .i64 (l.length : Int), .slice (some ⟨lb, 0, none⟩) (dep l.length + 1) lc] 127) :: ([(lb, cl (vs ++ lj) 76)] ++ Hw)) (cbs z32) ?_
    exact ⟨rfl, rfl⟩
end Go.Proofs.YtieamijnajbcnaaGreat
