/- Slices of bytes that are handed in, in a row. -/
import Derived.Test.YtpdokachnmlhlaaOpb
import Derived.Test.YtpdokachnmlhlaaG3
set_option linter.unusedVariables false
set_option linter.unusedSimpArgs false
namespace Go.Proofs.Ytpdokachnmlhlaa
open Go Go.ChangeShapes Go.WideShapes Go.ChangeAt Go.RowKit
section
variable {H : Type} {enc : TypeId × Value → H} {P : Program}
theorem open_rows {t e e2 b : Nat} {W : World} {r : Reach} {sp : Nat → Bool} {hl : Bool} {v : Value} {d : DataW H} {ps : List MemPlace} (hu : P.underlying t = some (.slice e)) (hc : P.cellsOf e = 1) (he : P.underlying e = some (.slice e2)) (hc2 : P.cellsOf e2 = 1) (he2 : P.underlying e2 = some (.int .u8)) (hval : Value.okWide P W r b t v) (hd' : DataW.Trod enc P W 0 sp hl t v d ps) :
    ∃ bss : List (List UInt8), RdS [] W v bss := by
  obtain ⟨a, len, cap, ys, rfl, -, -, hrd, hyl, hG⟩ := open_sl (G := fun cs => ∃ (v : Value) (bs : List UInt8), cs = [v] ∧ Rd [] W 1 v (cbs bs)) hu hc (by decide) hval hd' (fun fuel cells z h => trod_rd he hc2 he2 h)
  rw [Nat.mul_one] at hyl
  have hk : ∀ i : Nat, ∃ bs : List UInt8, i < len → ∃ v, ys[i]? = some v ∧ Rd [] W 1 v (cbs bs) := fun i => by
    by_cases hi : i < len
    · obtain ⟨v, bs, h1, h2⟩ := hG i hi
      refine ⟨bs, fun _ => ⟨v, ?_, h2⟩⟩
      rw [Nat.mul_one, List.drop_eq_getElem_cons (by omega)] at h1
      simp only [List.take_succ_cons, List.take_zero, List.cons.injEq, and_true] at h1
      rw [List.getElem?_eq_getElem (by omega), h1]
    · exact ⟨[], fun h => absurd h hi⟩
  obtain ⟨f, hf⟩ := Classical.axiomOfChoice hk
  refine ⟨(List.range len).map f, ys, hrd, by simp [hyl], fun i bs hi => ?_⟩
  rw [List.getElem?_map] at hi
  have hil : i < len := by
    by_cases h : i < len
    · exact h
    · rw [List.getElem?_eq_none (by simp; omega)] at hi; simp at hi
  rw [List.getElem?_range hil] at hi
  simp at hi
  subst hi
  obtain ⟨v, h1, h2⟩ := hf i hil
  obtain ⟨a', len', cap', e, h3⟩ := h2
  subst e
  exact ⟨a', len', cap', h1, ⟨a', len', cap', rfl, h3⟩⟩
end
end Go.Proofs.Ytpdokachnmlhlaa
