/- Whole numbers that are handed in. -/
import Derived.Test.YtieamijnajbcnaaAC
set_option linter.unusedVariables false
set_option linter.unusedSimpArgs false
namespace Go.Proofs.Ytieamijnajbcnaa
open Go Go.ChangeShapes Go.WideShapes Go.ChangeAt Go.RowKit
section
variable {H : Type} {enc : TypeId × Value → H} {P : Program} {W : World} {sp : Nat → Bool} {hl : Bool}
theorem open_ints {t e b : Nat} {r : Reach} {v : Value} {d : DataW H} {ps : List MemPlace} (hu : P.underlying t = some (.slice e)) (hc : P.cellsOf e = 1) (he : P.underlying e = some (.int .i64)) (hval : Value.okWide P W r b t v) (hd' : DataW.Trod enc P W 0 sp hl t v d ps) :
    ∃ ks : List Int, Rd [] W 1 v (ks.map fun k : Int => (.int .i64 k : Value)) := by
  obtain ⟨a, len, cap, ys, rfl, -, -, hrd, hyl, hG⟩ := open_sl (G := fun cs => ∃ n : Int, cs = [.int .i64 n]) hu hc (by decide) hval hd' (fun fuel cells z h => by
    obtain ⟨n, h1, -, -⟩ := trod_intG he h
    exact ⟨n, h1⟩)
  refine ⟨ys.map fun v => match v with | .int _ n => n | _ => 0, ?_⟩
  rw [List.map_map]
  have : ys.map ((fun k : Int => (.int .i64 k : Value)) ∘ fun v => match v with | .int _ n => n | _ => 0) = ys := by
    refine (List.map_congr_left fun v hv => ?_).trans (List.map_id ys)
    obtain ⟨i, hi, rfl⟩ := List.mem_iff_getElem.1 hv
    obtain ⟨n, h1⟩ := hG i (by omega)
    rw [Nat.mul_one, List.drop_eq_getElem_cons hi] at h1
    simp only [List.take_succ_cons, List.take_zero, List.cons.injEq, and_true] at h1
    simp only [id, Function.comp, h1]
  rw [this]
  exact hrd
theorem open_intsL {t e b : Nat} {r : Reach} {v : Value} {d : DataW H} {ps : List MemPlace} (hu : P.underlying t = some (.slice e)) (hc : P.cellsOf e = 1) (he : P.underlying e = some (.int .i64)) (hval : Value.okWide P W r b t v) (hd' : DataW.Trod enc P W 0 sp hl t v d ps) :
    ∃ ks : List Int, ks.length ≤ maxLen ∧ Rd [] W 1 v (ks.map fun k : Int => (.int .i64 k : Value)) := by
  obtain ⟨a, len, cap, ys, rfl, hlc, hcm, hrd, hyl, hG⟩ := open_sl (G := fun cs => ∃ n : Int, cs = [.int .i64 n]) hu hc (by decide) hval hd' (fun fuel cells z h => by
    obtain ⟨n, h1, -, -⟩ := trod_intG he h
    exact ⟨n, h1⟩)
  refine ⟨ys.map fun v => match v with | .int _ n => n | _ => 0, by rw [List.length_map]; omega, ?_⟩
  rw [List.map_map]
  have : ys.map ((fun k : Int => (.int .i64 k : Value)) ∘ fun v => match v with | .int _ n => n | _ => 0) = ys := by
    refine (List.map_congr_left fun v hv => ?_).trans (List.map_id ys)
    obtain ⟨i, hi, rfl⟩ := List.mem_iff_getElem.1 hv
    obtain ⟨n, h1⟩ := hG i (by omega)
    rw [Nat.mul_one, List.drop_eq_getElem_cons hi] at h1
    simp only [List.take_succ_cons, List.take_zero, List.cons.injEq, and_true] at h1
    simp only [id, Function.comp, h1]
  rw [this]
  exact hrd
end
end Go.Proofs.Ytieamijnajbcnaa
