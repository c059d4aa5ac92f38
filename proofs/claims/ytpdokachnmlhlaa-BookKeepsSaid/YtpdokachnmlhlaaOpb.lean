/- Bytes that are handed in. -/
import Derived.Test.YtpdokachnmlhlaaOps
set_option linter.unusedVariables false
set_option linter.unusedSimpArgs false
namespace Go.Proofs.Ytpdokachnmlhlaa
open Go Go.ChangeShapes Go.WideShapes Go.ChangeAt Go.RowKit
section
variable {H : Type} {enc : TypeId × Value → H} {P : Program}
theorem open_bytes {t e b : Nat} {W : World} {r : Reach} {sp : Nat → Bool} {hl : Bool} {v : Value} {d : DataW H} {ps : List MemPlace} (hu : P.underlying t = some (.slice e)) (hc : P.cellsOf e = 1) (he : P.underlying e = some (.int .u8)) (hval : Value.okWide P W r b t v) (hd' : DataW.Trod enc P W 0 sp hl t v d ps) :
    ∃ bs : List UInt8, Rd [] W 1 v (cbs bs) := by
  obtain ⟨a, len, cap, ys, rfl, -, -, hrd, hyl, hG⟩ := open_sl (G := fun cs => ∃ n : Int, cs = [.int .u8 n] ∧ 0 ≤ n ∧ n < 256) hu hc (by decide) hval hd' (fun fuel cells z h => by
    obtain ⟨n, h1, h2, h3⟩ := trod_intG he h
    exact ⟨n, h1, Int.le_trans (by decide) h2, Int.lt_of_le_of_lt h3 (by decide)⟩)
  obtain ⟨bs, rfl⟩ : ∃ bs : List UInt8, ys = cbs bs := by
    clear hrd hval hd'
    refine ⟨ys.map fun v => match v with | .int _ n => UInt8.ofNat n.toNat | _ => 0, ?_⟩
    unfold cbs
    rw [List.map_map]
    refine (List.map_id ys).symm.trans (List.map_congr_left fun v hv => ?_)
    obtain ⟨i, hi, rfl⟩ := List.mem_iff_getElem.1 hv
    obtain ⟨n, h1, h2, h3⟩ := hG i (by omega)
    rw [Nat.mul_one, List.drop_eq_getElem_cons hi] at h1
    simp only [List.take_succ_cons, List.take_zero, List.cons.injEq, and_true] at h1
    simp only [id, Function.comp, h1]
    have : (UInt8.ofNat n.toNat).toNat = n.toNat := by rw [UInt8.toNat_ofNat']; exact Nat.mod_eq_of_lt (by omega)
    simp only [this, Value.int.injEq, true_and]
    omega
  exact ⟨bs, hrd⟩
end
end Go.Proofs.Ytpdokachnmlhlaa
