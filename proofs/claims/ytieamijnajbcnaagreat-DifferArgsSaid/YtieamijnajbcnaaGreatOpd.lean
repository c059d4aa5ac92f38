/- Sums that are handed in: 32 bytes each. -/
import Derived.Test.YtieamijnajbcnaaGreatAC
import Derived.Test.YtieamijnajbcnaaGreatT1
set_option linter.unusedVariables false
set_option linter.unusedSimpArgs false
namespace Go.Proofs.YtieamijnajbcnaaGreat
open Go Go.ChangeShapes Go.WideShapes Go.ChangeAt Go.RowKit
section
variable {H : Type} {enc : TypeId × Value → H} {P : Program} {W : World} {sp : Nat → Bool} {hl : Bool}
theorem all_u8 (ys : List Value) (h : ∀ v ∈ ys, ∃ n : Int, v = .int .u8 n ∧ 0 ≤ n ∧ n < 256) : ∃ bs : List UInt8, bs.length = ys.length ∧ ys = cbs bs := by
  refine ⟨ys.map fun v => match v with | .int _ n => UInt8.ofNat n.toNat | _ => 0, by simp, ?_⟩
  unfold cbs
  rw [List.map_map]
  refine (List.map_id ys).symm.trans (List.map_congr_left fun v hv => ?_)
  obtain ⟨n, h1, h2, h3⟩ := h v hv
  simp only [id, Function.comp, h1]
  have : (UInt8.ofNat n.toNat).toNat = n.toNat := by rw [UInt8.toNat_ofNat']; exact Nat.mod_eq_of_lt (by omega)
  simp only [this, Value.int.injEq, true_and]
  omega
theorem trod_bytesN {t e n fuel : Nat} {cs : List Value} {z : DataW H × List MemPlace} (hu : P.underlying t = some (.array n e)) (hc : P.cellsOf e = 1) (he : P.underlying e = some (.int .u8)) (hct : P.cellsOf t = n) (h : DataW.trod enc P W 0 sp hl fuel t cs = some z) : ∃ bs : List UInt8, bs.length = n ∧ cs = cbs bs := by
  obtain ⟨xs, m, -, -, hl1, hl2, hel⟩ := DataW.trod_array hu h
  rw [hct] at hl1
  obtain ⟨bs, h1, h2⟩ := all_u8 cs (fun v hv => by
    obtain ⟨i, hi, rfl⟩ := List.mem_iff_getElem.1 hv
    have h3 := hel i (by omega)
    rw [hc, Nat.mul_one, List.drop_eq_getElem_cons hi, List.getElem?_eq_getElem (by omega)] at h3
    simp only [List.take_succ_cons, List.take_zero] at h3
    obtain ⟨n, h4, h5, h6⟩ := trod_intG he h3
    simp only [List.cons.injEq, and_true] at h4
    exact ⟨n, h4, Int.le_trans (by decide) h5, Int.lt_of_le_of_lt h6 (by decide)⟩)
  exact ⟨bs, by omega, h2⟩
theorem chunks {n : Nat} (ys : List Value) (f : Nat → List UInt8) (len : Nat) (hy : ys.length = len * n) (h : ∀ i, i < len → (ys.drop (i * n)).take n = cbs (f i)) : ys = cbs ((List.range len).map f).flatten := by
  have key : ∀ m, m ≤ len → ys.take (m * n) = cbs ((List.range m).map f).flatten := by
    intro m
    induction m with
    | zero => intro _; simp
    | succ m ih =>
      intro hm
      rw [Nat.succ_mul, List.take_add, ih (by omega), h m (by omega), List.range_succ]
      simp
  have := key len (Nat.le_refl _)
  rwa [← hy, List.take_length] at this
/-- A slice of sums. -/
theorem open_digs {t e u b : Nat} {r : Reach} {v : Value} {d : DataW H} {ps : List MemPlace} (hu : P.underlying t = some (.slice e)) (hc : P.cellsOf e = 32) (he : P.underlying e = some (.array 32 u)) (hcu : P.cellsOf u = 1) (heu : P.underlying u = some (.int .u8)) (hval : Value.okWide P W r b t v) (hd' : DataW.Trod enc P W 0 sp hl t v d ps) :
    ∃ l : List (List UInt8), D32 l ∧ Rd [] W 32 v (cbs l.flatten) := by
  obtain ⟨a, len, cap, ys, rfl, -, -, hrd, hyl, hG⟩ := open_sl (n := 32) (G := fun cs => ∃ bs : List UInt8, bs.length = 32 ∧ cs = cbs bs) hu hc (by decide) hval hd' (fun fuel cells z h => trod_bytesN he hcu heu hc h)
  have hk : ∀ i : Nat, ∃ bs : List UInt8, bs.length = 32 ∧ (i < len → (ys.drop (i * 32)).take 32 = cbs bs) := fun i => by
    by_cases hi : i < len
    · obtain ⟨bs, h1, h2⟩ := hG i hi
      exact ⟨bs, h1, fun _ => h2⟩
    · exact ⟨z32, rfl, fun h => absurd h hi⟩
  obtain ⟨f, hf⟩ := Classical.axiomOfChoice hk
  have := chunks ys f len hyl (fun i hi => (hf i).2 hi)
  refine ⟨(List.range len).map f, fun x hx => ?_, by rw [← this]; exact hrd⟩
  obtain ⟨i, -, rfl⟩ := List.mem_map.1 hx
  exact (hf i).1
end
end Go.Proofs.YtieamijnajbcnaaGreat
