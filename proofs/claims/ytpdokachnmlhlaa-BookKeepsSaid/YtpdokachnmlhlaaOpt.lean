/- Texts that are handed in. -/
import Derived.Test.YtpdokachnmlhlaaOpb
import Derived.Test.YtpdokachnmlhlaaC1
set_option linter.unusedVariables false
set_option linter.unusedSimpArgs false
set_option maxRecDepth 20000
namespace Go.Proofs.Ytpdokachnmlhlaa
open Go Go.ChangeShapes Go.WideShapes Go.ChangeAt Go.RowKit

section
variable {H : Type} {enc : TypeId × Value → H} {w : World} {sp : Nat → Bool} {hd : Bool}
theorem trod_tx {fuel : Nat} {cs : List Value} {x : DataW H × List MemPlace} (h : DataW.trod enc Try.prog w 0 sp hd fuel 56 cs = some x) : ∃ t : Tx, TxR [] w t ∧ cs = t.cells := by
  obtain ⟨xs, m, -, -, hl, hxl, hx⟩ := DataW.trod_struct Try.underlying56 h
  have c1 : Try.prog.cellsOf 33 = 1 := by kernel_rfl
  have c2 : Try.prog.cellsOf 5 = 1 := by kernel_rfl
  have c4 : Try.prog.cellsOf 56 = 3 := by kernel_rfl
  rw [c4] at hl
  have hn : xs.length = 3 := hxl
  have h0 : DataW.trod enc Try.prog w 0 sp hd m 5 ((cs.drop 0).take (Try.prog.cellsOf 5)) = xs[0]? := hx 0 _ rfl
  have h3 : DataW.trod enc Try.prog w 0 sp hd m 33 ((cs.drop 1).take (Try.prog.cellsOf 33)) = xs[1]? := hx 1 _ rfl
  have h4 : DataW.trod enc Try.prog w 0 sp hd m 33 ((cs.drop 2).take (Try.prog.cellsOf 33)) = xs[2]? := hx 2 _ rfl
  rw [c2] at h0
  rw [c1] at h3 h4
  rw [List.getElem?_eq_getElem (by omega)] at h0 h3 h4
  obtain ⟨n0, e0, a0, b0⟩ := trod_intG Try.underlying5 h0
  obtain ⟨k, rfl⟩ : ∃ k : UInt8, n0 = (k.toNat : Int) := by
    have h1' : 0 ≤ n0 := a0
    have h2' : n0 ≤ 255 := b0
    exact ⟨UInt8.ofNat n0.toNat, by rw [UInt8.toNat_ofNat']; omega⟩
  obtain ⟨v3, s3, e3, r3⟩ := trod_rd Try.underlying33 c2 Try.underlying5 h3
  obtain ⟨v4, s4, e4, r4⟩ := trod_rd Try.underlying33 c2 Try.underlying5 h4
  obtain ⟨a, la, ca, rfl, hr3⟩ := id r3
  obtain ⟨b, lb, cb, rfl, hr4⟩ := id r4
  refine ⟨⟨k, a, la, ca, b, lb, cb, s3, s4⟩, ⟨r3, r4⟩, ?_⟩
  match cs, hl with
  | [x0, x1, x2], _ =>
    simp at e0 e3 e4
    subst e0 e3 e4
    rfl
theorem open_tx {b : Nat} {r : Reach} {v : Value} {d : DataW H} {ps : List MemPlace} (hval : Value.okWide Try.prog w r b 56 v) (hd' : DataW.Trod enc Try.prog w 0 sp hd 56 v d ps) : ∃ t : Tx, v = .agg t.cells.toArray ∧ TxR [] w t := by
  have hv : ∃ cs, v = .agg cs := by
    unfold Value.okWide at hval
    rw [Try.underlying56] at hval
    obtain ⟨cs, h, -⟩ := hval
    exact ⟨cs, h⟩
  obtain ⟨cs, rfl⟩ := hv
  obtain ⟨fuel, h⟩ := hd'
  obtain ⟨t, h1, h2⟩ := trod_tx h
  refine ⟨t, ?_, h1⟩
  have : cs.toList = t.cells := h2
  rw [← this]
theorem open_txs {b : Nat} {r : Reach} {v : Value} {d : DataW H} {ps : List MemPlace} (hval : Value.okWide Try.prog w r b 52 v) (hd' : DataW.Trod enc Try.prog w 0 sp hd 52 v d ps) :
    ∃ (a : Option Addr) (len cap : Nat) (ys : List Value), v = .slice a len cap ∧ len ≤ maxLen ∧ Rd [] w 3 v ys ∧ ys.length = len * 3 ∧ ∀ i, i < len → ∃ t : Tx, TxR [] w t ∧ (ys.drop (i * 3)).take 3 = t.cells := by
  obtain ⟨a, len, cap, ys, rfl, hlc, hcm, hrd, hyl, hops⟩ := open_sl (n := 3) (G := fun cs => ∃ t : Tx, TxR [] w t ∧ cs = t.cells) Try.underlying52 (by kernel_rfl) (by decide) hval hd' (fun fuel cells z h => trod_tx h)
  exact ⟨a, len, cap, ys, rfl, Nat.le_trans hlc hcm, hrd, hyl, hops⟩
end
end Go.Proofs.Ytpdokachnmlhlaa
