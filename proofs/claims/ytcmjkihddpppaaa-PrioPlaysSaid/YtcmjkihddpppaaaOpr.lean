/- Calls on the queue that are handed in. -/
import Derived.Test.YtcmjkihddpppaaaOpq
import Derived.Test.YtcmjkihddpppaaaQ11
set_option linter.unusedVariables false
set_option linter.unusedSimpArgs false
set_option maxRecDepth 20000
namespace Go.Proofs.Ytcmjkihddpppaaa
open Go Go.ChangeShapes Go.WideShapes Go.ChangeAt Go.RowKit

section
variable {H : Type} {enc : TypeId × Value → H} {w : World} {sp : Nat → Bool} {hd : Bool}
theorem ths_of : ∀ (n : Nat) (ys : List Value), ys.length = n * 2 → (∀ i, i < n → ∃ t : Int × Int, (ys.drop (i * 2)).take 2 = tc t) → ∃ xs : List (Int × Int), ys = xs.flatMap tc := by
  intro n
  induction n with
  | zero => intro ys h _; exact ⟨[], List.eq_nil_of_length_eq_zero (by omega)⟩
  | succ n ih =>
    intro ys h hG
    obtain ⟨t, ht⟩ := hG 0 (by omega)
    obtain ⟨xs, hxs⟩ := ih (ys.drop 2) (by rw [List.length_drop]; omega) (fun i hi => by
      obtain ⟨t, h1⟩ := hG (i + 1) (by omega)
      exact ⟨t, by rw [List.drop_drop, show 2 + i * 2 = (i + 1) * 2 by omega]; exact h1⟩)
    refine ⟨t :: xs, ?_⟩
    rw [List.flatMap_cons, ← hxs, ← ht]
    simp
theorem trod_qo {fuel : Nat} {cs : List Value} {x : DataW H × List MemPlace} (h : DataW.trod enc Try.prog w 0 sp hd fuel 30 cs = some x) : ∃ q : Qo, QoR w q ∧ cs = q.cells := by
  obtain ⟨xs, m, -, -, hl, hxl, hx⟩ := DataW.trod_struct Try.underlying30 h
  have c0 : Try.prog.cellsOf 3 = 1 := by kernel_rfl
  have c1 : Try.prog.cellsOf 28 = 1 := by kernel_rfl
  have c2 : Try.prog.cellsOf 26 = 2 := by kernel_rfl
  have c4 : Try.prog.cellsOf 30 = 2 := by kernel_rfl
  rw [c4] at hl
  have hn : xs.length = 2 := hxl
  have h0 : DataW.trod enc Try.prog w 0 sp hd m 3 ((cs.drop 0).take (Try.prog.cellsOf 3)) = xs[0]? := hx 0 _ rfl
  have h1 : DataW.trod enc Try.prog w 0 sp hd m 28 ((cs.drop 1).take (Try.prog.cellsOf 28)) = xs[1]? := hx 1 _ rfl
  rw [c0] at h0
  rw [c1] at h1
  rw [List.getElem?_eq_getElem (by omega)] at h0 h1
  obtain ⟨n0, e0, a0, b0⟩ := trod_intG Try.underlying3 h0
  obtain ⟨a, len, cap, ys, e1, -, -, hrd, hyl, hG⟩ := open_slT (n := 2) (G := fun cs => ∃ t : Int × Int, cs = tc t) Try.underlying28 c2 (by decide) h1 (fun fuel cells z h => by
    obtain ⟨t, h2, -, -⟩ := trod_th h
    exact ⟨t, h2⟩)
  obtain ⟨ts, rfl⟩ := ths_of len ys hyl hG
  refine ⟨⟨n0, a, len, cap, ts⟩, hrd, ?_⟩
  match cs, hl with
  | [x0, x1], _ =>
    simp at e0 e1
    subst e0 e1
    rfl
theorem open_qos {b : Nat} {r : Reach} {v : Value} {d : DataW H} {ps : List MemPlace} (hval : Value.okWide Try.prog w r b 22 v) (hd' : DataW.Trod enc Try.prog w 0 sp hd 22 v d ps) :
    ∃ (a : Option Addr) (len cap : Nat) (ys : List Value), v = .slice a len cap ∧ QosR w a len cap ys := by
  obtain ⟨a, len, cap, ys, rfl, hlc, hcm, hrd, hyl, hops⟩ := open_sl (n := 2) (G := fun cs => ∃ q : Qo, QoR w q ∧ cs = q.cells) Try.underlying22 (by kernel_rfl) (by decide) hval hd' (fun fuel cells z h => trod_qo h)
  exact ⟨a, len, cap, ys, rfl, hrd, Nat.le_trans hlc hcm, hops⟩
end
end Go.Proofs.Ytcmjkihddpppaaa
