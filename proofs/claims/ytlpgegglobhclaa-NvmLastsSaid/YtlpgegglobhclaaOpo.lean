/- The calls of the memory's statements, as they are handed in. -/
import Derived.Test.YtlpgegglobhclaaOps
import Derived.Test.YtlpgegglobhclaaLe
set_option linter.unusedVariables false
set_option linter.unusedSimpArgs false
namespace Go.Proofs.Ytlpgegglobhclaa
open Go Go.ChangeShapes Go.WideShapes Go.ChangeAt Go.RowKit

section
variable {H : Type} {enc : TypeId × Value → H} {w : World} {sp : Nat → Bool} {hd : Bool}
theorem trod_opn {fuel : Nat} {cs : List Value} {x : DataW H × List MemPlace} (h : DataW.trod enc Try.prog w 0 sp hd fuel 63 cs = some x) : ∃ o : OpN, o.Ok ∧ OpR [] w o ∧ cs = opc o := by
  obtain ⟨xs, m, -, -, hl, hxl, hx⟩ := DataW.trod_struct Try.underlying63 h
  have c0 : Try.prog.cellsOf 3 = 1 := by kernel_rfl
  have c1 : Try.prog.cellsOf 50 = 1 := by kernel_rfl
  have c2 : Try.prog.cellsOf 5 = 1 := by kernel_rfl
  have c4 : Try.prog.cellsOf 63 = 5 := by kernel_rfl
  rw [c4] at hl
  have hn : xs.length = 5 := hxl
  have h0 : DataW.trod enc Try.prog w 0 sp hd m 3 ((cs.drop 0).take (Try.prog.cellsOf 3)) = xs[0]? := hx 0 _ rfl
  have h1 : DataW.trod enc Try.prog w 0 sp hd m 3 ((cs.drop 1).take (Try.prog.cellsOf 3)) = xs[1]? := hx 1 _ rfl
  have h2 : DataW.trod enc Try.prog w 0 sp hd m 3 ((cs.drop 2).take (Try.prog.cellsOf 3)) = xs[2]? := hx 2 _ rfl
  have h3 : DataW.trod enc Try.prog w 0 sp hd m 50 ((cs.drop 3).take (Try.prog.cellsOf 50)) = xs[3]? := hx 3 _ rfl
  have h4 : DataW.trod enc Try.prog w 0 sp hd m 50 ((cs.drop 4).take (Try.prog.cellsOf 50)) = xs[4]? := hx 4 _ rfl
  rw [c0] at h0 h1 h2
  rw [c1] at h3 h4
  rw [List.getElem?_eq_getElem (by omega)] at h0 h1 h2 h3 h4
  obtain ⟨n0, e0, a0, b0⟩ := trod_intG Try.underlying3 h0
  obtain ⟨n1, e1, a1, b1⟩ := trod_intG Try.underlying3 h1
  obtain ⟨n2, e2, a2, b2⟩ := trod_intG Try.underlying3 h2
  obtain ⟨v3, s3, e3, r3⟩ := trod_rd Try.underlying50 c2 Try.underlying5 h3
  obtain ⟨v4, s4, e4, r4⟩ := trod_rd Try.underlying50 c2 Try.underlying5 h4
  refine ⟨⟨n0, n1, n2, v3, s3, v4, s4⟩, ⟨⟨a0, b0⟩, ⟨a1, b1⟩, ⟨a2, b2⟩⟩, ⟨r3, r4⟩, ?_⟩
  match cs, hl with
  | [x0, x1, x2, x3, x4], _ =>
    simp at e0 e1 e2 e3 e4
    subst e0 e1 e2 e3 e4
    rfl
theorem open_ops {b : Nat} {r : Reach} {v : Value} {d : DataW H} {ps : List MemPlace} (hval : Value.okWide Try.prog w r b 57 v) (hd' : DataW.Trod enc Try.prog w 0 sp hd 57 v d ps) :
    ∃ (a : Option Addr) (len cap : Nat) (ys : List Value), v = .slice a len cap ∧ len ≤ maxLen ∧ OpsR w a len cap ys := by
  obtain ⟨a, len, cap, ys, rfl, hlc, hcm, hrd, hyl, hops⟩ := open_sl (n := 5) (G := fun cs => ∃ o : OpN, o.Ok ∧ OpR [] w o ∧ cs = opc o) Try.underlying57 (by kernel_rfl) (by decide) hval hd' (fun fuel cells z h => trod_opn h)
  exact ⟨a, len, cap, ys, rfl, Nat.le_trans hlc hcm, hrd, hops⟩
end
end Go.Proofs.Ytlpgegglobhclaa
