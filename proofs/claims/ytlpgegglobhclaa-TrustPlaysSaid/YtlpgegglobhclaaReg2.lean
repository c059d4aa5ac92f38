/- Registers and calls that are handed in, in slices. -/
import Derived.Test.YtlpgegglobhclaaReg
import Derived.Test.YtlpgegglobhclaaOpen
import Derived.Test.YtlpgegglobhclaaTr4
import Derived.OpenShut
set_option linter.unusedVariables false
set_option linter.unusedSimpArgs false
namespace Go.Proofs.Ytlpgegglobhclaa
open Go Go.ChangeShapes Go.WideShapes Go.ChangeAt Go.RowKit

section
variable {H : Type} {enc : TypeId × Value → H} {w : World} {b : Nat} {sp : Nat → Bool} {hd : Bool}
theorem wf_has {k : IntKind} {n : Int} (h : (Lit.int k n).wf = true) : k.min ≤ n ∧ n ≤ k.max := by
  simpa [Lit.wf] using h
theorem trod_int1 {t : TypeId} {k : IntKind} {fuel : Nat} {cs : List Value} {x : DataW H × List MemPlace} (ht : Try.prog.underlying t = some (.int k)) (h : DataW.trod enc Try.prog w b sp hd fuel t cs = some x) : ∃ n, cs = [.int k n] ∧ k.min ≤ n ∧ n ≤ k.max := by
  obtain ⟨n, h1, -, h2⟩ := DataW.trod_int ht h
  exact ⟨n, h1, wf_has h2⟩
theorem trod_bytes {t n : Nat} {fuel : Nat} {cs : List Value} {x : DataW H × List MemPlace} (ht : Try.prog.underlying t = some (.array n 5)) (hc : Try.prog.cellsOf t = n) (h : DataW.trod enc Try.prog w b sp hd fuel t cs = some x) : ∃ bs : List UInt8, cs = bs.map bv ∧ bs.length = n := by
  obtain ⟨xs, m, -, -, hl, hxl, hx⟩ := DataW.trod_array ht h
  have h1 : Try.prog.cellsOf 5 = 1 := by kernel_rfl
  rw [h1] at hx
  rw [hc] at hl
  obtain ⟨bs, rfl⟩ := bytes_of cs (fun v hv => by
    obtain ⟨i, hi⟩ := List.mem_iff_getElem?.1 hv
    have hlt := (List.getElem?_eq_some_iff.1 hi).1
    have := hx i (by omega)
    have hxi : xs[i]? = some (xs[i]'(by omega)) := List.getElem?_eq_getElem _
    rw [hxi] at this
    obtain ⟨m, hm, h2, h3⟩ := trod_int1 Try.underlying5 this
    have hv2 : v = .int .u8 m := by
      have e : ((cs.drop (i * 1)).take 1)[0]? = some (.int .u8 m) := by rw [hm]; rfl
      rw [List.getElem?_take, if_pos (by omega), List.getElem?_drop, Nat.mul_one, Nat.add_zero, hi] at e
      exact Option.some.inj e
    exact ⟨m, hv2, Int.le_trans (by decide) h2, by have : m ≤ 255 := Int.le_trans h3 (by decide); omega⟩)
  exact ⟨bs, rfl, by simpa using hl⟩
theorem trod_reg {fuel : Nat} {cs : List Value} {x : DataW H × List MemPlace} (h : DataW.trod enc Try.prog w b sp hd fuel 26 cs = some x) : ∃ g : Rg, g.Ok ∧ cs = rgc g := by
  obtain ⟨xs, m, -, -, hl, hxl, hx⟩ := DataW.trod_struct Try.underlying26 h
  have c1 : Try.prog.cellsOf 22 = 1 := by kernel_rfl
  have c2 : Try.prog.cellsOf 24 = 32 := by kernel_rfl
  have c3 : Try.prog.cellsOf 26 = 33 := by kernel_rfl
  rw [c3] at hl
  have hn : xs.length = 2 := hxl
  have h0 : DataW.trod enc Try.prog w b sp hd m 22 ((cs.drop 0).take (Try.prog.cellsOf 22)) = xs[0]? := hx 0 _ rfl
  have h1 : DataW.trod enc Try.prog w b sp hd m 24 ((cs.drop 1).take (Try.prog.cellsOf 24)) = xs[1]? := hx 1 _ rfl
  rw [c1] at h0
  rw [c2] at h1
  rw [List.getElem?_eq_getElem (by omega)] at h0 h1
  obtain ⟨n, hn0, ha, hb⟩ := trod_int1 Try.underlying22 h0
  obtain ⟨bs, hbs, hbl⟩ := trod_bytes Try.underlying24 c2 h1
  refine ⟨⟨n, bs⟩, ⟨hbl, Int.le_trans (by decide) ha, Int.le_trans hb (by decide)⟩, ?_⟩
  have e : cs = (cs.drop 0).take 1 ++ (cs.drop 1).take 32 := by
    rw [List.drop_zero, List.take_of_length_le (l := cs.drop 1) (by rw [List.length_drop]; omega), List.take_append_drop]
  rw [e, hn0, hbs]; rfl
theorem trod_op {fuel : Nat} {cs : List Value} {x : DataW H × List MemPlace} (h : DataW.trod enc Try.prog w b sp hd fuel 39 cs = some x) : ∃ o : OpT, o.Ok ∧ cs = otc o := by
  obtain ⟨xs, m, -, -, hl, hxl, hx⟩ := DataW.trod_struct Try.underlying39 h
  have c0 : Try.prog.cellsOf 3 = 1 := by kernel_rfl
  have c1 : Try.prog.cellsOf 22 = 1 := by kernel_rfl
  have c3 : Try.prog.cellsOf 26 = 33 := by kernel_rfl
  have c4 : Try.prog.cellsOf 39 = 36 := by kernel_rfl
  rw [c4] at hl
  have hn : xs.length = 4 := hxl
  have h0 : DataW.trod enc Try.prog w b sp hd m 3 ((cs.drop 0).take (Try.prog.cellsOf 3)) = xs[0]? := hx 0 _ rfl
  have h1 : DataW.trod enc Try.prog w b sp hd m 26 ((cs.drop 1).take (Try.prog.cellsOf 26)) = xs[1]? := hx 1 _ rfl
  have h2 : DataW.trod enc Try.prog w b sp hd m 22 ((cs.drop 34).take (Try.prog.cellsOf 22)) = xs[2]? := hx 2 _ rfl
  have h3 : DataW.trod enc Try.prog w b sp hd m 3 ((cs.drop 35).take (Try.prog.cellsOf 3)) = xs[3]? := hx 3 _ rfl

  rw [c0] at h0 h3
  rw [c3] at h1
  rw [c1] at h2
  rw [List.getElem?_eq_getElem (by omega)] at h0 h1 h2 h3
  obtain ⟨n0, e0, a0, b0⟩ := trod_int1 Try.underlying3 h0
  obtain ⟨g, hg, e1⟩ := trod_reg h1
  obtain ⟨n2, e2, a2, b2⟩ := trod_int1 Try.underlying22 h2
  obtain ⟨n3, e3, a3, b3⟩ := trod_int1 Try.underlying3 h3
  refine ⟨⟨n0, g, n2, n3⟩, ⟨hg, Int.le_trans b3 (by decide), Int.le_trans (by decide) a2, Int.le_trans b2 (by decide)⟩, ?_⟩
  have e : cs = (cs.drop 0).take 1 ++ ((cs.drop 1).take 33 ++ ((cs.drop 34).take 1 ++ (cs.drop 35).take 1)) := by
    rw [List.drop_zero, List.take_of_length_le (l := cs.drop 35) (by rw [List.length_drop]; omega)]
    have e35 : cs.drop 35 = (cs.drop 34).drop 1 := by rw [List.drop_drop]
    have e34 : cs.drop 34 = (cs.drop 1).drop 33 := by rw [List.drop_drop]
    rw [e35, List.take_append_drop, e34, List.take_append_drop, List.take_append_drop]
  rw [e, e0, e1, e2, e3]; rfl
end
end Go.Proofs.Ytlpgegglobhclaa
