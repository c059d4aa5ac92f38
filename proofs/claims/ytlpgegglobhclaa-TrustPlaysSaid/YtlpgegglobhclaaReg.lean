/- A register that is handed in. -/
import Derived.Test.YtlpgegglobhclaaTr3
import Derived.Test.YtlpgegglobhclaaEnd
set_option linter.unusedVariables false
set_option linter.unusedSimpArgs false
namespace Go.Proofs.Ytlpgegglobhclaa
open Go

theorem bytes_of : ∀ (l : List Value), (∀ v ∈ l, ∃ n, v = .int .u8 n ∧ 0 ≤ n ∧ n < 256) → ∃ bs : List UInt8, l = bs.map bv
  | [], _ => ⟨[], rfl⟩
  | v :: l, h => by
    obtain ⟨bs, rfl⟩ := bytes_of l (fun x hx => h x (by simp [hx]))
    obtain ⟨n, rfl, h0, h1⟩ := h v (by simp)
    refine ⟨UInt8.ofNat n.toNat :: bs, ?_⟩
    have : (UInt8.ofNat n.toNat).toNat = n.toNat := by
      rw [UInt8.toNat_ofNat']; exact Nat.mod_eq_of_lt (by omega)
    simp only [List.map_cons, List.cons.injEq, bv, this, and_true, Value.int.injEq, true_and]
    omega
theorem reg_cells : Try.prog.cellTypes Try.prog.depth 26 = some (22 :: List.replicate 32 5) := by kernel_rfl
theorem cell_int {P : Program} {w : World} {r : Reach} {b t : Nat} {k : IntKind} {v : Value} (ht : P.underlying t = some (.int k)) (h : Cell.okWide P w r b t v) : ∃ n, v = .int k n ∧ k.has n := by
  unfold Cell.okWide at h
  rw [ht] at h
  cases v <;> simp [Cell.ok, ht] at h
  obtain ⟨rfl, h⟩ := h
  exact ⟨_, rfl, h⟩
theorem reg_row {w : World} {r : Reach} {b : Nat} {cs : List Value} (hl : cs.length = 33) (h : ∀ i v, cs[i]? = some v → ∃ u, (22 :: List.replicate 32 5 : List Nat)[i % 33]? = some u ∧ Cell.okWide Try.prog w r b u v) : ∃ g : Rg, g.Ok ∧ cs = rgc g := by
  match cs, hl with
  | c :: l, hl =>
    simp only [List.length_cons] at hl
    obtain ⟨u, hu, hc⟩ := h 0 c rfl
    simp at hu
    subst hu
    obtain ⟨n, rfl, hn⟩ := cell_int Try.underlying22 hc
    obtain ⟨bs, rfl⟩ := bytes_of l (fun v hv => by
      obtain ⟨i, hi⟩ := List.mem_iff_getElem?.1 hv
      have hlt := (List.getElem?_eq_some_iff.1 hi).1
      obtain ⟨u, hu, hc⟩ := h (i + 1) v (by simpa using hi)
      have hm : (i + 1) % 33 = i + 1 := Nat.mod_eq_of_lt (by omega)
      rw [hm, List.getElem?_cons_succ, List.getElem?_replicate, if_pos (by omega)] at hu
      cases hu
      obtain ⟨n, rfl, hn⟩ := cell_int Try.underlying5 hc
      exact ⟨n, rfl, Int.le_trans (by decide) hn.1, by have : n ≤ 255 := Int.le_trans hn.2 (by decide); omega⟩)
    refine ⟨⟨n, bs⟩, ⟨by simpa using hl, Int.le_trans (by decide) hn.1, Int.le_trans hn.2 (by decide)⟩, rfl⟩
theorem open_reg {w : World} {r : Reach} {b : Nat} {v : Value} (h : Value.okWide Try.prog w r b 26 v) : ∃ g : Rg, g.Ok ∧ v = .agg (rgc g).toArray := by
  unfold Value.okWide at h
  rw [Try.underlying26] at h
  obtain ⟨cs, rfl, hs, ts, hts, -, hc⟩ := h
  rw [reg_cells] at hts
  cases hts
  have hs2 : Try.prog.cellsOf 26 = 33 := by kernel_rfl
  rw [hs2] at hs
  obtain ⟨g, hg, he⟩ := reg_row (cs := cs.toList) (by simpa using hs) (fun i v hv => by
    have := hc i v (by simpa using hv)
    simpa using this)
  exact ⟨g, hg, by rw [← he]⟩
end Go.Proofs.Ytlpgegglobhclaa
