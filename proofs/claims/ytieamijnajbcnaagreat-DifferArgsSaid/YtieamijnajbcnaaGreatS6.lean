/- How many sums stand above some leaves, as the document has it. -/
import Derived.Test.YtieamijnajbcnaaGreatD4
import Derived.Test.YtieamijnajbcnaaGreatT2
set_option linter.unusedVariables false
set_option linter.unusedSimpArgs false
namespace Go.Proofs.YtieamijnajbcnaaGreat
open Go
attribute [local irreducible] SW SL SQ SH SA SS Pu Fin CutF HandF

abbrev iv (xs : List Nat) : List Value := xs.map fun k : Nat => (.int .i64 (k : Int) : Value)
theorem iv_len (xs : List Nat) : (iv xs).length = xs.length := List.length_map ..
/-- Numbers that are read. -/
theorem Rd.ints {K : List Nat} {w : World} {v : Value} {xs : List Nat} (h : Rd K w 1 v (iv xs)) : ∃ (a : Option Addr) (cap : Nat), v = .slice a xs.length cap ∧ xs.length ≤ cap ∧
    ∀ (i k : Nat), xs[i]? = some k → ∃ (b o : Nat) (l : List Value) (T : TypeId) (fz : Nat × Nat), a = some ⟨b, o, none⟩ ∧ w.heap[b]? = some (.cells l.toArray T fz) ∧ b ∉ K ∧ l[o + i]? = some (.int .i64 (k : Int)) := by
  obtain ⟨a, len, cap, rfl, h1, h2, h3⟩ := h
  rw [iv_len, Nat.mul_one] at h1
  subst h1
  refine ⟨a, cap, rfl, h2, fun i k hi => ?_⟩
  have hlt := (List.getElem?_eq_some_iff.1 hi).1
  obtain ⟨b, o, l, T, fz, rfl, hb, hk, hy⟩ := h3.resolve_left (by omega)
  exact ⟨b, o, l, T, fz, rfl, hb, hk, take_get hy (by rw [List.getElem?_map, hi]; rfl)⟩
end Go.Proofs.YtieamijnajbcnaaGreat
