/- The document's sums of levels, its root. -/
import Derived.Test.YtieamijnajbcnaaGreatD2
import Derived.Test.YtieamijnajbcnaaGreatD3
set_option linter.unusedVariables false
set_option linter.unusedSimpArgs false
namespace Go.Proofs.YtieamijnajbcnaaGreat
open Go
attribute [local irreducible] SW SL SQ SH SA SS Pu Fin CutF HandF

/-- A row of sums that is read. -/
theorem Rd.row {K : List Nat} {w : World} {v : Value} {L : List (List UInt8)} (h : Rd K w 32 v (cbs L.flatten)) (hL : D32 L) : ∃ (a : Option Addr) (cap : Nat), v = .slice a L.length cap ∧ L.length ≤ cap ∧
    ∀ (i : Nat) (x : List UInt8), L[i]? = some x → ∃ (b o : Nat) (l : List Value) (T : TypeId) (fz : Nat × Nat), a = some ⟨b, o, none⟩ ∧ w.heap[b]? = some (.cells l.toArray T fz) ∧ b ∉ K ∧ (l.drop (o + i * 32)).take 32 = cbs x := by
  obtain ⟨a, len, cap, rfl, h1, h2, h3⟩ := h
  have hl : L.length = len := by
    rw [cbs_len, flatN_len hL] at h1
    omega
  subst hl
  refine ⟨a, cap, rfl, h2, fun i x hi => ?_⟩
  have hlt : i < L.length := (List.getElem?_eq_some_iff.1 hi).1
  obtain ⟨b, o, l, T, fz, rfl, hb, hk, hy⟩ := h3.resolve_left (by omega)
  refine ⟨b, o, l, T, fz, rfl, hb, hk, ?_⟩
  rw [← cbs_get hL hi, ← hy, List.drop_take, List.take_take, List.drop_drop, Nat.min_eq_left (by omega)]
end Go.Proofs.YtieamijnajbcnaaGreat
