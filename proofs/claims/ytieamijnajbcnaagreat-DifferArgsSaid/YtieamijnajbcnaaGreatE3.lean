/- The root of leaves, each of them; each sum of each level. -/
import Derived.Test.YtieamijnajbcnaaGreatE1
set_option linter.unusedVariables false
set_option linter.unusedSimpArgs false
namespace Go.Proofs.YtieamijnajbcnaaGreat
open Go
attribute [local irreducible] SW SL SQ SH SA SS Pu Fin CutF HandF

/-- What the laws of 12 have of their leaves. -/
theorem Rd.few {w : World} {a : Option Addr} {cap : Nat} {l : List (List UInt8)} (hl : D32 l) (h : Rd [] w 32 (.slice a l.length cap) (cbs l.flatten)) : D32 (l.take 20) ∧ (l.take 20).length ≤ 20 ∧ Rd [] w 32 (.slice a (l.take 20).length cap) (cbs (l.take 20).flatten) := by
  refine ⟨fun x hx => hl x (List.mem_of_mem_take hx), by rw [List.length_take]; omega, ?_⟩
  have := h.preN 20 hl
  rwa [← List.length_take] at this
end Go.Proofs.YtieamijnajbcnaaGreat
