/- What stands beside a leaf's way up; the root that a way leads to. -/
import Derived.Test.YtieamijnajbcnaaGreatD7
set_option linter.unusedVariables false
set_option linter.unusedSimpArgs false
namespace Go.Proofs.YtieamijnajbcnaaGreat
open Go
attribute [local irreducible] SW SL SQ SH SA SS Pu Fin CutF HandF

theorem snoc_fl (L : List (List UInt8)) (x : List UInt8) : cbs L.flatten ++ cbs x = cbs (L ++ [x]).flatten := by simp
theorem b1d {x : List UInt8} (h : x.length = 32) : bfill (fun i => some (i * 32, 32)) (zs (List.replicate 32 (.int .u8 0)) 1) [(0, dgV x)] = some (cbs x) := by
  have h1 : (vl (dgV x)).length = 32 := cl32 h
  have h2 : (zs (List.replicate 32 (.int .u8 0)) 1).length = 32 := by rw [zs_length, List.length_replicate]
  unfold bfill
  dsimp only
  rw [if_pos ⟨h1, by omega⟩]
  unfold bfill
  rw [Nat.zero_mul, List.take_zero, List.nil_append, Nat.zero_add, List.drop_of_length_le (by omega), List.append_nil]
  rfl
end Go.Proofs.YtieamijnajbcnaaGreat
