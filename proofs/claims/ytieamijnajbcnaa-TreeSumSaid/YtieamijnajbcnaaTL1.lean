/- The sum of a block of a number is as the chapter says: the statement 'garderobelaw12.TreeSum', of every input. -/
import Derived.Test.YtieamijnajbcnaaRows
import Derived.Test.YtieamijnajbcnaaAC
import Derived.Test.YtieamijnajbcnaaE2
set_option linter.unusedVariables false
namespace Go.Proofs.Ytieamijnajbcnaa
open Go.ChangeShapes Go.WideShapes Go.ChangeAt Go.RowKit

theorem Try.own : ownKnob Try.prog.godebug = none := by kernel_rfl
theorem Try.laidOut : laidOutB Try.prog = true := by kernel_rfl

set_option maxRecDepth 100000 in
theorem treeSum_lifted (os : Os) (started : os.Started) (H : Type) (enc : TypeId × Value → H) :
    ReturnsInHanded {} Try.checked os 3 .any (Rows.treeSumSpec.pre6 enc Try.prog Try.f3 Rows.treeSumRow.domain false) (Rows.treeSumSpec.post enc Try.prog Try.f3 false true false false) := by
  refine returnsInHanded_of_change (C := Try.checked) Try.own started (by kernel_rfl) Try.func3
    (ChangeSpec.witness6 (enc := enc) (C := Try.checked) false ⟨#[], #[.int .u32 0, .slice none 0 0], []⟩ 8 (by kernel_rfl) (by kernel_rfl) (by kernel_rfl) (by kernel_rfl)) ?_
  intro W base args ds gs before hval0 hW hcnd _
  have hval : ∀ (j : Nat) t v, Try.f3.params[j]? = some t → args[j]? = some v → Value.okWide Try.prog W .any base t v := hval0
  have hW' := hW
  obtain ⟨p, q, hA0, hV, rfl, hfz, hnd⟩ := hW
  have hA : DataW.TrodAll enc Try.prog W 0 (fun _ => true) true Try.f3.params.toList args.toList ds p := hA0
  rw [Try.params3] at hA hval
  obtain ⟨v0, v1, d0, d1, p0, p1, rfl, rfl, rfl, h0, h1⟩ := trodAll_two hA
  obtain ⟨n, rfl, hn1, hn2⟩ := open_int (k := .u32) Try.underlying22 (hval 0 _ v0 rfl rfl)
  obtain ⟨k, rfl⟩ : ∃ k : Nat, n = (k : Int) := ⟨n.toNat, by have : (0 : Int) ≤ n := Int.le_trans (by decide) hn1; omega⟩
  have hk : k < 4294967296 := by have : ((k : Nat) : Int) < 4294967296 := Int.lt_of_le_of_lt hn2 (by decide); omega
  obtain ⟨bs, hb⟩ := open_bytes Try.underlying23 (by kernel_rfl) Try.underlying5 (hval 1 _ v1 rfl rfl) h1
  exact end_calls (vs := [_, _]) (sum_law k hk _ bs) hb Try.laidOut (by rw [Try.params3]; decide +kernel) rfl hW' (by kernel_rfl) Try.underlying4 rfl

theorem treeSum_holds : Rows.TreeSumSaid :=
  OpenClaim.holds_of_wide 3 Try.f3 rfl rfl rfl rfl rfl rfl rfl ⟨rfl, rfl, rfl, rfl, rfl⟩ rfl rfl rfl rfl rfl (by kernel_rfl) Try.func3 (by kernel_rfl)
    (of_decide_eq_true (by kernel_rfl)) (by unfold Func.isWrapper; rw [if_neg (by decide +kernel)]; exact ⟨rfl, rfl⟩)
    (fun os started H enc _ => treeSum_lifted os started H enc)
end Go.Proofs.Ytieamijnajbcnaa
