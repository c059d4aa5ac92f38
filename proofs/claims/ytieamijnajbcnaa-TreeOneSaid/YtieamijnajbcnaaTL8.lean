/- One leaf that is set takes as many sums as the tree is deep; set to what it is it leaves the root: the statement 'garderobelaw12.TreeOne', of every input. -/
import Derived.Test.YtieamijnajbcnaaRows
import Derived.Test.YtieamijnajbcnaaOpd
import Derived.Test.YtieamijnajbcnaaS4
set_option linter.unusedVariables false
namespace Go.Proofs.Ytieamijnajbcnaa
open Go.ChangeShapes Go.WideShapes Go.ChangeAt Go.RowKit

theorem Try.own : ownKnob Try.prog.godebug = none := by kernel_rfl
theorem Try.laidOut : laidOutB Try.prog = true := by kernel_rfl

set_option maxRecDepth 100000 in
theorem treeOne_lifted (os : Os) (started : os.Started) (H : Type) (enc : TypeId × Value → H) :
    ReturnsInHanded {} Try.checked os 10 .any (Rows.treeOneSpec.pre6 enc Try.prog Try.f10 Rows.treeOneRow.domain false) (Rows.treeOneSpec.post enc Try.prog Try.f10 false true false false) := by
  refine returnsInHanded_of_change (C := Try.checked) Try.own started (by kernel_rfl) Try.func10
    (ChangeSpec.witness6 (enc := enc) (C := Try.checked) false ⟨#[], #[.slice none 0 0, .int .i64 0], []⟩ 8 (by kernel_rfl) (by kernel_rfl) (by kernel_rfl) (by kernel_rfl)) ?_
  intro W base args ds gs before hval0 hW hcnd _
  have hval : ∀ (j : Nat) t v, Try.f10.params[j]? = some t → args[j]? = some v → Value.okWide Try.prog W .any base t v := hval0
  have hW' := hW
  obtain ⟨p, q, hA0, hV, rfl, hfz, hnd⟩ := hW
  have hA : DataW.TrodAll enc Try.prog W 0 (fun _ => true) true Try.f10.params.toList args.toList ds p := hA0
  rw [Try.params10] at hA hval
  obtain ⟨v0, v1, d0, d1, p0, p1, rfl, rfl, rfl, h0, h1⟩ := trodAll_two hA
  obtain ⟨l, hl, hb⟩ := open_digs Try.underlying32 (by kernel_rfl) Try.underlying24 (by kernel_rfl) Try.underlying5 (hval 0 _ v0 rfl rfl) h0
  obtain ⟨k, rfl, -, -⟩ := open_int (k := .i64) Try.underlying3 (hval 1 _ v1 rfl rfl)
  exact end_calls (vs := [_, _]) (one_law l hl _ k) hb Try.laidOut (by rw [Try.params10]; decide +kernel) rfl hW' (by kernel_rfl) Try.underlying4 rfl

theorem treeOne_holds : Rows.TreeOneSaid :=
  OpenClaim.holds_of_wide 10 Try.f10 rfl rfl rfl rfl rfl rfl rfl ⟨rfl, rfl, rfl, rfl, rfl⟩ rfl rfl rfl rfl rfl (by kernel_rfl) Try.func10 (by kernel_rfl)
    (of_decide_eq_true (by kernel_rfl)) (by unfold Func.isWrapper; rw [if_neg (by decide +kernel)]; exact ⟨rfl, rfl⟩)
    (fun os started H enc _ => treeOne_lifted os started H enc)
end Go.Proofs.Ytieamijnajbcnaa
