/- A tree that is not there has nothing: the statement 'garderobelaw12.TreeNil', of every input. -/
import Derived.Test.YtieamijnajbcnaaRows
import Derived.Test.YtieamijnajbcnaaE8
import Derived.Test.YtieamijnajbcnaaAC
set_option linter.unusedVariables false
namespace Go.Proofs.Ytieamijnajbcnaa
open Go.ChangeShapes Go.WideShapes Go.ChangeAt Go.RowKit

theorem Try.own : ownKnob Try.prog.godebug = none := by kernel_rfl
theorem Try.laidOut : laidOutB Try.prog = true := by kernel_rfl

set_option maxRecDepth 100000 in
theorem treeNil_lifted (os : Os) (started : os.Started) (H : Type) (enc : TypeId × Value → H) :
    ReturnsInHanded {} Try.checked os 12 .any (Rows.treeNilSpec.pre6 enc Try.prog Try.f12 Rows.treeNilRow.domain false) (Rows.treeNilSpec.post enc Try.prog Try.f12 false true false false) := by
  refine returnsInHanded_of_change (C := Try.checked) Try.own started (by kernel_rfl) Try.func12
    (ChangeSpec.witness6 (enc := enc) (C := Try.checked) false ⟨#[], #[.int .i64 0], []⟩ 8 (by kernel_rfl) (by kernel_rfl) (by kernel_rfl) (by kernel_rfl)) ?_
  intro W base args ds gs before hval0 hW hcnd _
  have hval : ∀ (j : Nat) t v, Try.f12.params[j]? = some t → args[j]? = some v → Value.okWide Try.prog W .any base t v := hval0
  have hW' := hW
  obtain ⟨p, q, hA0, hV, rfl, hfz, hnd⟩ := hW
  have hA : DataW.TrodAll enc Try.prog W 0 (fun _ => true) true Try.f12.params.toList args.toList ds p := hA0
  rw [Try.params12] at hA hval
  obtain ⟨v0, d0, rfl, rfl, h0⟩ := trodAll_one hA
  obtain ⟨k, rfl, -, -⟩ := open_int (k := .i64) Try.underlying3 (hval 0 _ v0 rfl rfl)
  exact end_calls (vs := [_]) (nil_law k) trivial Try.laidOut (by rw [Try.params12]; decide +kernel) rfl hW' (by kernel_rfl) Try.underlying4 rfl

theorem treeNil_holds : Rows.TreeNilSaid :=
  OpenClaim.holds_of_wide 12 Try.f12 rfl rfl rfl rfl rfl rfl rfl ⟨rfl, rfl, rfl, rfl, rfl⟩ rfl rfl rfl rfl rfl (by kernel_rfl) Try.func12 (by kernel_rfl)
    (of_decide_eq_true (by kernel_rfl)) (by unfold Func.isWrapper; rw [if_neg (by decide +kernel)]; exact ⟨rfl, rfl⟩)
    (fun os started H enc _ => treeNil_lifted os started H enc)
end Go.Proofs.Ytieamijnajbcnaa
