/- A queue that is not there has nothing: the statement 'garderobelaw11.PrioNil', of every input. -/
import Derived.Test.YtcmjkihddpppaaaRows
import Derived.Test.YtcmjkihddpppaaaOpn
import Derived.Test.YtcmjkihddpppaaaOpq
import Derived.Test.YtcmjkihddpppaaaQ7
set_option linter.unusedVariables false
namespace Go.Proofs.Ytcmjkihddpppaaa
open Go.ChangeShapes Go.WideShapes Go.ChangeAt Go.RowKit

theorem Try.own : ownKnob Try.prog.godebug = none := by kernel_rfl
theorem Try.laidOut : laidOutB Try.prog = true := by kernel_rfl

set_option maxRecDepth 100000 in
theorem prioNil_lifted (os : Os) (started : os.Started) (H : Type) (enc : TypeId × Value → H) :
    ReturnsInHanded {} Try.checked os 5 .any (Rows.prioNilSpec.pre6 enc Try.prog Try.f5 Rows.prioNilRow.domain false) (Rows.prioNilSpec.post enc Try.prog Try.f5 false true false false) := by
  refine returnsInHanded_of_change (C := Try.checked) Try.own started (by kernel_rfl) Try.func5
    (ChangeSpec.witness6 (enc := enc) (C := Try.checked) false ⟨#[], #[.slice none 0 0], []⟩ 8 (by kernel_rfl) (by kernel_rfl) (by kernel_rfl) (by kernel_rfl)) ?_
  intro W base args ds gs before hval0 hW hcnd _
  have hval : ∀ (j : Nat) t v, Try.f5.params[j]? = some t → args[j]? = some v → Value.okWide Try.prog W .any base t v := hval0
  have hW' := hW
  obtain ⟨p, q, hA0, hV, rfl, hfz, hnd⟩ := hW
  have hA : DataW.TrodAll enc Try.prog W 0 (fun _ => true) true Try.f5.params.toList args.toList ds p := hA0
  rw [Try.params5] at hA hval
  obtain ⟨v0, d0, rfl, rfl, h0⟩ := trodAll_one hA
  obtain ⟨a, len, cap, xs, rfl, hm, hrd⟩ := open_ths (hval 0 _ v0 rfl rfl) h0
  exact end_calls (vs := [_]) (pnil_law _ _) hrd Try.laidOut (by rw [Try.params5]; decide +kernel) rfl hW' (by kernel_rfl) Try.underlying4 rfl

theorem prioNil_holds : Rows.PrioNilSaid :=
  OpenClaim.holds_of_wide 5 Try.f5 rfl rfl rfl rfl rfl rfl rfl ⟨rfl, rfl, rfl, rfl, rfl⟩ rfl rfl rfl rfl rfl (by kernel_rfl) Try.func5 (by kernel_rfl)
    (of_decide_eq_true (by kernel_rfl)) (by unfold Func.isWrapper; rw [if_neg (by decide +kernel)]; exact ⟨rfl, rfl⟩)
    (fun os started H enc _ => prioNil_lifted os started H enc)
end Go.Proofs.Ytcmjkihddpppaaa
