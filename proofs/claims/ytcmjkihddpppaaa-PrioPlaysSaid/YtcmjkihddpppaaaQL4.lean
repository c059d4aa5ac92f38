/- Whatever is pushed and popped, a queue answers and has what the chapter says: the statement 'garderobelaw11.PrioPlays', of every input. -/
import Derived.Test.YtcmjkihddpppaaaRows
import Derived.Test.YtcmjkihddpppaaaOpn
import Derived.Test.YtcmjkihddpppaaaOpr
set_option linter.unusedVariables false
namespace Go.Proofs.Ytcmjkihddpppaaa
open Go.ChangeShapes Go.WideShapes Go.ChangeAt Go.RowKit

theorem Try.own : ownKnob Try.prog.godebug = none := by kernel_rfl
theorem Try.laidOut : laidOutB Try.prog = true := by kernel_rfl

set_option maxRecDepth 100000 in
theorem prioPlays_lifted (os : Os) (started : os.Started) (H : Type) (enc : TypeId × Value → H) :
    ReturnsInHanded {} Try.checked os 3 .any (Rows.prioPlaysSpec.pre6 enc Try.prog Try.f3 Rows.prioPlaysRow.domain false) (Rows.prioPlaysSpec.post enc Try.prog Try.f3 false true false false) := by
  refine returnsInHanded_of_change (C := Try.checked) Try.own started (by kernel_rfl) Try.func3
    (ChangeSpec.witness6 (enc := enc) (C := Try.checked) false ⟨#[], #[.slice none 0 0], []⟩ 8 (by kernel_rfl) (by kernel_rfl) (by kernel_rfl) (by kernel_rfl)) ?_
  intro W base args ds gs before hval0 hW hcnd _
  have hval : ∀ (j : Nat) t v, Try.f3.params[j]? = some t → args[j]? = some v → Value.okWide Try.prog W .any base t v := hval0
  have hW' := hW
  obtain ⟨p, q, hA0, hV, rfl, hfz, hnd⟩ := hW
  have hA : DataW.TrodAll enc Try.prog W 0 (fun _ => true) true Try.f3.params.toList args.toList ds p := hA0
  rw [Try.params3] at hA hval
  obtain ⟨v0, d0, rfl, rfl, h0⟩ := trodAll_one hA
  obtain ⟨a, len, cap, ys, rfl, hq⟩ := open_qos (hval 0 _ v0 rfl rfl) h0
  exact end_calls (vs := [_]) (plays_law a len cap ys) hq Try.laidOut (by rw [Try.params3]; decide +kernel) rfl hW' (by kernel_rfl) Try.underlying4 rfl

theorem prioPlays_holds : Rows.PrioPlaysSaid :=
  OpenClaim.holds_of_wide 3 Try.f3 rfl rfl rfl rfl rfl rfl rfl ⟨rfl, rfl, rfl, rfl, rfl⟩ rfl rfl rfl rfl rfl (by kernel_rfl) Try.func3 (by kernel_rfl)
    (of_decide_eq_true (by kernel_rfl)) (by unfold Func.isWrapper; rw [if_neg (by decide +kernel)]; exact ⟨rfl, rfl⟩)
    (fun os started H enc _ => prioPlays_lifted os started H enc)
end Go.Proofs.Ytcmjkihddpppaaa
