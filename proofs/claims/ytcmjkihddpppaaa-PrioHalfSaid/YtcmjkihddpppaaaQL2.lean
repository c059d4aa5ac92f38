/- When some are popped, what is left are the greatest ones, and none of those that were popped is greater: the statement 'garderobelaw11.PrioHalf', of every input. -/
import Derived.Test.YtcmjkihddpppaaaRows
import Derived.Test.YtcmjkihddpppaaaOpn
import Derived.Test.YtcmjkihddpppaaaOpq
import Derived.Test.YtcmjkihddpppaaaQ8
set_option linter.unusedVariables false
namespace Go.Proofs.Ytcmjkihddpppaaa
open Go.ChangeShapes Go.WideShapes Go.ChangeAt Go.RowKit

theorem Try.own : ownKnob Try.prog.godebug = none := by kernel_rfl
theorem Try.laidOut : laidOutB Try.prog = true := by kernel_rfl

set_option maxRecDepth 100000 in
theorem prioHalf_lifted (os : Os) (started : os.Started) (H : Type) (enc : TypeId × Value → H) :
    ReturnsInHanded {} Try.checked os 6 .any (Rows.prioHalfSpec.pre6 enc Try.prog Try.f6 Rows.prioHalfRow.domain false) (Rows.prioHalfSpec.post enc Try.prog Try.f6 false true false false) := by
  refine returnsInHanded_of_change (C := Try.checked) Try.own started (by kernel_rfl) Try.func6
    (ChangeSpec.witness6 (enc := enc) (C := Try.checked) false ⟨#[], #[.slice none 0 0, .int .i64 0], []⟩ 8 (by kernel_rfl) (by kernel_rfl) (by kernel_rfl) (by kernel_rfl)) ?_
  intro W base args ds gs before hval0 hW hcnd _
  have hval : ∀ (j : Nat) t v, Try.f6.params[j]? = some t → args[j]? = some v → Value.okWide Try.prog W .any base t v := hval0
  have hW' := hW
  obtain ⟨p, q, hA0, hV, rfl, hfz, hnd⟩ := hW
  have hA : DataW.TrodAll enc Try.prog W 0 (fun _ => true) true Try.f6.params.toList args.toList ds p := hA0
  rw [Try.params6] at hA hval
  obtain ⟨v0, v1, d0, d1, p0, p1, rfl, rfl, rfl, h0, h1⟩ := trodAll_two hA
  obtain ⟨a, len, cap, xs, rfl, hm, hrd⟩ := open_ths (hval 0 _ v0 rfl rfl) h0
  obtain ⟨n, rfl, -, -⟩ := open_int (k := .i64) Try.underlying3 (hval 1 _ v1 rfl rfl)
  exact end_calls (vs := [_, _]) (half_law a len cap xs n) hrd Try.laidOut (by rw [Try.params6]; decide +kernel) rfl hW' (by kernel_rfl) Try.underlying4 rfl

theorem prioHalf_holds : Rows.PrioHalfSaid :=
  OpenClaim.holds_of_wide 6 Try.f6 rfl rfl rfl rfl rfl rfl rfl ⟨rfl, rfl, rfl, rfl, rfl⟩ rfl rfl rfl rfl rfl (by kernel_rfl) Try.func6 (by kernel_rfl)
    (of_decide_eq_true (by kernel_rfl)) (by unfold Func.isWrapper; rw [if_neg (by decide +kernel)]; exact ⟨rfl, rfl⟩)
    (fun os started H enc _ => prioHalf_lifted os started H enc)
end Go.Proofs.Ytcmjkihddpppaaa
