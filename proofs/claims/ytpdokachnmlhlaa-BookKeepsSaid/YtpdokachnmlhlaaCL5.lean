/- As many texts are kept as there were unlike ones, and there is no clash; or two unlike ones of these have one sum, and then that is told: the statement 'garderobelaw04.BookKeeps', of every input. -/
import Derived.Test.YtpdokachnmlhlaaRows
import Derived.Test.YtpdokachnmlhlaaOpn
import Derived.Test.YtpdokachnmlhlaaOpt
import Derived.Test.YtpdokachnmlhlaaC5
set_option linter.unusedVariables false
namespace Go.Proofs.Ytpdokachnmlhlaa
open Go.ChangeShapes Go.WideShapes Go.ChangeAt Go.RowKit

theorem Try.own : ownKnob Try.prog.godebug = none := by kernel_rfl
theorem Try.laidOut : laidOutB Try.prog = true := by kernel_rfl

set_option maxRecDepth 100000 in
theorem bookKeeps_lifted (os : Os) (started : os.Started) (H : Type) (enc : TypeId × Value → H) :
    ReturnsInHanded {} Try.checked os 11 .any (Rows.bookKeepsSpec.pre6 enc Try.prog Try.f11 Rows.bookKeepsRow.domain false) (Rows.bookKeepsSpec.post enc Try.prog Try.f11 false true false false) := by
  refine returnsInHanded_of_change (C := Try.checked) Try.own started (by kernel_rfl) Try.func11
    (ChangeSpec.witness6 (enc := enc) (C := Try.checked) false ⟨#[], #[.slice none 0 0], []⟩ 8 (by kernel_rfl) (by kernel_rfl) (by kernel_rfl) (by kernel_rfl)) ?_
  intro W base args ds gs before hval0 hW hcnd _
  have hval : ∀ (j : Nat) t v, Try.f11.params[j]? = some t → args[j]? = some v → Value.okWide Try.prog W .any base t v := hval0
  have hW' := hW
  obtain ⟨p, q, hA0, hV, rfl, hfz, hnd⟩ := hW
  have hA : DataW.TrodAll enc Try.prog W 0 (fun _ => true) true Try.f11.params.toList args.toList ds p := hA0
  rw [Try.params11] at hA hval
  obtain ⟨v0, d0, rfl, rfl, h0⟩ := trodAll_one hA
  obtain ⟨a, len, cap, ys, rfl, hm, hrd, hyl, hat⟩ := open_txs (hval 0 _ v0 rfl rfl) h0
  exact end_calls (vs := [_]) (keeps_law a len cap ys) ⟨hrd, hm, hat⟩ Try.laidOut (by rw [Try.params11]; decide +kernel) rfl hW' (by kernel_rfl) Try.underlying4 rfl

theorem bookKeeps_holds : Rows.BookKeepsSaid :=
  OpenClaim.holds_of_wide 11 Try.f11 rfl rfl rfl rfl rfl rfl rfl ⟨rfl, rfl, rfl, rfl, rfl⟩ rfl rfl rfl rfl rfl (by kernel_rfl) Try.func11 (by kernel_rfl)
    (of_decide_eq_true (by kernel_rfl)) (by unfold Func.isWrapper; rw [if_neg (by decide +kernel)]; exact ⟨rfl, rfl⟩)
    (fun os started H enc _ => bookKeeps_lifted os started H enc)
end Go.Proofs.Ytpdokachnmlhlaa
