/- Each sum is that of the kind's byte and all parts, whatever was summed ahead: the statement 'garderobelaw04.BookSums', of every input. -/
import Derived.Test.YtpdokachnmlhlaaRows
import Derived.Test.YtpdokachnmlhlaaOpn
import Derived.Test.YtpdokachnmlhlaaOpt
import Derived.Test.YtpdokachnmlhlaaC3
set_option linter.unusedVariables false
namespace Go.Proofs.Ytpdokachnmlhlaa
open Go.ChangeShapes Go.WideShapes Go.ChangeAt Go.RowKit

theorem Try.own : ownKnob Try.prog.godebug = none := by kernel_rfl
theorem Try.laidOut : laidOutB Try.prog = true := by kernel_rfl

set_option maxRecDepth 100000 in
theorem bookSums_lifted (os : Os) (started : os.Started) (H : Type) (enc : TypeId × Value → H) :
    ReturnsInHanded {} Try.checked os 10 .any (Rows.bookSumsSpec.pre6 enc Try.prog Try.f10 Rows.bookSumsRow.domain false) (Rows.bookSumsSpec.post enc Try.prog Try.f10 false true false false) := by
  refine returnsInHanded_of_change (C := Try.checked) Try.own started (by kernel_rfl) Try.func10
    (ChangeSpec.witness6 (enc := enc) (C := Try.checked) false ⟨#[], #[.slice none 0 0], []⟩ 8 (by kernel_rfl) (by kernel_rfl) (by kernel_rfl) (by kernel_rfl)) ?_
  intro W base args ds gs before hval0 hW hcnd _
  have hval : ∀ (j : Nat) t v, Try.f10.params[j]? = some t → args[j]? = some v → Value.okWide Try.prog W .any base t v := hval0
  have hW' := hW
  obtain ⟨p, q, hA0, hV, rfl, hfz, hnd⟩ := hW
  have hA : DataW.TrodAll enc Try.prog W 0 (fun _ => true) true Try.f10.params.toList args.toList ds p := hA0
  rw [Try.params10] at hA hval
  obtain ⟨v0, d0, rfl, rfl, h0⟩ := trodAll_one hA
  obtain ⟨a, len, cap, ys, rfl, hm, hrd, hyl, hat⟩ := open_txs (hval 0 _ v0 rfl rfl) h0
  exact end_calls (vs := [_]) (sums_law a len cap ys) ⟨hrd, hm, hat⟩ Try.laidOut (by rw [Try.params10]; decide +kernel) rfl hW' (by kernel_rfl) Try.underlying4 rfl

theorem bookSums_holds : Rows.BookSumsSaid :=
  OpenClaim.holds_of_wide 10 Try.f10 rfl rfl rfl rfl rfl rfl rfl ⟨rfl, rfl, rfl, rfl, rfl⟩ rfl rfl rfl rfl rfl (by kernel_rfl) Try.func10 (by kernel_rfl)
    (of_decide_eq_true (by kernel_rfl)) (by unfold Func.isWrapper; rw [if_neg (by decide +kernel)]; exact ⟨rfl, rfl⟩)
    (fun os started H enc _ => bookSums_lifted os started H enc)
end Go.Proofs.Ytpdokachnmlhlaa
