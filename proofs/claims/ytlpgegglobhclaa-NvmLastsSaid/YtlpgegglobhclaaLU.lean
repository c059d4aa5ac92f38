/- What was stored, flushed and fenced lasts, whatever befalls, but for words that are stored into again: the statement 'garderobelaw08.NvmLasts', of every input. -/
import Derived.Test.YtlpgegglobhclaaRows
import Derived.Test.YtlpgegglobhclaaOpn
import Derived.Carry
import Derived.Test.YtlpgegglobhclaaOpo
import Derived.Test.YtlpgegglobhclaaOpb
import Derived.Test.YtlpgegglobhclaaLu
set_option linter.unusedVariables false
namespace Go.Proofs.Ytlpgegglobhclaa
open Go.ChangeShapes Go.WideShapes Go.ChangeAt Go.RowKit

theorem Try.own : ownKnob Try.prog.godebug = none := by kernel_rfl
theorem Try.laidOut : laidOutB Try.prog = true := by kernel_rfl

set_option maxRecDepth 100000 in
theorem nvmLasts_lifted (os : Os) (started : os.Started) (H : Type) (enc : TypeId × Value → H) :
    ReturnsInHanded {} Try.checked os 7 .any (Rows.nvmLastsSpec.pre6 enc Try.prog Try.f7 Rows.nvmLastsRow.domain false) (Rows.nvmLastsSpec.post enc Try.prog Try.f7 false true false false) := by
  refine returnsInHanded_of_change (C := Try.checked) Try.own started (by kernel_rfl) Try.func7
    (ChangeSpec.witness6 (enc := enc) (C := Try.checked) false ⟨#[], #[.slice none 0 0, .int .i64 0, .slice none 0 0, .slice none 0 0], []⟩ 8 (by kernel_rfl) (by kernel_rfl) (by kernel_rfl) (by kernel_rfl)) ?_
  intro W base args ds gs before hval0 hW hcnd _
  have hval : ∀ (j : Nat) t v, Try.f7.params[j]? = some t → args[j]? = some v → Value.okWide Try.prog W .any base t v := hval0
  have hW' := hW
  obtain ⟨p, q, hA0, hV, rfl, hfz, hnd⟩ := hW
  have hA : DataW.TrodAll enc Try.prog W 0 (fun _ => true) true Try.f7.params.toList args.toList ds p := hA0
  rw [Try.params7] at hA hval
  obtain ⟨v0, v1, v2, v3, d0, d1, d2, d3, p0, p1, p2, p3, rfl, rfl, rfl, h0, h1, h2, h3⟩ := trodAll_four hA
  obtain ⟨a, len, cap, ys, rfl, hlen, hrd⟩ := open_ops (hval 0 _ v0 rfl rfl) h0
  obtain ⟨n, rfl, -, -⟩ := open_int (k := .i64) Try.underlying3 (hval 1 _ v1 rfl rfl)
  obtain ⟨bs, hb⟩ := open_bytes Try.underlying50 (by kernel_rfl) Try.underlying5 (hval 2 _ v2 rfl rfl) h2
  obtain ⟨a3, len3, cap3, ys3, rfl, hlen3, hrd3⟩ := open_ops (hval 3 _ v3 rfl rfl) h3
  exact end_calls (vs := [_, _, _, _]) (lasts08_law _ bs n a a3 len cap len3 cap3 ys ys3 hlen hlen3) ⟨hrd, hb, hrd3⟩ Try.laidOut (by rw [Try.params7]; decide +kernel) rfl hW' (by kernel_rfl) Try.underlying4 rfl

theorem nvmLasts_holds : Rows.NvmLastsSaid :=
  OpenClaim.holds_of_wide 7 Try.f7 rfl rfl rfl rfl rfl rfl rfl ⟨rfl, rfl, rfl, rfl, rfl⟩ rfl rfl rfl rfl rfl (by kernel_rfl) Try.func7 (by kernel_rfl)
    (of_decide_eq_true (by kernel_rfl)) (by unfold Func.isWrapper; rw [if_neg (by decide +kernel)]; exact ⟨rfl, rfl⟩)
    (fun os started H enc _ => nvmLasts_lifted os started H enc)
end Go.Proofs.Ytlpgegglobhclaa
