/- Behind a loss of power each word is what it was, or what was stored into it last: the statement 'garderobelaw08.NvmTorn', of every input. -/
import Derived.Test.YtlpgegglobhclaaRows
import Derived.Test.YtlpgegglobhclaaOpn
import Derived.Test.YtlpgegglobhclaaOpo
import Derived.Test.YtlpgegglobhclaaOpb
import Derived.Test.YtlpgegglobhclaaLt
set_option linter.unusedVariables false
namespace Go.Proofs.Ytlpgegglobhclaa
open Go.ChangeShapes Go.WideShapes Go.ChangeAt Go.RowKit

theorem Try.own : ownKnob Try.prog.godebug = none := by kernel_rfl
theorem Try.laidOut : laidOutB Try.prog = true := by kernel_rfl

set_option maxRecDepth 100000 in
theorem nvmTorn_lifted (os : Os) (started : os.Started) (H : Type) (enc : TypeId × Value → H) :
    ReturnsInHanded {} Try.checked os 6 .any (Rows.nvmTornSpec.pre6 enc Try.prog Try.f6 Rows.nvmTornRow.domain false) (Rows.nvmTornSpec.post enc Try.prog Try.f6 false true false false) := by
  refine returnsInHanded_of_change (C := Try.checked) Try.own started (by kernel_rfl) Try.func6
    (ChangeSpec.witness6 (enc := enc) (C := Try.checked) false ⟨#[], #[.slice none 0 0, .slice none 0 0, .slice none 0 0], []⟩ 8 (by kernel_rfl) (by kernel_rfl) (by kernel_rfl) (by kernel_rfl)) ?_
  intro W base args ds gs before hval0 hW hcnd _
  have hval : ∀ (j : Nat) t v, Try.f6.params[j]? = some t → args[j]? = some v → Value.okWide Try.prog W .any base t v := hval0
  have hW' := hW
  obtain ⟨p, q, hA0, hV, rfl, hfz, hnd⟩ := hW
  have hA : DataW.TrodAll enc Try.prog W 0 (fun _ => true) true Try.f6.params.toList args.toList ds p := hA0
  rw [Try.params6] at hA hval
  obtain ⟨v0, v1, v2, d0, d1, d2, p0, p1, p2, rfl, rfl, rfl, h0, h1, h2⟩ := trodAll_three hA
  obtain ⟨fb, hf⟩ := open_bytes Try.underlying50 (by kernel_rfl) Try.underlying5 (hval 0 _ v0 rfl rfl) h0
  obtain ⟨a, len, cap, ys, rfl, hlen, hrd⟩ := open_ops (hval 1 _ v1 rfl rfl) h1
  obtain ⟨pk, hp⟩ := open_bytes Try.underlying50 (by kernel_rfl) Try.underlying5 (hval 2 _ v2 rfl rfl) h2
  exact end_calls (vs := [_, _, _]) (torn08_law _ _ fb pk a len cap ys hlen) ⟨hf, hrd, hp⟩ Try.laidOut (by rw [Try.params6]; decide +kernel) rfl hW' (by kernel_rfl) Try.underlying4 rfl

theorem nvmTorn_holds : Rows.NvmTornSaid :=
  OpenClaim.holds_of_wide 6 Try.f6 rfl rfl rfl rfl rfl rfl rfl ⟨rfl, rfl, rfl, rfl, rfl⟩ rfl rfl rfl rfl rfl (by kernel_rfl) Try.func6 (by kernel_rfl)
    (of_decide_eq_true (by kernel_rfl)) (by unfold Func.isWrapper; rw [if_neg (by decide +kernel)]; exact ⟨rfl, rfl⟩)
    (fun os started H enc _ => nvmTorn_lifted os started H enc)
end Go.Proofs.Ytlpgegglobhclaa
