/- Loading, and asking, changes nothing: no act, no byte, nothing pending: the statement 'garderobelaw08.NvmQuiet', of every input. -/
import Derived.Test.YtlpgegglobhclaaRows
import Derived.Test.YtlpgegglobhclaaOpn
import Derived.Test.YtlpgegglobhclaaOpo
set_option linter.unusedVariables false
namespace Go.Proofs.Ytlpgegglobhclaa
open Go.ChangeShapes Go.WideShapes Go.ChangeAt Go.RowKit

theorem Try.own : ownKnob Try.prog.godebug = none := by kernel_rfl
theorem Try.laidOut : laidOutB Try.prog = true := by kernel_rfl

set_option maxRecDepth 100000 in
theorem nvmQuiet_lifted (os : Os) (started : os.Started) (H : Type) (enc : TypeId × Value → H) :
    ReturnsInHanded {} Try.checked os 10 .any (Rows.nvmQuietSpec.pre6 enc Try.prog Try.f10 Rows.nvmQuietRow.domain false) (Rows.nvmQuietSpec.post enc Try.prog Try.f10 false true false false) := by
  refine returnsInHanded_of_change (C := Try.checked) Try.own started (by kernel_rfl) Try.func10
    (ChangeSpec.witness6 (enc := enc) (C := Try.checked) false ⟨#[], #[.slice none 0 0, .int .i64 0, .int .i64 0], []⟩ 8 (by kernel_rfl) (by kernel_rfl) (by kernel_rfl) (by kernel_rfl)) ?_
  intro W base args ds gs before hval0 hW hcnd _
  have hval : ∀ (j : Nat) t v, Try.f10.params[j]? = some t → args[j]? = some v → Value.okWide Try.prog W .any base t v := hval0
  have hW' := hW
  obtain ⟨p, q, hA0, hV, rfl, hfz, hnd⟩ := hW
  have hA : DataW.TrodAll enc Try.prog W 0 (fun _ => true) true Try.f10.params.toList args.toList ds p := hA0
  rw [Try.params10] at hA hval
  obtain ⟨v0, v1, v2, d0, d1, d2, p0, p1, p2, rfl, rfl, rfl, h0, h1, h2⟩ := trodAll_three hA
  obtain ⟨a, len, cap, ys, rfl, hlen, hrd⟩ := open_ops (hval 0 _ v0 rfl rfl) h0
  obtain ⟨n1, rfl, -, -⟩ := open_int (k := .i64) Try.underlying3 (hval 1 _ v1 rfl rfl)
  obtain ⟨n2, rfl, -, -⟩ := open_int (k := .i64) Try.underlying3 (hval 2 _ v2 rfl rfl)
  exact end_calls (vs := [_, _, _]) (quiet08_law n1 n2 a len cap ys hlen) hrd Try.laidOut (by rw [Try.params10]; decide +kernel) rfl hW' (by kernel_rfl) Try.underlying4 rfl

theorem nvmQuiet_holds : Rows.NvmQuietSaid :=
  OpenClaim.holds_of_wide 10 Try.f10 rfl rfl rfl rfl rfl rfl rfl ⟨rfl, rfl, rfl, rfl, rfl⟩ rfl rfl rfl rfl rfl (by kernel_rfl) Try.func10 (by kernel_rfl)
    (of_decide_eq_true (by kernel_rfl)) (by unfold Func.isWrapper; rw [if_neg (by decide +kernel)]; exact ⟨rfl, rfl⟩)
    (fun os started H enc _ => nvmQuiet_lifted os started H enc)
end Go.Proofs.Ytlpgegglobhclaa
