/- Whatever is set, and befalls the power, a register answers and holds what the chapter says: the statement 'garderobelaw09.TrustPlays', of every input. -/
import Derived.Test.YtlpgegglobhclaaRows
import Derived.Test.YtlpgegglobhclaaReg2
import Derived.Test.YtlpgegglobhclaaTr6
set_option linter.unusedVariables false
namespace Go.Proofs.Ytlpgegglobhclaa
open Go.ChangeShapes Go.WideShapes Go.ChangeAt Go.RowKit

theorem Try.own : ownKnob Try.prog.godebug = none := by kernel_rfl
theorem Try.laidOut : laidOutB Try.prog = true := by kernel_rfl

set_option maxRecDepth 100000 in
theorem trustPlays_lifted (os : Os) (started : os.Started) (H : Type) (enc : TypeId × Value → H) :
    ReturnsInHanded {} Try.checked os 5 .any (Rows.trustPlaysSpec.pre6 enc Try.prog Try.f5 Rows.trustPlaysRow.domain false) (Rows.trustPlaysSpec.post enc Try.prog Try.f5 false true false false) := by
  refine returnsInHanded_of_change (C := Try.checked) Try.own started (by kernel_rfl) Try.func5
    (ChangeSpec.witness6 (enc := enc) (C := Try.checked) false ⟨#[], #[.agg (rgc Rg.zero).toArray, .slice none 0 0], []⟩ 8 (by kernel_rfl) (by kernel_rfl) (by kernel_rfl) (by kernel_rfl)) ?_
  intro W base args ds gs before hval0 hW hcnd _
  have hval : ∀ (j : Nat) t v, Try.f5.params[j]? = some t → args[j]? = some v → Value.okWide Try.prog W .any base t v := hval0
  have hW' := hW
  obtain ⟨p, q, hA0, hV, rfl, hfz, hnd⟩ := hW
  have hA : DataW.TrodAll enc Try.prog W 0 (fun _ => true) true Try.f5.params.toList args.toList ds p := hA0
  rw [Try.params5] at hA hval
  obtain ⟨v0, v1, d0, d1, p0, p1, rfl, rfl, rfl, h0, h1⟩ := trodAll_two hA
  obtain ⟨r, hr, rfl⟩ := open_reg (hval 0 _ v0 rfl rfl)
  obtain ⟨a, len, cap, ys, rfl, hlc, hcm, hrd, hyl, hops⟩ := open_sl (n := 36) Try.underlying35 (by kernel_rfl) (by decide) (hval 1 _ v1 rfl rfl) h1 (fun fuel cells z h => trod_op h)
  exact end_calls (vs := [_, _]) (plays09_law r hr a len cap ys (Nat.le_trans hlc hcm) hops) hrd Try.laidOut (by rw [Try.params5]; decide +kernel) rfl hW' (by kernel_rfl) Try.underlying4 rfl

theorem trustPlays_holds : Rows.TrustPlaysSaid :=
  OpenClaim.holds_of_wide 5 Try.f5 rfl rfl rfl rfl rfl rfl rfl ⟨rfl, rfl, rfl, rfl, rfl⟩ rfl rfl rfl rfl rfl (by kernel_rfl) Try.func5 (by kernel_rfl)
    (of_decide_eq_true (by kernel_rfl)) (by unfold Func.isWrapper; rw [if_neg (by decide +kernel)]; exact ⟨rfl, rfl⟩)
    (fun os started H enc _ => trustPlays_lifted os started H enc)
end Go.Proofs.Ytlpgegglobhclaa
