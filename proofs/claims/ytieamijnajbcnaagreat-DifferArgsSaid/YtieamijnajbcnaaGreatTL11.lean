/- Trees that are not there, or have not as many leaves, and bases that may not be, are refused: the statement 'garderobelaw34.DifferArgs', of every input. -/
import Derived.Test.YtieamijnajbcnaaGreatRows
import Derived.Test.YtieamijnajbcnaaGreatOpd
import Derived.Test.YtieamijnajbcnaaGreatKd
set_option linter.unusedVariables false
namespace Go.Proofs.YtieamijnajbcnaaGreat
open Go.ChangeShapes Go.WideShapes Go.ChangeAt Go.RowKit

theorem Tryz.own : ownKnob Tryz.prog.godebug = none := by kernel_rfl
theorem Tryz.laidOut : laidOutB Tryz.prog = true := by kernel_rfl

set_option maxRecDepth 100000 in
theorem differArgs_lifted (os : Os) (started : os.Started) (H : Type) (enc : TypeId × Value → H) :
    ReturnsInHanded {} Tryz.checked os 3 .any (Rows.differArgsSpec.pre6 enc Tryz.prog Tryz.f3 Rows.differArgsRow.domain false) (Rows.differArgsSpec.post enc Tryz.prog Tryz.f3 false true false false) := by
  refine returnsInHanded_of_change (C := Tryz.checked) Tryz.own started (by kernel_rfl) Tryz.func3
    (ChangeSpec.witness6 (enc := enc) (C := Tryz.checked) false ⟨#[], #[.slice none 0 0], []⟩ 8 (by kernel_rfl) (by kernel_rfl) (by kernel_rfl) (by kernel_rfl)) ?_
  intro W base args ds gs before hval0 hW hcnd _
  have hval : ∀ (j : Nat) t v, Tryz.f3.params[j]? = some t → args[j]? = some v → Value.okWide Tryz.prog W .any base t v := hval0
  have hW' := hW
  obtain ⟨p, q, hA0, hV, rfl, hfz, hnd⟩ := hW
  have hA : DataW.TrodAll enc Tryz.prog W 0 (fun _ => true) true Tryz.f3.params.toList args.toList ds p := hA0
  rw [Tryz.params3] at hA hval
  obtain ⟨v0, d0, rfl, rfl, h0⟩ := trodAll_one hA
  obtain ⟨l, hl, hb⟩ := open_digs Tryz.underlying22 (by kernel_rfl) Tryz.underlying32 (by kernel_rfl) Tryz.underlying5 (hval 0 _ v0 rfl rfl) h0
  exact end_calls (vs := [_]) (differArgs_law l hl _) hb Tryz.laidOut (by rw [Tryz.params3]; decide +kernel) rfl hW' (by kernel_rfl) Tryz.underlying4 rfl

theorem differArgs_holds : Rows.DifferArgsSaid :=
  OpenClaim.holds_of_wide 3 Tryz.f3 rfl rfl rfl rfl rfl rfl rfl ⟨rfl, rfl, rfl, rfl, rfl⟩ rfl rfl rfl rfl rfl (by kernel_rfl) Tryz.func3 (by kernel_rfl)
    (of_decide_eq_true (by kernel_rfl)) (by unfold Func.isWrapper; rw [if_neg (by decide +kernel)]; exact ⟨rfl, rfl⟩)
    (fun os started H enc _ => differArgs_lifted os started H enc)
end Go.Proofs.YtieamijnajbcnaaGreat
