/- Of what is not there, or may not be, and without power, nothing is looked through: the statement 'garderobelaw32.AuditNil', of every input. -/
import Derived.Test.YthnoiniadmmiiaaGreatRows
import Derived.Test.YthnoiniadmmiiaaGreatPa45
import Derived.Test.YthnoiniadmmiiaaGreatPa5
import Derived.Test.YthnoiniadmmiiaaGreatPa46
set_option linter.unusedVariables false
set_option linter.unusedSimpArgs false
set_option linter.unusedSectionVars false
namespace Go.Proofs.YthnoiniadmmiiaaGreat
open Go.ChangeShapes Go.WideShapes Go.ChangeAt Go.RowKit

theorem Tryz.own : ownKnob Tryz.prog.godebug = none := by kernel_rfl
theorem Tryz.laidOut : laidOutB Tryz.prog = true := by kernel_rfl

set_option maxRecDepth 100000 in
theorem auditNil_lifted (os : Os) (started : os.Started) (H : Type) (enc : TypeId × Value → H) :
    ReturnsInHanded {} Tryz.checked os 14 .any (Rows.auditNilSpec.pre6 enc Tryz.prog Tryz.f14 Rows.auditNilRow.domain false) (Rows.auditNilSpec.post enc Tryz.prog Tryz.f14 false true false false) := by
  refine returnsInHanded_of_change (C := Tryz.checked) Tryz.own started (by kernel_rfl) Tryz.func14
    (ChangeSpec.witness6 (enc := enc) (C := Tryz.checked) false ⟨#[], #[.int .i64 0], []⟩ 8 (by kernel_rfl) (by kernel_rfl) (by kernel_rfl) (by kernel_rfl)) ?_
  intro W base args ds gs before hval0 hW hcnd _
  have hval : ∀ (j : Nat) t v, Tryz.f14.params[j]? = some t → args[j]? = some v → Value.okWide Tryz.prog W .any base t v := hval0
  have hW' := hW
  obtain ⟨p, q, hA0, hV, rfl, hfz, hnd⟩ := hW
  have hA : DataW.TrodAll enc Tryz.prog W 0 (fun _ => true) true Tryz.f14.params.toList args.toList ds p := hA0
  rw [Tryz.params14] at hA hval
  obtain ⟨v0, d0, rfl, rfl, h0⟩ := trodAll_one hA
  obtain ⟨k, rfl, -, -⟩ := open_int (k := .i64) Tryz.underlying3 (hval 0 _ v0 rfl rfl)
  exact end_calls (vs := [_]) (auditNil_law k) trivial Tryz.laidOut (by rw [Tryz.params14]; decide +kernel) rfl hW' (by kernel_rfl) Tryz.underlying4 rfl

theorem Tryz.mapsR : mapsRowed Tryz.prog = true := by kernel_rfl
theorem Tryz.plainK : (Rows.auditNilRow.plainKeys == Tryz.prog.plainKeys) = true := by kernel_rfl
theorem Tryz.lifts : (Rows.auditNilRow.lifted == Tryz.prog.liftsFinal) = true := by kernel_rfl
theorem Tryz.made : (Tryz.prog.make == some Rows.auditNilRow.make) = true := by kernel_rfl
theorem Tryz.enters : (Rows.auditNilRow.shortTexts.isNone && Tryz.prog.stopsHeard && Tryz.prog.mayEnter) = true := by kernel_rfl
theorem auditNil_k4 : (Rows.auditNilRow.inPlace == Tryz.prog.inPlace 14) = true := by kernel_rfl
theorem auditNil_k5 : (Rows.auditNilRow.unfollowed == Tryz.prog.unfollowed 14) = true := by kernel_rfl
theorem auditNil_k6 : (Rows.auditNilRow.recurses == Tryz.prog.recurses 14) = true := by kernel_rfl
theorem auditNil_k7 : (Rows.auditNilRow.named == Tryz.prog.varsNamed 14) = true := by kernel_rfl
theorem auditNil_closed : joinedFacts Tryz.prog 14 Tryz.f14 Rows.auditNilSpec Rows.auditNilRow = true :=
  facts_of (by kernel_rfl) Tryz.laidOut Tryz.mapsR (by kernel_rfl) auditNil_k4 auditNil_k5 auditNil_k6 auditNil_k7 (by kernel_rfl) Tryz.plainK Tryz.enters Tryz.lifts Tryz.made (by kernel_rfl)

theorem auditNil_holds : Rows.AuditNilSaid :=
  OpenClaim.holds_of_wide 14 Tryz.f14 rfl rfl rfl rfl rfl rfl rfl ⟨rfl, rfl, rfl, rfl, rfl⟩ rfl rfl rfl rfl rfl (by kernel_rfl) Tryz.func14 auditNil_closed
    (of_decide_eq_true (by kernel_rfl)) (by unfold Func.isWrapper; rw [if_neg (by decide +kernel)]; exact ⟨rfl, rfl⟩)
    (fun os started H enc _ => auditNil_lifted os started H enc)
end Go.Proofs.YthnoiniadmmiiaaGreat
