/- In which leaves two trees are unlike, and how many pairs of sums tell that, is as the chapter says; or two unlike texts that were summed have one sum, and are shown: the statement 'garderobelaw34.DifferTrees', of every input. -/
import Derived.Test.YtieamijnajbcnaaRows
import Derived.Test.YtieamijnajbcnaaOpd
import Derived.Test.YtieamijnajbcnaaOpi
import Derived.Test.YtieamijnajbcnaaX5
set_option linter.unusedVariables false
namespace Go.Proofs.Ytieamijnajbcnaa
open Go.ChangeShapes Go.WideShapes Go.ChangeAt Go.RowKit

theorem Try.own : ownKnob Try.prog.godebug = none := by kernel_rfl
theorem Try.laidOut : laidOutB Try.prog = true := by kernel_rfl

set_option maxRecDepth 100000 in
theorem differTrees_lifted (os : Os) (started : os.Started) (H : Type) (enc : TypeId × Value → H) :
    ReturnsInHanded {} Try.checked os 9 .any (Rows.differTreesSpec.pre6 enc Try.prog Try.f9 Rows.differTreesRow.domain false) (Rows.differTreesSpec.post enc Try.prog Try.f9 false true false false) := by
  refine returnsInHanded_of_change (C := Try.checked) Try.own started (by kernel_rfl) Try.func9
    (ChangeSpec.witness6 (enc := enc) (C := Try.checked) false ⟨#[], #[.slice none 0 0, .slice none 0 0, .slice none 0 0], []⟩ 8 (by kernel_rfl) (by kernel_rfl) (by kernel_rfl) (by kernel_rfl)) ?_
  intro W base args ds gs before hval0 hW hcnd _
  have hval : ∀ (j : Nat) t v, Try.f9.params[j]? = some t → args[j]? = some v → Value.okWide Try.prog W .any base t v := hval0
  have hW' := hW
  obtain ⟨p, q, hA0, hV, rfl, hfz, hnd⟩ := hW
  have hA : DataW.TrodAll enc Try.prog W 0 (fun _ => true) true Try.f9.params.toList args.toList ds p := hA0
  rw [Try.params9] at hA hval
  obtain ⟨v0, v1, v2, d0, d1, d2, p0, p1, p2, rfl, rfl, rfl, h0, h1, h2⟩ := trodAll_three hA
  obtain ⟨l, hl, hb⟩ := open_digs Try.underlying32 (by kernel_rfl) Try.underlying24 (by kernel_rfl) Try.underlying5 (hval 0 _ v0 rfl rfl) h0
  obtain ⟨ks, hkn, hk⟩ := open_intsL Try.underlying60 (by kernel_rfl) Try.underlying3 (hval 1 _ v1 rfl rfl) h1
  obtain ⟨bs, hc⟩ := open_bytes Try.underlying23 (by kernel_rfl) Try.underlying5 (hval 2 _ v2 rfl rfl) h2
  exact end_calls (vs := [_, _, _]) (differ_law l hl ks hkn bs _ _ _) ⟨hb, hk, hc⟩ Try.laidOut (by rw [Try.params9]; decide +kernel) rfl hW' (by kernel_rfl) Try.underlying4 rfl

theorem differTrees_holds : Rows.DifferTreesSaid :=
  OpenClaim.holds_of_wide 9 Try.f9 rfl rfl rfl rfl rfl rfl rfl ⟨rfl, rfl, rfl, rfl, rfl⟩ rfl rfl rfl rfl rfl (by kernel_rfl) Try.func9 (by kernel_rfl)
    (of_decide_eq_true (by kernel_rfl)) (by unfold Func.isWrapper; rw [if_neg (by decide +kernel)]; exact ⟨rfl, rfl⟩)
    (fun os started H enc _ => differTrees_lifted os started H enc)
end Go.Proofs.Ytieamijnajbcnaa
