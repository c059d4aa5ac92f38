/- Leaves that are set leave the root of a tree of these leaves, and take as many sums as stand above them; a number that there is not changes nothing; a copy stays as it was: the statement 'garderobelaw12.TreeSets', of every input. -/
import Derived.Test.YtieamijnajbcnaaRows
import Derived.Test.YtieamijnajbcnaaOpd
import Derived.Test.YtieamijnajbcnaaOpi
import Derived.Test.YtieamijnajbcnaaS7
set_option linter.unusedVariables false
namespace Go.Proofs.Ytieamijnajbcnaa
open Go.ChangeShapes Go.WideShapes Go.ChangeAt Go.RowKit

theorem Try.own : ownKnob Try.prog.godebug = none := by kernel_rfl
theorem Try.laidOut : laidOutB Try.prog = true := by kernel_rfl

set_option maxRecDepth 100000 in
theorem treeSets_lifted (os : Os) (started : os.Started) (H : Type) (enc : TypeId × Value → H) :
    ReturnsInHanded {} Try.checked os 11 .any (Rows.treeSetsSpec.pre6 enc Try.prog Try.f11 Rows.treeSetsRow.domain false) (Rows.treeSetsSpec.post enc Try.prog Try.f11 false true false false) := by
  refine returnsInHanded_of_change (C := Try.checked) Try.own started (by kernel_rfl) Try.func11
    (ChangeSpec.witness6 (enc := enc) (C := Try.checked) false ⟨#[], #[.slice none 0 0, .slice none 0 0, .slice none 0 0], []⟩ 8 (by kernel_rfl) (by kernel_rfl) (by kernel_rfl) (by kernel_rfl)) ?_
  intro W base args ds gs before hval0 hW hcnd _
  have hval : ∀ (j : Nat) t v, Try.f11.params[j]? = some t → args[j]? = some v → Value.okWide Try.prog W .any base t v := hval0
  have hW' := hW
  obtain ⟨p, q, hA0, hV, rfl, hfz, hnd⟩ := hW
  have hA : DataW.TrodAll enc Try.prog W 0 (fun _ => true) true Try.f11.params.toList args.toList ds p := hA0
  rw [Try.params11] at hA hval
  obtain ⟨v0, v1, v2, d0, d1, d2, p0, p1, p2, rfl, rfl, rfl, h0, h1, h2⟩ := trodAll_three hA
  obtain ⟨l, hl, hb⟩ := open_digs Try.underlying32 (by kernel_rfl) Try.underlying24 (by kernel_rfl) Try.underlying5 (hval 0 _ v0 rfl rfl) h0
  obtain ⟨ks, hk⟩ := open_ints Try.underlying60 (by kernel_rfl) Try.underlying3 (hval 1 _ v1 rfl rfl) h1
  obtain ⟨m, hm, hc⟩ := open_digs Try.underlying32 (by kernel_rfl) Try.underlying24 (by kernel_rfl) Try.underlying5 (hval 2 _ v2 rfl rfl) h2
  exact end_calls (vs := [_, _, _]) (sets_law l hl ks m hm _ _ _) ⟨hb, hk, hc⟩ Try.laidOut (by rw [Try.params11]; decide +kernel) rfl hW' (by kernel_rfl) Try.underlying4 rfl

theorem treeSets_holds : Rows.TreeSetsSaid :=
  OpenClaim.holds_of_wide 11 Try.f11 rfl rfl rfl rfl rfl rfl rfl ⟨rfl, rfl, rfl, rfl, rfl⟩ rfl rfl rfl rfl rfl (by kernel_rfl) Try.func11 (by kernel_rfl)
    (of_decide_eq_true (by kernel_rfl)) (by unfold Func.isWrapper; rw [if_neg (by decide +kernel)]; exact ⟨rfl, rfl⟩)
    (fun os started H enc _ => treeSets_lifted os started H enc)
end Go.Proofs.Ytieamijnajbcnaa
