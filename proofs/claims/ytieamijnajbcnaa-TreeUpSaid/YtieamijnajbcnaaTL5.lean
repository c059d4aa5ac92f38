/- The root that a leaf and a path lead to is as the chapter says, or there is none: the statement 'garderobelaw12.TreeUp', of every input. -/
import Derived.Test.YtieamijnajbcnaaRows
import Derived.Test.YtieamijnajbcnaaOpd
import Derived.Test.YtieamijnajbcnaaE6
set_option linter.unusedVariables false
namespace Go.Proofs.Ytieamijnajbcnaa
open Go.ChangeShapes Go.WideShapes Go.ChangeAt Go.RowKit

theorem Try.own : ownKnob Try.prog.godebug = none := by kernel_rfl
theorem Try.laidOut : laidOutB Try.prog = true := by kernel_rfl

set_option maxRecDepth 100000 in
theorem treeUp_lifted (os : Os) (started : os.Started) (H : Type) (enc : TypeId × Value → H) :
    ReturnsInHanded {} Try.checked os 7 .any (Rows.treeUpSpec.pre6 enc Try.prog Try.f7 Rows.treeUpRow.domain false) (Rows.treeUpSpec.post enc Try.prog Try.f7 false true false false) := by
  refine returnsInHanded_of_change (C := Try.checked) Try.own started (by kernel_rfl) Try.func7
    (ChangeSpec.witness6 (enc := enc) (C := Try.checked) false ⟨#[], #[.int .i64 0, .int .i64 0, .agg (cbs z32).toArray, .slice none 0 0], []⟩ 8 (by kernel_rfl) (by kernel_rfl) (by kernel_rfl) (by kernel_rfl)) ?_
  intro W base args ds gs before hval0 hW hcnd _
  have hval : ∀ (j : Nat) t v, Try.f7.params[j]? = some t → args[j]? = some v → Value.okWide Try.prog W .any base t v := hval0
  have hW' := hW
  obtain ⟨p, q, hA0, hV, rfl, hfz, hnd⟩ := hW
  have hA : DataW.TrodAll enc Try.prog W 0 (fun _ => true) true Try.f7.params.toList args.toList ds p := hA0
  rw [Try.params7] at hA hval
  obtain ⟨v0, v1, v2, v3, d0, d1, d2, d3, p0, p1, p2, p3, rfl, rfl, rfl, h0, h1, h2, h3⟩ := trodAll_four hA
  obtain ⟨n, rfl, -, -⟩ := open_int (k := .i64) Try.underlying3 (hval 0 _ v0 rfl rfl)
  obtain ⟨k, rfl, -, -⟩ := open_int (k := .i64) Try.underlying3 (hval 1 _ v1 rfl rfl)
  obtain ⟨x, hx, rfl⟩ := open_dig Try.underlying24 (by kernel_rfl) (by kernel_rfl) Try.underlying5 (hval 2 _ v2 rfl rfl) h2
  obtain ⟨l, hl, hb⟩ := open_digs Try.underlying32 (by kernel_rfl) Try.underlying24 (by kernel_rfl) Try.underlying5 (hval 3 _ v3 rfl rfl) h3
  exact end_calls (vs := [_, _, _, _]) (up_law n k x hx l hl _) hb Try.laidOut (by rw [Try.params7]; decide +kernel) rfl hW' (by kernel_rfl) Try.underlying4 rfl

theorem treeUp_holds : Rows.TreeUpSaid :=
  OpenClaim.holds_of_wide 7 Try.f7 rfl rfl rfl rfl rfl rfl rfl ⟨rfl, rfl, rfl, rfl, rfl⟩ rfl rfl rfl rfl rfl (by kernel_rfl) Try.func7 (by kernel_rfl)
    (of_decide_eq_true (by kernel_rfl)) (by unfold Func.isWrapper; rw [if_neg (by decide +kernel)]; exact ⟨rfl, rfl⟩)
    (fun os started H enc _ => treeUp_lifted os started H enc)
end Go.Proofs.Ytieamijnajbcnaa
