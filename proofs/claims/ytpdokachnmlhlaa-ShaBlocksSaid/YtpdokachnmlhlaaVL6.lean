/- The sum of many bytes is that of their blocks, whatever they are: the statement 'garderobelaw03.ShaBlocks', of every input. -/
import Derived.Test.YtpdokachnmlhlaaRows
import Derived.Test.YtpdokachnmlhlaaOpn
import Derived.Test.YtpdokachnmlhlaaOpb
import Derived.Test.YtpdokachnmlhlaaVa
set_option linter.unusedVariables false
namespace Go.Proofs.Ytpdokachnmlhlaa
open Go.ChangeShapes Go.WideShapes Go.ChangeAt Go.RowKit

theorem Try.own : ownKnob Try.prog.godebug = none := by kernel_rfl
theorem Try.laidOut : laidOutB Try.prog = true := by kernel_rfl

set_option maxRecDepth 100000 in
theorem shaBlocks_lifted (os : Os) (started : os.Started) (H : Type) (enc : TypeId × Value → H) :
    ReturnsInHanded {} Try.checked os 9 .any (Rows.shaBlocksSpec.pre6 enc Try.prog Try.f9 Rows.shaBlocksRow.domain false) (Rows.shaBlocksSpec.post enc Try.prog Try.f9 false true false false) := by
  refine returnsInHanded_of_change (C := Try.checked) Try.own started (by kernel_rfl) Try.func9
    (ChangeSpec.witness6 (enc := enc) (C := Try.checked) false ⟨#[], #[.int .u8 0, .int .u16 0, .slice none 0 0], []⟩ 8 (by kernel_rfl) (by kernel_rfl) (by kernel_rfl) (by kernel_rfl)) ?_
  intro W base args ds gs before hval0 hW hcnd _
  have hval : ∀ (j : Nat) t v, Try.f9.params[j]? = some t → args[j]? = some v → Value.okWide Try.prog W .any base t v := hval0
  have hW' := hW
  obtain ⟨p, q, hA0, hV, rfl, hfz, hnd⟩ := hW
  have hA : DataW.TrodAll enc Try.prog W 0 (fun _ => true) true Try.f9.params.toList args.toList ds p := hA0
  rw [Try.params9] at hA hval
  obtain ⟨v0, v1, v2, d0, d1, d2, p0, p1, p2, rfl, rfl, rfl, h0, h1, h2⟩ := trodAll_three hA
  obtain ⟨c0, rfl, hc1, hc2⟩ := open_int (k := .u8) Try.underlying5 (hval 0 _ v0 rfl rfl)
  obtain ⟨c, rfl⟩ := u8_of hc1 hc2
  obtain ⟨n0, rfl, hn1, hn2⟩ := open_int (k := .u16) Try.underlying50 (hval 1 _ v1 rfl rfl)
  obtain ⟨n, rfl, hn⟩ := nat_of16 hn1 hn2
  obtain ⟨bs, hb⟩ := open_bytes Try.underlying33 (by kernel_rfl) Try.underlying5 (hval 2 _ v2 rfl rfl) h2
  exact end_calls (vs := [_, _, _]) (blocks_law c n hn _ bs) hb Try.laidOut (by rw [Try.params9]; decide +kernel) rfl hW' (by kernel_rfl) Try.underlying4 rfl

theorem shaBlocks_holds : Rows.ShaBlocksSaid :=
  OpenClaim.holds_of_wide 9 Try.f9 rfl rfl rfl rfl rfl rfl rfl ⟨rfl, rfl, rfl, rfl, rfl⟩ rfl rfl rfl rfl rfl (by kernel_rfl) Try.func9 (by kernel_rfl)
    (of_decide_eq_true (by kernel_rfl)) (by unfold Func.isWrapper; rw [if_neg (by decide +kernel)]; exact ⟨rfl, rfl⟩)
    (fun os started H enc _ => shaBlocks_lifted os started H enc)
end Go.Proofs.Ytpdokachnmlhlaa
