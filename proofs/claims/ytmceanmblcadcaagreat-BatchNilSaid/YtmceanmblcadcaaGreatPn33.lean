/- A batch that is not there has nothing: the statement 'garderobelaw21.BatchNil', of every input. -/
import Derived.Test.YtmceanmblcadcaaGreatRows
import Derived.Test.YtmceanmblcadcaaGreatPn32
import Derived.Test.YtmceanmblcadcaaGreatPn0
set_option linter.unusedVariables false
set_option linter.unusedSimpArgs false
set_option linter.unusedSectionVars false
set_option maxHeartbeats 1000000
namespace Go.Proofs.YtmceanmblcadcaaGreat
open Go Go.Proofs.Tryz
section
open Go.ChangeShapes Go.WideShapes Go.ChangeAt Go.RowKit
theorem Tryz.ownN:ownKnob prog.godebug=none:=by kernel_rfl
theorem Tryz.laidOutN:laidOutB prog=true:=by kernel_rfl
set_option maxRecDepth 100000 in
theorem yK(os:Os)(started:os.Started)(H:Type)(enc:TypeId×Value→H) :
  ReturnsInHanded {} Tryz.checked os 7 .any (Rows.batchNilSpec.pre6 enc prog Tryz.f7 Rows.batchNilRow.domain false) (Rows.batchNilSpec.post enc prog Tryz.f7 false true false false):=by
 refine returnsInHanded_of_change (C:=Tryz.checked) Tryz.ownN started kQ func7
  (ChangeSpec.witness6 (enc:=enc) (C:=Tryz.checked) false ⟨#[],#[.int .i64 0],[]⟩ 8 kQ kQ kQ kQ) ?_
 intro W base args ds gs before hval0 hW hcnd _
 have hval:∀ (j:Nat) t v,Tryz.f7.params[j]?=some t→args[j]?=some v→Value.okWide prog W .any base t v:=hval0
 have hW':=hW
 obtain⟨p,q,hA0,hV,rfl,hfz,hnd⟩:=hW
 have hA:DataW.TrodAll enc prog W 0 (fun _=>true) true Tryz.f7.params.toList args.toList ds p:=hA0
 rw [Tryz.params7] at hA hval
 obtain⟨v0,d0,rfl,rfl,h0⟩:=trodAll_one hA
 obtain⟨k,rfl,-,-⟩:=aGp (k:=.i64) underlying3 (hval 0 _ v0 rfl rfl)
 exact aEH (vs:=[_]) (aFO k) trivial Tryz.laidOutN (by rw [Tryz.params7];decide +kernel) rfl hW' kQ underlying4 rfl
theorem Tryz.mapsRN:mapsRowed prog=true:=by kernel_rfl
theorem Tryz.plainKN:(Rows.batchNilRow.plainKeys == prog.plainKeys)=true:=by kernel_rfl
theorem Tryz.liftsN:(Rows.batchNilRow.lifted == prog.liftsFinal)=true:=by kernel_rfl
theorem Tryz.madeN:(prog.make == some Rows.batchNilRow.make)=true:=by kernel_rfl
theorem Tryz.entersN:(Rows.batchNilRow.shortTexts.isNone&&prog.stopsHeard&&prog.mayEnter)=true:=by kernel_rfl
theorem aCg:(Rows.batchNilRow.inPlace == prog.inPlace 7)=true:=by kernel_rfl
theorem aCh:(Rows.batchNilRow.unfollowed == prog.unfollowed 7)=true:=by kernel_rfl
theorem aCi:(Rows.batchNilRow.recurses == prog.recurses 7)=true:=by kernel_rfl
theorem aCj:(Rows.batchNilRow.named == prog.varsNamed 7)=true:=by kernel_rfl
theorem yJ:joinedFacts prog 7 Tryz.f7 Rows.batchNilSpec Rows.batchNilRow=true:=
 aF2 kQ Tryz.laidOutN Tryz.mapsRN kQ aCg aCh aCi aCj kQ Tryz.plainKN Tryz.entersN Tryz.liftsN Tryz.madeN kQ
theorem batchNil_holds:Rows.BatchNilSaid:=
 OpenClaim.holds_of_wide 7 Tryz.f7 rfl rfl rfl rfl rfl rfl rfl ⟨rfl,rfl,rfl,rfl,rfl⟩ rfl rfl rfl rfl rfl kQ func7 yJ
  (of_decide_eq_true kQ) (by unfold Func.isWrapper;rw [if_neg (by decide +kernel)];exact⟨rfl,rfl⟩)
  (fun os started H enc _=>yK os started H enc)
end
end Go.Proofs.YtmceanmblcadcaaGreat
