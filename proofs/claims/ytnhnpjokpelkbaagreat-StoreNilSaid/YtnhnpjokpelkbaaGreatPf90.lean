/- A store that is not there, and one of a base that may not be, has nothing: the statement 'garderobelaw15.StoreNil', of every input. -/
import Derived.Test.YtnhnpjokpelkbaaGreatRows
import Derived.Test.YtnhnpjokpelkbaaGreatPf1
set_option linter.unusedVariables false
set_option maxHeartbeats 1000000
namespace Go.Proofs.YtnhnpjokpelkbaaGreat
open Go.ChangeShapes Go.WideShapes Go.ChangeAt Go.RowKit
theorem Tryz.ownP:ownKnob Tryz.prog.godebug=none:=by kernel_rfl
theorem Tryz.laidOutP:laidOutB Tryz.prog=true:=by kernel_rfl
set_option maxRecDepth 100000 in
theorem aBS(os:Os)(started:os.Started)(H:Type)(enc:TypeId×Value→H) :
  ReturnsInHanded {} Tryz.checked os 3 .any (Rows.storeNilSpec.pre6 enc Tryz.prog Tryz.f3 Rows.storeNilRow.domain false) (Rows.storeNilSpec.post enc Tryz.prog Tryz.f3 false true false false):=by
 refine returnsInHanded_of_change (C:=Tryz.checked) Tryz.ownP started (by kernel_rfl) Tryz.func3
  (ChangeSpec.witness6 (enc:=enc) (C:=Tryz.checked) false ⟨#[],#[.int .i64 0],[]⟩ 8 (by kernel_rfl) (by kernel_rfl) (by kernel_rfl) (by kernel_rfl)) ?_
 intro W base args ds gs before hval0 hW hcnd _
 have hval:∀ (j:Nat) t v,Tryz.f3.params[j]?=some t→args[j]?=some v→Value.okWide Tryz.prog W .any base t v:=hval0
 have hW':=hW
 obtain⟨p,q,hA0,hV,rfl,hfz,hnd⟩:=hW
 have hA:DataW.TrodAll enc Tryz.prog W 0 (fun _=>true) true Tryz.f3.params.toList args.toList ds p:=hA0
 rw [Tryz.params3] at hA hval
 obtain⟨v0,d0,rfl,rfl,h0⟩:=trodAll_one hA
 obtain⟨k,rfl,-,-⟩:=aAy (k:=.i64) Tryz.underlying3 (hval 0 _ v0 rfl rfl)
 exact xP (vs:=[_]) (aEz k) trivial Tryz.laidOutP (by rw [Tryz.params3];decide +kernel) rfl hW' (by kernel_rfl) Tryz.underlying4 rfl
theorem Tryz.mapsRP:mapsRowed Tryz.prog=true:=by kernel_rfl
theorem Tryz.plainKP:(Rows.storeNilRow.plainKeys == Tryz.prog.plainKeys)=true:=by kernel_rfl
theorem Tryz.liftsP:(Rows.storeNilRow.lifted == Tryz.prog.liftsFinal)=true:=by kernel_rfl
theorem Tryz.madeP:(Tryz.prog.make == some Rows.storeNilRow.make)=true:=by kernel_rfl
theorem Tryz.entersP:(Rows.storeNilRow.shortTexts.isNone&&Tryz.prog.stopsHeard&&Tryz.prog.mayEnter)=true:=by kernel_rfl
theorem aFX:(Rows.storeNilRow.inPlace == Tryz.prog.inPlace 3)=true:=by kernel_rfl
theorem aFY:(Rows.storeNilRow.unfollowed == Tryz.prog.unfollowed 3)=true:=by kernel_rfl
theorem aFZ:(Rows.storeNilRow.recurses == Tryz.prog.recurses 3)=true:=by kernel_rfl
theorem aF0:(Rows.storeNilRow.named == Tryz.prog.varsNamed 3)=true:=by kernel_rfl
theorem aBR:joinedFacts Tryz.prog 3 Tryz.f3 Rows.storeNilSpec Rows.storeNilRow=true:=
 aAn (by kernel_rfl) Tryz.laidOutP Tryz.mapsRP (by kernel_rfl) aFX aFY aFZ aF0 (by kernel_rfl) Tryz.plainKP Tryz.entersP Tryz.liftsP Tryz.madeP (by kernel_rfl)
theorem storeNil_holds:Rows.StoreNilSaid:=
 OpenClaim.holds_of_wide 3 Tryz.f3 rfl rfl rfl rfl rfl rfl rfl ⟨rfl,rfl,rfl,rfl,rfl⟩ rfl rfl rfl rfl rfl (by kernel_rfl) Tryz.func3 aBR
  (of_decide_eq_true (by kernel_rfl)) (by unfold Func.isWrapper;rw [if_neg (by decide +kernel)];exact⟨rfl,rfl⟩)
  (fun os started H enc _=>aBS os started H enc)
end Go.Proofs.YtnhnpjokpelkbaaGreat
