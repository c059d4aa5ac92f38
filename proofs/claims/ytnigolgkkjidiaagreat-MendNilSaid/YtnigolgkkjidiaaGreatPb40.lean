/- Of what is not there nothing is mended; what may be is looked at: the statement 'garderobelaw16.MendNil', of every input. -/
import Derived.Test.YtnigolgkkjidiaaGreatRows
import Derived.Test.YtnigolgkkjidiaaGreatPb39
import Derived.Test.YtnigolgkkjidiaaGreatPb5
import Derived.Test.YtnigolgkkjidiaaGreatPb0
set_option linter.unusedVariables false
set_option linter.unusedSimpArgs false
set_option linter.unusedSectionVars false
set_option maxHeartbeats 1000000
namespace Go.Proofs.YtnigolgkkjidiaaGreat
open Go.ChangeShapes Go.WideShapes Go.ChangeAt Go.RowKit
theorem Tryz.own:ownKnob Tryz.prog.godebug=none:=by kernel_rfl
theorem Tryz.laidOut:laidOutB Tryz.prog=true:=by kernel_rfl
set_option maxRecDepth 100000 in
theorem mendNil_lifted(os:Os)(started:os.Started)(H:Type)(enc:TypeId×Value→H) :
  ReturnsInHanded {} Tryz.checked os 3 .any (Rows.mendNilSpec.pre6 enc Tryz.prog Tryz.f3 Rows.mendNilRow.domain false) (Rows.mendNilSpec.post enc Tryz.prog Tryz.f3 false true false false):=by
 refine returnsInHanded_of_change (C:=Tryz.checked) Tryz.own started (by kernel_rfl) Tryz.func3
  (ChangeSpec.witness6 (enc:=enc) (C:=Tryz.checked) false ⟨#[],#[.agg #[.int .i64 0,.int .i64 0],.int .i64 0],[]⟩ 8 (by kernel_rfl) (by kernel_rfl) (by kernel_rfl) (by kernel_rfl)) ?_
 intro W base args ds gs before hval0 hW hcnd _
 have hval:∀ (j:Nat) t v,Tryz.f3.params[j]?=some t→args[j]?=some v→Value.okWide Tryz.prog W .any base t v:=hval0
 have hW':=hW
 obtain⟨p,q,hA0,hV,rfl,hfz,hnd⟩:=hW
 have hA:DataW.TrodAll enc Tryz.prog W 0 (fun _=>true) true Tryz.f3.params.toList args.toList ds p:=hA0
 rw [Tryz.params3] at hA hval
 obtain⟨v0,v1,d0,d1,p0,p1,rfl,rfl,rfl,h0,h1⟩:=trodAll_two hA
 obtain⟨P,T,rfl⟩:=open_geo (hval 0 _ v0 rfl rfl)
 obtain⟨k,rfl,-,-⟩:=open_int (k:=.i64) Tryz.underlying3 (hval 1 _ v1 rfl rfl)
 exact end_calls (vs:=[_,_]) (mendNil_law P T k) trivial Tryz.laidOut (by rw [Tryz.params3];decide +kernel) rfl hW' (by kernel_rfl) Tryz.underlying4 rfl
theorem Tryz.mapsR:mapsRowed Tryz.prog=true:=by kernel_rfl
theorem Tryz.plainK:(Rows.mendNilRow.plainKeys == Tryz.prog.plainKeys)=true:=by kernel_rfl
theorem Tryz.lifts:(Rows.mendNilRow.lifted == Tryz.prog.liftsFinal)=true:=by kernel_rfl
theorem Tryz.made:(Tryz.prog.make == some Rows.mendNilRow.make)=true:=by kernel_rfl
theorem Tryz.enters:(Rows.mendNilRow.shortTexts.isNone&&Tryz.prog.stopsHeard&&Tryz.prog.mayEnter)=true:=by kernel_rfl
theorem mendNil_k4:(Rows.mendNilRow.inPlace == Tryz.prog.inPlace 3)=true:=by kernel_rfl
theorem mendNil_k5:(Rows.mendNilRow.unfollowed == Tryz.prog.unfollowed 3)=true:=by kernel_rfl
theorem mendNil_k6:(Rows.mendNilRow.recurses == Tryz.prog.recurses 3)=true:=by kernel_rfl
theorem mendNil_k7:(Rows.mendNilRow.named == Tryz.prog.varsNamed 3)=true:=by kernel_rfl
theorem mendNil_closed:joinedFacts Tryz.prog 3 Tryz.f3 Rows.mendNilSpec Rows.mendNilRow=true:=
 facts_of (by kernel_rfl) Tryz.laidOut Tryz.mapsR (by kernel_rfl) mendNil_k4 mendNil_k5 mendNil_k6 mendNil_k7 (by kernel_rfl) Tryz.plainK Tryz.enters Tryz.lifts Tryz.made (by kernel_rfl)
theorem mendNil_holds:Rows.MendNilSaid:=
 OpenClaim.holds_of_wide 3 Tryz.f3 rfl rfl rfl rfl rfl rfl rfl ⟨rfl,rfl,rfl,rfl,rfl⟩ rfl rfl rfl rfl rfl (by kernel_rfl) Tryz.func3 mendNil_closed
  (of_decide_eq_true (by kernel_rfl)) (by unfold Func.isWrapper;rw [if_neg (by decide +kernel)];exact⟨rfl,rfl⟩)
  (fun os started H enc _=>mendNil_lifted os started H enc)
end Go.Proofs.YtnigolgkkjidiaaGreat
