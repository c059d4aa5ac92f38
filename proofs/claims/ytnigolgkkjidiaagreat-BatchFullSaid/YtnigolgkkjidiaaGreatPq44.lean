/- A batch never has more blocks than it may: the statement 'garderobelaw21.BatchFull', of every input. -/
import Derived.Test.YtnigolgkkjidiaaGreatRows
import Derived.Test.YtnigolgkkjidiaaGreatPq43
import Derived.Test.YtnigolgkkjidiaaGreatPq0
set_option linter.unusedVariables false
set_option linter.unusedSimpArgs false
set_option linter.unusedSectionVars false
set_option maxHeartbeats 1000000
namespace Go.Proofs.YtnigolgkkjidiaaGreat
open Go.ChangeShapes Go.WideShapes Go.ChangeAt Go.RowKit
theorem Tryz.ownF:ownKnob Tryz.prog.godebug=none:=by kernel_rfl
theorem Tryz.laidOutF:laidOutB Tryz.prog=true:=by kernel_rfl
set_option maxRecDepth 100000 in
theorem batchFull_lifted(os:Os)(started:os.Started)(H:Type)(enc:TypeId×Value→H) :
  ReturnsInHanded {} Tryz.checked os 4 .any (Rows.batchFullSpec.pre6 enc Tryz.prog Tryz.f4 Rows.batchFullRow.domain false) (Rows.batchFullSpec.post enc Tryz.prog Tryz.f4 false true false false):=by
 refine returnsInHanded_of_change (C:=Tryz.checked) Tryz.ownF started (by kernel_rfl) Tryz.func4
  (ChangeSpec.witness6 (enc:=enc) (C:=Tryz.checked) false ⟨#[],#[.agg (Array.replicate 16 (.int .u8 0)),.int .i64 0,.slice none 0 0],[]⟩ 8 (by kernel_rfl) (by kernel_rfl) (by kernel_rfl) (by kernel_rfl)) ?_
 intro W base args ds gs before hval0 hW hcnd _
 have hval:∀ (j:Nat) t v,Tryz.f4.params[j]?=some t→args[j]?=some v→Value.okWide Tryz.prog W .any base t v:=hval0
 have hW':=hW
 obtain⟨p,q,hA0,hV,rfl,hfz,hnd⟩:=hW
 have hA:DataW.TrodAll enc Tryz.prog W 0 (fun _=>true) true Tryz.f4.params.toList args.toList ds p:=hA0
 rw [Tryz.params4] at hA hval
 obtain⟨v0,v1,v2,d0,d1,d2,p0,p1,p2,rfl,rfl,rfl,h0,h1,h2⟩:=trodAll_three hA
 obtain⟨k,hk,rfl⟩:=open_key Tryz.underlying27 (by kernel_rfl) (by kernel_rfl) Tryz.underlying5 (hval 0 _ v0 rfl rfl) h0
 obtain⟨most,rfl,-,-⟩:=open_int (k:=.i64) Tryz.underlying3 (hval 1 _ v1 rfl rfl)
 obtain⟨a,len,cap,ys,rfl,hml,hops⟩:=open_opb (hval 2 _ v2 rfl rfl) h2
 exact end_calls (vs:=[_,_,_]) (full21_law k hk most a len cap ys hml) hops Tryz.laidOutF (by rw [Tryz.params4];decide +kernel) rfl hW' (by kernel_rfl) Tryz.underlying4 rfl
theorem Tryz.mapsRF:mapsRowed Tryz.prog=true:=by kernel_rfl
theorem Tryz.plainKF:(Rows.batchFullRow.plainKeys == Tryz.prog.plainKeys)=true:=by kernel_rfl
theorem Tryz.liftsF:(Rows.batchFullRow.lifted == Tryz.prog.liftsFinal)=true:=by kernel_rfl
theorem Tryz.madeF:(Tryz.prog.make == some Rows.batchFullRow.make)=true:=by kernel_rfl
theorem Tryz.entersF:(Rows.batchFullRow.shortTexts.isNone&&Tryz.prog.stopsHeard&&Tryz.prog.mayEnter)=true:=by kernel_rfl
theorem batchFull_k4:(Rows.batchFullRow.inPlace == Tryz.prog.inPlace 4)=true:=by kernel_rfl
theorem batchFull_k5:(Rows.batchFullRow.unfollowed == Tryz.prog.unfollowed 4)=true:=by kernel_rfl
theorem batchFull_k6:(Rows.batchFullRow.recurses == Tryz.prog.recurses 4)=true:=by kernel_rfl
theorem batchFull_k7:(Rows.batchFullRow.named == Tryz.prog.varsNamed 4)=true:=by kernel_rfl
theorem batchFull_closed:joinedFacts Tryz.prog 4 Tryz.f4 Rows.batchFullSpec Rows.batchFullRow=true:=
 facts_of (by kernel_rfl) Tryz.laidOutF Tryz.mapsRF (by kernel_rfl) batchFull_k4 batchFull_k5 batchFull_k6 batchFull_k7 (by kernel_rfl) Tryz.plainKF Tryz.entersF Tryz.liftsF Tryz.madeF (by kernel_rfl)
theorem batchFull_holds:Rows.BatchFullSaid:=
 OpenClaim.holds_of_wide 4 Tryz.f4 rfl rfl rfl rfl rfl rfl rfl ⟨rfl,rfl,rfl,rfl,rfl⟩ rfl rfl rfl rfl rfl (by kernel_rfl) Tryz.func4 batchFull_closed
  (of_decide_eq_true (by kernel_rfl)) (by unfold Func.isWrapper;rw [if_neg (by decide +kernel)];exact⟨rfl,rfl⟩)
  (fun os started H enc _=>batchFull_lifted os started H enc)
end Go.Proofs.YtnigolgkkjidiaaGreat
