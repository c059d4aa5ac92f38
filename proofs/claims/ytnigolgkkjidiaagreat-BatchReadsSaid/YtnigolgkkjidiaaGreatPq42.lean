/- Nothing is done to the device ahead of Commit; what was put is got, and all else as the store has it: the statement 'garderobelaw21.BatchReads', of every input. -/
import Derived.Test.YtnigolgkkjidiaaGreatRows
import Derived.Test.YtnigolgkkjidiaaGreatPq41
import Derived.Test.YtnigolgkkjidiaaGreatPq0
set_option linter.unusedVariables false
set_option linter.unusedSimpArgs false
set_option linter.unusedSectionVars false
set_option maxHeartbeats 1000000
namespace Go.Proofs.YtnigolgkkjidiaaGreat
open Go.ChangeShapes Go.WideShapes Go.ChangeAt Go.RowKit
theorem Tryz.own:ownKnob Tryz.prog.godebug=none:=by kernel_rfl
theorem Tryz.laidOut:laidOutB Tryz.prog=true:=by kernel_rfl
set_option maxRecDepth 100000 in
theorem batchReads_lifted(os:Os)(started:os.Started)(H:Type)(enc:TypeId×Value→H) :
  ReturnsInHanded {} Tryz.checked os 5 .any (Rows.batchReadsSpec.pre6 enc Tryz.prog Tryz.f5 Rows.batchReadsRow.domain false) (Rows.batchReadsSpec.post enc Tryz.prog Tryz.f5 false true false false):=by
 refine returnsInHanded_of_change (C:=Tryz.checked) Tryz.own started (by kernel_rfl) Tryz.func5
  (ChangeSpec.witness6 (enc:=enc) (C:=Tryz.checked) false ⟨#[],#[.agg (Array.replicate 16 (.int .u8 0)),.slice none 0 0],[]⟩ 8 (by kernel_rfl) (by kernel_rfl) (by kernel_rfl) (by kernel_rfl)) ?_
 intro W base args ds gs before hval0 hW hcnd _
 have hval:∀ (j:Nat) t v,Tryz.f5.params[j]?=some t→args[j]?=some v→Value.okWide Tryz.prog W .any base t v:=hval0
 have hW':=hW
 obtain⟨p,q,hA0,hV,rfl,hfz,hnd⟩:=hW
 have hA:DataW.TrodAll enc Tryz.prog W 0 (fun _=>true) true Tryz.f5.params.toList args.toList ds p:=hA0
 rw [Tryz.params5] at hA hval
 obtain⟨v0,v1,d0,d1,p0,p1,rfl,rfl,rfl,h0,h1⟩:=trodAll_two hA
 obtain⟨k,hk,rfl⟩:=open_key Tryz.underlying27 (by kernel_rfl) (by kernel_rfl) Tryz.underlying5 (hval 0 _ v0 rfl rfl) h0
 obtain⟨a,len,cap,ys,rfl,hml,hops⟩:=open_opb (hval 1 _ v1 rfl rfl) h1
 exact end_calls (vs:=[_,_]) (reads21_law k hk a len cap ys hml) hops Tryz.laidOut (by rw [Tryz.params5];decide +kernel) rfl hW' (by kernel_rfl) Tryz.underlying4 rfl
theorem Tryz.mapsR:mapsRowed Tryz.prog=true:=by kernel_rfl
theorem Tryz.plainK:(Rows.batchReadsRow.plainKeys == Tryz.prog.plainKeys)=true:=by kernel_rfl
theorem Tryz.lifts:(Rows.batchReadsRow.lifted == Tryz.prog.liftsFinal)=true:=by kernel_rfl
theorem Tryz.made:(Tryz.prog.make == some Rows.batchReadsRow.make)=true:=by kernel_rfl
theorem Tryz.enters:(Rows.batchReadsRow.shortTexts.isNone&&Tryz.prog.stopsHeard&&Tryz.prog.mayEnter)=true:=by kernel_rfl
theorem batchReads_k4:(Rows.batchReadsRow.inPlace == Tryz.prog.inPlace 5)=true:=by kernel_rfl
theorem batchReads_k5:(Rows.batchReadsRow.unfollowed == Tryz.prog.unfollowed 5)=true:=by kernel_rfl
theorem batchReads_k6:(Rows.batchReadsRow.recurses == Tryz.prog.recurses 5)=true:=by kernel_rfl
theorem batchReads_k7:(Rows.batchReadsRow.named == Tryz.prog.varsNamed 5)=true:=by kernel_rfl
theorem batchReads_closed:joinedFacts Tryz.prog 5 Tryz.f5 Rows.batchReadsSpec Rows.batchReadsRow=true:=
 facts_of (by kernel_rfl) Tryz.laidOut Tryz.mapsR (by kernel_rfl) batchReads_k4 batchReads_k5 batchReads_k6 batchReads_k7 (by kernel_rfl) Tryz.plainK Tryz.enters Tryz.lifts Tryz.made (by kernel_rfl)
theorem batchReads_holds:Rows.BatchReadsSaid:=
 OpenClaim.holds_of_wide 5 Tryz.f5 rfl rfl rfl rfl rfl rfl rfl ⟨rfl,rfl,rfl,rfl,rfl⟩ rfl rfl rfl rfl rfl (by kernel_rfl) Tryz.func5 batchReads_closed
  (of_decide_eq_true (by kernel_rfl)) (by unfold Func.isWrapper;rw [if_neg (by decide +kernel)];exact⟨rfl,rfl⟩)
  (fun os started H enc _=>batchReads_lifted os started H enc)
end Go.Proofs.YtnigolgkkjidiaaGreat
