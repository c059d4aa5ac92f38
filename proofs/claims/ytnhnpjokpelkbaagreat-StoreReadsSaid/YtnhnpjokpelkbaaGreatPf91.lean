/- What was committed is read, block by block, and all others as they were: the statement 'garderobelaw15.StoreReads', of every input. -/
import Derived.Test.YtnhnpjokpelkbaaGreatRows
import Derived.Test.YtnhnpjokpelkbaaGreatPf1
set_option linter.unusedVariables false
set_option maxHeartbeats 1000000
namespace Go.Proofs.YtnhnpjokpelkbaaGreat
open Go.ChangeShapes Go.WideShapes Go.ChangeAt Go.RowKit
theorem Tryz.ownQ:ownKnob Tryz.prog.godebug=none:=by kernel_rfl
theorem Tryz.laidOutQ:laidOutB Tryz.prog=true:=by kernel_rfl
set_option maxRecDepth 100000 in
theorem aAX(os:Os)(started:os.Started)(H:Type)(enc:TypeId×Value→H) :
  ReturnsInHanded {} Tryz.checked os 4 .any (Rows.storeReadsSpec.pre6 enc Tryz.prog Tryz.f4 Rows.storeReadsRow.domain false) (Rows.storeReadsSpec.post enc Tryz.prog Tryz.f4 false true false false):=by
 refine returnsInHanded_of_change (C:=Tryz.checked) Tryz.ownQ started (by kernel_rfl) Tryz.func4
  (ChangeSpec.witness6 (enc:=enc) (C:=Tryz.checked) false ⟨#[],#[.agg (Array.replicate 16 (.int .u8 0)),.slice none 0 0],[]⟩ 8 (by kernel_rfl) (by kernel_rfl) (by kernel_rfl) (by kernel_rfl)) ?_
 intro W base args ds gs before hval0 hW hcnd _
 have hval:∀ (j:Nat) t v,Tryz.f4.params[j]?=some t→args[j]?=some v→Value.okWide Tryz.prog W .any base t v:=hval0
 have hW':=hW
 obtain⟨p,q,hA0,hV,rfl,hfz,hnd⟩:=hW
 have hA:DataW.TrodAll enc Tryz.prog W 0 (fun _=>true) true Tryz.f4.params.toList args.toList ds p:=hA0
 rw [Tryz.params4] at hA hval
 obtain⟨v0,v1,d0,d1,p0,p1,rfl,rfl,rfl,h0,h1⟩:=trodAll_two hA
 obtain⟨k,hk,rfl⟩:=aCB Tryz.underlying32 (by kernel_rfl) (by kernel_rfl) Tryz.underlying5 (hval 0 _ v0 rfl rfl) h0
 obtain⟨a,len,cap,ys,rfl,hml,hops⟩:=aFx (hval 1 _ v1 rfl rfl) h1
 exact xP (vs:=[_,_]) (aC3 k hk a len cap ys hml) hops Tryz.laidOutQ (by rw [Tryz.params4];decide +kernel) rfl hW' (by kernel_rfl) Tryz.underlying4 rfl
theorem Tryz.mapsRQ:mapsRowed Tryz.prog=true:=by kernel_rfl
theorem Tryz.plainKQ:(Rows.storeReadsRow.plainKeys == Tryz.prog.plainKeys)=true:=by kernel_rfl
theorem Tryz.liftsQ:(Rows.storeReadsRow.lifted == Tryz.prog.liftsFinal)=true:=by kernel_rfl
theorem Tryz.madeQ:(Tryz.prog.make == some Rows.storeReadsRow.make)=true:=by kernel_rfl
theorem Tryz.entersQ:(Rows.storeReadsRow.shortTexts.isNone&&Tryz.prog.stopsHeard&&Tryz.prog.mayEnter)=true:=by kernel_rfl
theorem aDh:(Rows.storeReadsRow.inPlace == Tryz.prog.inPlace 4)=true:=by kernel_rfl
theorem aDi:(Rows.storeReadsRow.unfollowed == Tryz.prog.unfollowed 4)=true:=by kernel_rfl
theorem aDj:(Rows.storeReadsRow.recurses == Tryz.prog.recurses 4)=true:=by kernel_rfl
theorem aDk:(Rows.storeReadsRow.named == Tryz.prog.varsNamed 4)=true:=by kernel_rfl
theorem aAW:joinedFacts Tryz.prog 4 Tryz.f4 Rows.storeReadsSpec Rows.storeReadsRow=true:=
 aAn (by kernel_rfl) Tryz.laidOutQ Tryz.mapsRQ (by kernel_rfl) aDh aDi aDj aDk (by kernel_rfl) Tryz.plainKQ Tryz.entersQ Tryz.liftsQ Tryz.madeQ (by kernel_rfl)
theorem storeReads_holds:Rows.StoreReadsSaid:=
 OpenClaim.holds_of_wide 4 Tryz.f4 rfl rfl rfl rfl rfl rfl rfl ⟨rfl,rfl,rfl,rfl,rfl⟩ rfl rfl rfl rfl rfl (by kernel_rfl) Tryz.func4 aAW
  (of_decide_eq_true (by kernel_rfl)) (by unfold Func.isWrapper;rw [if_neg (by decide +kernel)];exact⟨rfl,rfl⟩)
  (fun os started H enc _=>aAX os started H enc)
end Go.Proofs.YtnhnpjokpelkbaaGreat
