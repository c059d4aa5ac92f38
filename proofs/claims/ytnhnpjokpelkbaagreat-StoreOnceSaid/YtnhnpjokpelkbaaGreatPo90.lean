/- No two blocks that are unlike are sealed with one epoch and number, whatever befalls: the statement 'garderobelaw15.StoreOnce', of every input. -/
import Derived.Test.YtnhnpjokpelkbaaGreatRows
import Derived.Test.YtnhnpjokpelkbaaGreatPo1
set_option linter.unusedVariables false
set_option maxHeartbeats 1000000
namespace Go.Proofs.YtnhnpjokpelkbaaGreat
open Go.ChangeShapes Go.WideShapes Go.ChangeAt Go.RowKit
theorem Tryz.ownQ:ownKnob Tryz.prog.godebug=none:=by kernel_rfl
theorem Tryz.laidOutQ:laidOutB Tryz.prog=true:=by kernel_rfl
set_option maxRecDepth 100000 in
theorem sR(os:Os)(started:os.Started)(H:Type)(enc:TypeId×Value→H) :
  ReturnsInHanded {} Tryz.checked os 8 .any (Rows.storeOnceSpec.pre6 enc Tryz.prog Tryz.f8 Rows.storeOnceRow.domain false) (Rows.storeOnceSpec.post enc Tryz.prog Tryz.f8 false true false false):=by
 refine returnsInHanded_of_change (C:=Tryz.checked) Tryz.ownQ started (by kernel_rfl) Tryz.func8
  (ChangeSpec.witness6 (enc:=enc) (C:=Tryz.checked) false ⟨#[],#[.agg (Array.replicate 16 (.int .u8 0)),.slice none 0 0],[]⟩ 8 (by kernel_rfl) (by kernel_rfl) (by kernel_rfl) (by kernel_rfl)) ?_
 intro W base args ds gs before hval0 hW hcnd _
 have hval:∀ (j:Nat) t v,Tryz.f8.params[j]?=some t→args[j]?=some v→Value.okWide Tryz.prog W .any base t v:=hval0
 have hW':=hW
 obtain⟨p,q,hA0,hV,rfl,hfz,hnd⟩:=hW
 have hA:DataW.TrodAll enc Tryz.prog W 0 (fun _=>true) true Tryz.f8.params.toList args.toList ds p:=hA0
 rw [Tryz.params8] at hA hval
 obtain⟨v0,v1,d0,d1,p0,p1,rfl,rfl,rfl,h0,h1⟩:=trodAll_two hA
 obtain⟨k,hk,rfl⟩:=aCB Tryz.underlying32 (by kernel_rfl) (by kernel_rfl) Tryz.underlying5 (hval 0 _ v0 rfl rfl) h0
 obtain⟨a,len,cap,ys,rfl,hml,hops⟩:=aFx (hval 1 _ v1 rfl rfl) h1
 exact xP (vs:=[_,_]) (aQf k hk a len cap ys hml) hops Tryz.laidOutQ (by rw [Tryz.params8];decide +kernel) rfl hW' (by kernel_rfl) Tryz.underlying4 rfl
theorem Tryz.mapsRQ:mapsRowed Tryz.prog=true:=by kernel_rfl
theorem Tryz.plainKQ:(Rows.storeOnceRow.plainKeys == Tryz.prog.plainKeys)=true:=by kernel_rfl
theorem Tryz.liftsQ:(Rows.storeOnceRow.lifted == Tryz.prog.liftsFinal)=true:=by kernel_rfl
theorem Tryz.madeQ:(Tryz.prog.make == some Rows.storeOnceRow.make)=true:=by kernel_rfl
theorem Tryz.entersQ:(Rows.storeOnceRow.shortTexts.isNone&&Tryz.prog.stopsHeard&&Tryz.prog.mayEnter)=true:=by kernel_rfl
theorem aQj:(Rows.storeOnceRow.inPlace == Tryz.prog.inPlace 8)=true:=by kernel_rfl
theorem aQk:(Rows.storeOnceRow.unfollowed == Tryz.prog.unfollowed 8)=true:=by kernel_rfl
theorem aQl:(Rows.storeOnceRow.recurses == Tryz.prog.recurses 8)=true:=by kernel_rfl
theorem aQm:(Rows.storeOnceRow.named == Tryz.prog.varsNamed 8)=true:=by kernel_rfl
theorem sB:joinedFacts Tryz.prog 8 Tryz.f8 Rows.storeOnceSpec Rows.storeOnceRow=true:=
 aAn (by kernel_rfl) Tryz.laidOutQ Tryz.mapsRQ (by kernel_rfl) aQj aQk aQl aQm (by kernel_rfl) Tryz.plainKQ Tryz.entersQ Tryz.liftsQ Tryz.madeQ (by kernel_rfl)
theorem storeOnce_holds:Rows.StoreOnceSaid:=
 OpenClaim.holds_of_wide 8 Tryz.f8 rfl rfl rfl rfl rfl rfl rfl ⟨rfl,rfl,rfl,rfl,rfl⟩ rfl rfl rfl rfl rfl (by kernel_rfl) Tryz.func8 sB
  (of_decide_eq_true (by kernel_rfl)) (by unfold Func.isWrapper;rw [if_neg (by decide +kernel)];exact⟨rfl,rfl⟩)
  (fun os started H enc _=>sR os started H enc)
end Go.Proofs.YtnhnpjokpelkbaaGreat
