/- What the statement 'garderobelaw16.MendPlays' asks besides its law. -/
import Derived.Test.YtdfclocfackkmaaGreatRows
import Derived.Test.YtdfclocfackkmaaGreatPm31
set_option linter.unusedVariables false
set_option maxHeartbeats 1000000
namespace Go.Proofs.YtdfclocfackkmaaGreat
open Go.ChangeShapes Go.WideShapes Go.ChangeAt Go.RowKit
theorem Tryz.ownQ:ownKnob Tryz.prog.godebug=none:=by kernel_rfl
theorem Tryz.laidOutQ:laidOutB Tryz.prog=true:=by kernel_rfl
set_option maxRecDepth 100000 in
theorem aBc(hl:∀ (P0 T0:Int) (k1:LB) (hk1:k1.length=16) {c2:Int} (ha2:0<=c2) (hb2:c2<=18446744073709551615) (a3:Option Addr) (len3 cap3:Nat) (ys3:LV) (hml3:len3<=maxLen),Tri Tryz.prog 5 [.agg #[.int .i64 P0,.int .i64 T0],.agg (cbs k1).toArray,.int .u64 c2,.slice a3 len3 cap3] [] (fun w=>yB w a3 len3 cap3 ys3) (fun v H=>v=.bool true))(os:Os)(started:os.Started)(H:Type)(enc:TypeId×Value->H):ReturnsInHanded {} Tryz.checked os 5 .any (Rows.mendPlaysSpec.pre6 enc Tryz.prog Tryz.f5 Rows.mendPlaysRow.domain false) (Rows.mendPlaysSpec.post enc Tryz.prog Tryz.f5 false true false false):=by
 refine returnsInHanded_of_change (C:=Tryz.checked) Tryz.ownQ started (by kernel_rfl) Tryz.func5
  (ChangeSpec.witness6 (enc:=enc) (C:=Tryz.checked) false ⟨#[],#[.agg #[.int .i64 0,.int .i64 0],.agg (Array.replicate 16 (.int .u8 0)),.int .u64 0,.slice none 0 0],[]⟩ 8 (by kernel_rfl) (by kernel_rfl) (by kernel_rfl) (by kernel_rfl)) ?_
 intro W base args ds gs before hval0 hW hcnd _;have hval:∀ (j:Nat) t v,Tryz.f5.params[j]?=some t->args[j]?=some v->Value.okWide Tryz.prog W .any base t v:=hval0;have hW':=hW;obtain⟨p,q,hA0,hV,rfl,hfz,hnd⟩:=hW;have hA:DataW.TrodAll enc Tryz.prog W 0 (fun _=>true) true Tryz.f5.params.toList args.toList ds p:=hA0;rw [Tryz.params5] at hA hval;obtain⟨v0,v1,v2,v3,d0,d1,d2,d3,p0,p1,p2,p3,rfl,rfl,rfl,h0,h1,h2,h3⟩:=trodAll_four hA;obtain⟨P0,T0,rfl⟩:=aKF (hval 0 _ v0 rfl rfl);obtain⟨k1,hk1,rfl⟩:=aCM Tryz.underlying22 (by kernel_rfl) (by kernel_rfl) Tryz.underlying5 (hval 1 _ v1 rfl rfl) h1;obtain⟨c2,rfl,ha2,hb2⟩:=aGc Tryz.underlying23 (hval 2 _ v2 rfl rfl);obtain⟨a3,len3,cap3,ys3,rfl,hml3,hops3⟩:=wL (hval 3 _ v3 rfl rfl) h3;exact aAY (vs:=[_,_,_,_]) (hl P0 T0 k1 hk1 ha2 hb2 a3 len3 cap3 ys3 hml3) hops3 Tryz.laidOutQ (by rw [Tryz.params5];decide +kernel) rfl hW' (by kernel_rfl) Tryz.underlying4 rfl
theorem Tryz.mapsRQ:mapsRowed Tryz.prog=true:=by kernel_rfl
theorem Tryz.plainKQ:(Rows.mendPlaysRow.plainKeys == Tryz.prog.plainKeys)=true:=by kernel_rfl
theorem Tryz.liftsQ:(Rows.mendPlaysRow.lifted == Tryz.prog.liftsFinal)=true:=by kernel_rfl
theorem Tryz.madeQ:(Tryz.prog.make == some Rows.mendPlaysRow.make)=true:=by kernel_rfl
theorem Tryz.entersQ:(Rows.mendPlaysRow.shortTexts.isNone&&Tryz.prog.stopsHeard&&Tryz.prog.mayEnter)=true:=by kernel_rfl
theorem aEz:(Rows.mendPlaysRow.inPlace == Tryz.prog.inPlace 5)=true:=by kernel_rfl
theorem aEA:(Rows.mendPlaysRow.unfollowed == Tryz.prog.unfollowed 5)=true:=by kernel_rfl
theorem aEB:(Rows.mendPlaysRow.recurses == Tryz.prog.recurses 5)=true:=by kernel_rfl
theorem aEC:(Rows.mendPlaysRow.named == Tryz.prog.varsNamed 5)=true:=by kernel_rfl
theorem aBb:joinedFacts Tryz.prog 5 Tryz.f5 Rows.mendPlaysSpec Rows.mendPlaysRow=true:=
 aCu (by kernel_rfl) Tryz.laidOutQ Tryz.mapsRQ (by kernel_rfl) aEz aEA aEB aEC (by kernel_rfl) Tryz.plainKQ Tryz.entersQ Tryz.liftsQ Tryz.madeQ (by kernel_rfl)
theorem aCF(hl:∀ (P0 T0:Int) (k1:LB) (hk1:k1.length=16) {c2:Int} (ha2:0<=c2) (hb2:c2<=18446744073709551615) (a3:Option Addr) (len3 cap3:Nat) (ys3:LV) (hml3:len3<=maxLen),Tri Tryz.prog 5 [.agg #[.int .i64 P0,.int .i64 T0],.agg (cbs k1).toArray,.int .u64 c2,.slice a3 len3 cap3] [] (fun w=>yB w a3 len3 cap3 ys3) (fun v H=>v=.bool true)):Rows.MendPlaysSaid:=
 OpenClaim.holds_of_wide 5 Tryz.f5 rfl rfl rfl rfl rfl rfl rfl ⟨rfl,rfl,rfl,rfl,rfl⟩ rfl rfl rfl rfl rfl (by kernel_rfl) Tryz.func5 aBb
  (of_decide_eq_true (by kernel_rfl)) (by unfold Func.isWrapper;rw [if_neg (by decide +kernel)];exact⟨rfl,rfl⟩)
  (fun os started H enc _=>aBc hl os started H enc)
end Go.Proofs.YtdfclocfackkmaaGreat
