/- What the statement 'garderobelaw16.MendOnce' asks besides its law. -/
import Derived.Test.YtdfclocfackkmaaGreatRows
import Derived.Test.YtdfclocfackkmaaGreatPm31
set_option linter.unusedVariables false
set_option maxHeartbeats 1000000
namespace Go.Proofs.YtdfclocfackkmaaGreat
open Go.ChangeShapes Go.WideShapes Go.ChangeAt Go.RowKit
theorem Tryz.ownQ:ownKnob Tryz.prog.godebug=none:=by kernel_rfl
theorem Tryz.laidOutQ:laidOutB Tryz.prog=true:=by kernel_rfl
set_option maxRecDepth 100000 in
theorem aBM(hl:∀ (k0:LB) (hk0:k0.length=16) {c1:Int} (ha1:0<=c1) (hb1:c1<=18446744073709551615) (a2:Option Addr) (len2 cap2:Nat) (ys2:LV) (hml2:len2<=maxLen),Tri Tryz.prog 3 [.agg (cbs k0).toArray,.int .u64 c1,.slice a2 len2 cap2] [] (fun w=>yB w a2 len2 cap2 ys2) (fun v H=>v=.bool true))(os:Os)(started:os.Started)(H:Type)(enc:TypeId×Value->H):ReturnsInHanded {} Tryz.checked os 3 .any (Rows.mendOnceSpec.pre6 enc Tryz.prog Tryz.f3 Rows.mendOnceRow.domain false) (Rows.mendOnceSpec.post enc Tryz.prog Tryz.f3 false true false false):=by
 refine returnsInHanded_of_change (C:=Tryz.checked) Tryz.ownQ started (by kernel_rfl) Tryz.func3
  (ChangeSpec.witness6 (enc:=enc) (C:=Tryz.checked) false ⟨#[],#[.agg (Array.replicate 16 (.int .u8 0)),.int .u64 0,.slice none 0 0],[]⟩ 8 (by kernel_rfl) (by kernel_rfl) (by kernel_rfl) (by kernel_rfl)) ?_
 intro W base args ds gs before hval0 hW hcnd _;have hval:∀ (j:Nat) t v,Tryz.f3.params[j]?=some t->args[j]?=some v->Value.okWide Tryz.prog W .any base t v:=hval0;have hW':=hW;obtain⟨p,q,hA0,hV,rfl,hfz,hnd⟩:=hW;have hA:DataW.TrodAll enc Tryz.prog W 0 (fun _=>true) true Tryz.f3.params.toList args.toList ds p:=hA0;rw [Tryz.params3] at hA hval;obtain⟨v0,v1,v2,d0,d1,d2,p0,p1,p2,rfl,rfl,rfl,h0,h1,h2⟩:=trodAll_three hA;obtain⟨k0,hk0,rfl⟩:=aCM Tryz.underlying22 (by kernel_rfl) (by kernel_rfl) Tryz.underlying5 (hval 0 _ v0 rfl rfl) h0;obtain⟨c1,rfl,ha1,hb1⟩:=aGc Tryz.underlying23 (hval 1 _ v1 rfl rfl);obtain⟨a2,len2,cap2,ys2,rfl,hml2,hops2⟩:=wL (hval 2 _ v2 rfl rfl) h2;exact aAY (vs:=[_,_,_]) (hl k0 hk0 ha1 hb1 a2 len2 cap2 ys2 hml2) hops2 Tryz.laidOutQ (by rw [Tryz.params3];decide +kernel) rfl hW' (by kernel_rfl) Tryz.underlying4 rfl
theorem Tryz.mapsRQ:mapsRowed Tryz.prog=true:=by kernel_rfl
theorem Tryz.plainKQ:(Rows.mendOnceRow.plainKeys == Tryz.prog.plainKeys)=true:=by kernel_rfl
theorem Tryz.liftsQ:(Rows.mendOnceRow.lifted == Tryz.prog.liftsFinal)=true:=by kernel_rfl
theorem Tryz.madeQ:(Tryz.prog.make == some Rows.mendOnceRow.make)=true:=by kernel_rfl
theorem Tryz.entersQ:(Rows.mendOnceRow.shortTexts.isNone&&Tryz.prog.stopsHeard&&Tryz.prog.mayEnter)=true:=by kernel_rfl
theorem aF4:(Rows.mendOnceRow.inPlace == Tryz.prog.inPlace 3)=true:=by kernel_rfl
theorem aF5:(Rows.mendOnceRow.unfollowed == Tryz.prog.unfollowed 3)=true:=by kernel_rfl
theorem aF6:(Rows.mendOnceRow.recurses == Tryz.prog.recurses 3)=true:=by kernel_rfl
theorem aF7:(Rows.mendOnceRow.named == Tryz.prog.varsNamed 3)=true:=by kernel_rfl
theorem aBL:joinedFacts Tryz.prog 3 Tryz.f3 Rows.mendOnceSpec Rows.mendOnceRow=true:=
 aCu (by kernel_rfl) Tryz.laidOutQ Tryz.mapsRQ (by kernel_rfl) aF4 aF5 aF6 aF7 (by kernel_rfl) Tryz.plainKQ Tryz.entersQ Tryz.liftsQ Tryz.madeQ (by kernel_rfl)
theorem aDi(hl:∀ (k0:LB) (hk0:k0.length=16) {c1:Int} (ha1:0<=c1) (hb1:c1<=18446744073709551615) (a2:Option Addr) (len2 cap2:Nat) (ys2:LV) (hml2:len2<=maxLen),Tri Tryz.prog 3 [.agg (cbs k0).toArray,.int .u64 c1,.slice a2 len2 cap2] [] (fun w=>yB w a2 len2 cap2 ys2) (fun v H=>v=.bool true)):Rows.MendOnceSaid:=
 OpenClaim.holds_of_wide 3 Tryz.f3 rfl rfl rfl rfl rfl rfl rfl ⟨rfl,rfl,rfl,rfl,rfl⟩ rfl rfl rfl rfl rfl (by kernel_rfl) Tryz.func3 aBL
  (of_decide_eq_true (by kernel_rfl)) (by unfold Func.isWrapper;rw [if_neg (by decide +kernel)];exact⟨rfl,rfl⟩)
  (fun os started H enc _=>aBM hl os started H enc)
end Go.Proofs.YtdfclocfackkmaaGreat
