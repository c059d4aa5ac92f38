/- What the statement 'garderobelaw16.MendAddresses' asks besides its law. -/
import Derived.Test.YtdfclocfackkmaaGreatRows
import Derived.Test.YtdfclocfackkmaaGreatPm31
set_option linter.unusedVariables false
set_option maxHeartbeats 1000000
namespace Go.Proofs.YtdfclocfackkmaaGreat
open Go.ChangeShapes Go.WideShapes Go.ChangeAt Go.RowKit
theorem Tryz.ownQ:ownKnob Tryz.prog.godebug=none:=by kernel_rfl
theorem Tryz.laidOutQ:laidOutB Tryz.prog=true:=by kernel_rfl
set_option maxRecDepth 100000 in
theorem wJ(hl:∀ (k0:LB) (hk0:k0.length=16) (a1:Option Addr) (len1 cap1:Nat) (ys1:LV) (hml1:len1<=maxLen) (b2:Bool),Tri Tryz.prog 4 [.agg (cbs k0).toArray,.slice a1 len1 cap1,.bool b2] [] (fun w=>yB w a1 len1 cap1 ys1) (fun v H=>v=.bool true))(os:Os)(started:os.Started)(H:Type)(enc:TypeId×Value->H):ReturnsInHanded {} Tryz.checked os 4 .any (Rows.mendAddressesSpec.pre6 enc Tryz.prog Tryz.f4 Rows.mendAddressesRow.domain false) (Rows.mendAddressesSpec.post enc Tryz.prog Tryz.f4 false true false false):=by
 refine returnsInHanded_of_change (C:=Tryz.checked) Tryz.ownQ started (by kernel_rfl) Tryz.func4
  (ChangeSpec.witness6 (enc:=enc) (C:=Tryz.checked) false ⟨#[],#[.agg (Array.replicate 16 (.int .u8 0)),.slice none 0 0,.bool false],[]⟩ 8 (by kernel_rfl) (by kernel_rfl) (by kernel_rfl) (by kernel_rfl)) ?_
 intro W base args ds gs before hval0 hW hcnd _;have hval:∀ (j:Nat) t v,Tryz.f4.params[j]?=some t->args[j]?=some v->Value.okWide Tryz.prog W .any base t v:=hval0;have hW':=hW;obtain⟨p,q,hA0,hV,rfl,hfz,hnd⟩:=hW;have hA:DataW.TrodAll enc Tryz.prog W 0 (fun _=>true) true Tryz.f4.params.toList args.toList ds p:=hA0;rw [Tryz.params4] at hA hval;obtain⟨v0,v1,v2,d0,d1,d2,p0,p1,p2,rfl,rfl,rfl,h0,h1,h2⟩:=trodAll_three hA;obtain⟨k0,hk0,rfl⟩:=aCM Tryz.underlying22 (by kernel_rfl) (by kernel_rfl) Tryz.underlying5 (hval 0 _ v0 rfl rfl) h0;obtain⟨a1,len1,cap1,ys1,rfl,hml1,hops1⟩:=wL (hval 1 _ v1 rfl rfl) h1;obtain⟨b2,rfl⟩:=aI7 Tryz.underlying4 (hval 2 _ v2 rfl rfl);exact aAY (vs:=[_,_,_]) (hl k0 hk0 a1 len1 cap1 ys1 hml1 b2) hops1 Tryz.laidOutQ (by rw [Tryz.params4];decide +kernel) rfl hW' (by kernel_rfl) Tryz.underlying4 rfl
theorem Tryz.mapsRQ:mapsRowed Tryz.prog=true:=by kernel_rfl
theorem Tryz.plainKQ:(Rows.mendAddressesRow.plainKeys == Tryz.prog.plainKeys)=true:=by kernel_rfl
theorem Tryz.liftsQ:(Rows.mendAddressesRow.lifted == Tryz.prog.liftsFinal)=true:=by kernel_rfl
theorem Tryz.madeQ:(Tryz.prog.make == some Rows.mendAddressesRow.make)=true:=by kernel_rfl
theorem Tryz.entersQ:(Rows.mendAddressesRow.shortTexts.isNone&&Tryz.prog.stopsHeard&&Tryz.prog.mayEnter)=true:=by kernel_rfl
theorem aA7:(Rows.mendAddressesRow.inPlace == Tryz.prog.inPlace 4)=true:=by kernel_rfl
theorem aA8:(Rows.mendAddressesRow.unfollowed == Tryz.prog.unfollowed 4)=true:=by kernel_rfl
theorem aA9:(Rows.mendAddressesRow.recurses == Tryz.prog.recurses 4)=true:=by kernel_rfl
theorem aBa:(Rows.mendAddressesRow.named == Tryz.prog.varsNamed 4)=true:=by kernel_rfl
theorem wI:joinedFacts Tryz.prog 4 Tryz.f4 Rows.mendAddressesSpec Rows.mendAddressesRow=true:=
 aCu (by kernel_rfl) Tryz.laidOutQ Tryz.mapsRQ (by kernel_rfl) aA7 aA8 aA9 aBa (by kernel_rfl) Tryz.plainKQ Tryz.entersQ Tryz.liftsQ Tryz.madeQ (by kernel_rfl)
theorem zC(hl:∀ (k0:LB) (hk0:k0.length=16) (a1:Option Addr) (len1 cap1:Nat) (ys1:LV) (hml1:len1<=maxLen) (b2:Bool),Tri Tryz.prog 4 [.agg (cbs k0).toArray,.slice a1 len1 cap1,.bool b2] [] (fun w=>yB w a1 len1 cap1 ys1) (fun v H=>v=.bool true)):Rows.MendAddressesSaid:=
 OpenClaim.holds_of_wide 4 Tryz.f4 rfl rfl rfl rfl rfl rfl rfl ⟨rfl,rfl,rfl,rfl,rfl⟩ rfl rfl rfl rfl rfl (by kernel_rfl) Tryz.func4 wI
  (of_decide_eq_true (by kernel_rfl)) (by unfold Func.isWrapper;rw [if_neg (by decide +kernel)];exact⟨rfl,rfl⟩)
  (fun os started H enc _=>wJ hl os started H enc)
end Go.Proofs.YtdfclocfackkmaaGreat
