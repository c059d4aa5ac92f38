/- A block that others wrote into is told when it is read, and from then on each call says so; others are read as they were: the statement 'garderobelaw15.StorePoison', of every input. -/
import Derived.Test.YtnhnpjokpelkbaaGreatRows
import Derived.Carry
import Derived.Test.YtnhnpjokpelkbaaGreatPf1
set_option linter.unusedVariables false
set_option maxHeartbeats 1000000
namespace Go.Proofs.YtnhnpjokpelkbaaGreat
open Go.ChangeShapes Go.WideShapes Go.ChangeAt Go.RowKit
theorem Tryz.ownS:ownKnob Tryz.prog.godebug=none:=by kernel_rfl
theorem Tryz.laidOutS:laidOutB Tryz.prog=true:=by kernel_rfl
theorem aK7{n:Int}(h1:IntKind.u8.min≤n)(h2:n≤IntKind.u8.max):∃ b:UInt8,n=(b.toNat:Int):=by
 have e1:IntKind.u8.min=0:=by decide
 have e2:IntKind.u8.max=255:=by decide
 rw [e1] at h1
 rw [e2] at h2
 refine⟨UInt8.ofNat n.toNat,?_⟩
 rw [cW]
 omega
set_option maxRecDepth 100000 in
theorem zU(os:Os)(started:os.Started)(H:Type)(enc:TypeId×Value→H) :
  ReturnsInHanded {} Tryz.checked os 6 .any (Rows.storePoisonSpec.pre6 enc Tryz.prog Tryz.f6 Rows.storePoisonRow.domain false) (Rows.storePoisonSpec.post enc Tryz.prog Tryz.f6 false true false false):=by
 refine returnsInHanded_of_change (C:=Tryz.checked) Tryz.ownS started (by kernel_rfl) Tryz.func6
  (ChangeSpec.witness6 (enc:=enc) (C:=Tryz.checked) false ⟨#[],#[.agg (Array.replicate 16 (.int .u8 0)),.int .u8 0,.int .u8 0,.int .u8 0],[]⟩ 8 (by kernel_rfl) (by kernel_rfl) (by kernel_rfl) (by kernel_rfl)) ?_
 intro W base args ds gs before hval0 hW hcnd _
 have hval:∀ (j:Nat) t v,Tryz.f6.params[j]?=some t→args[j]?=some v→Value.okWide Tryz.prog W .any base t v:=hval0
 have hW':=hW
 obtain⟨p,q,hA0,hV,rfl,hfz,hnd⟩:=hW
 have hA:DataW.TrodAll enc Tryz.prog W 0 (fun _=>true) true Tryz.f6.params.toList args.toList ds p:=hA0
 rw [Tryz.params6] at hA hval
 obtain⟨v0,v1,v2,v3,d0,d1,d2,d3,p0,p1,p2,p3,rfl,rfl,rfl,h0,h1,h2,h3⟩:=trodAll_four hA
 obtain⟨k,hk,rfl⟩:=aCB Tryz.underlying32 (by kernel_rfl) (by kernel_rfl) Tryz.underlying5 (hval 0 _ v0 rfl rfl) h0
 obtain⟨n1,rfl,l1,u1⟩:=aAy (k:=.u8) Tryz.underlying5 (hval 1 _ v1 rfl rfl)
 obtain⟨n2,rfl,l2,u2⟩:=aAy (k:=.u8) Tryz.underlying5 (hval 2 _ v2 rfl rfl)
 obtain⟨n3,rfl,l3,u3⟩:=aAy (k:=.u8) Tryz.underlying5 (hval 3 _ v3 rfl rfl)
 obtain⟨b1,rfl⟩:=aK7 l1 u1
 obtain⟨b2,rfl⟩:=aK7 l2 u2
 obtain⟨b3,rfl⟩:=aK7 l3 u3
 exact xP (vs:=[_,_,_,_]) (aBT k hk b1 b2 b3) trivial Tryz.laidOutS (by rw [Tryz.params6];decide +kernel) rfl hW' (by kernel_rfl) Tryz.underlying4 rfl
theorem Tryz.mapsRS:mapsRowed Tryz.prog=true:=by kernel_rfl
theorem Tryz.plainKS:(Rows.storePoisonRow.plainKeys == Tryz.prog.plainKeys)=true:=by kernel_rfl
theorem Tryz.liftsS:(Rows.storePoisonRow.lifted == Tryz.prog.liftsFinal)=true:=by kernel_rfl
theorem Tryz.madeS:(Tryz.prog.make == some Rows.storePoisonRow.make)=true:=by kernel_rfl
theorem Tryz.entersS:(Rows.storePoisonRow.shortTexts.isNone&&Tryz.prog.stopsHeard&&Tryz.prog.mayEnter)=true:=by kernel_rfl
theorem aCZ:(Rows.storePoisonRow.inPlace == Tryz.prog.inPlace 6)=true:=by kernel_rfl
theorem aC0:(Rows.storePoisonRow.unfollowed == Tryz.prog.unfollowed 6)=true:=by kernel_rfl
theorem aC1:(Rows.storePoisonRow.recurses == Tryz.prog.recurses 6)=true:=by kernel_rfl
theorem aC2:(Rows.storePoisonRow.named == Tryz.prog.varsNamed 6)=true:=by kernel_rfl
theorem zT:joinedFacts Tryz.prog 6 Tryz.f6 Rows.storePoisonSpec Rows.storePoisonRow=true:=
 aAn (by kernel_rfl) Tryz.laidOutS Tryz.mapsRS (by kernel_rfl) aCZ aC0 aC1 aC2 (by kernel_rfl) Tryz.plainKS Tryz.entersS Tryz.liftsS Tryz.madeS (by kernel_rfl)
theorem storePoison_holds:Rows.StorePoisonSaid:=
 OpenClaim.holds_of_wide 6 Tryz.f6 rfl rfl rfl rfl rfl rfl rfl ⟨rfl,rfl,rfl,rfl,rfl⟩ rfl rfl rfl rfl rfl (by kernel_rfl) Tryz.func6 zT
  (of_decide_eq_true (by kernel_rfl)) (by unfold Func.isWrapper;rw [if_neg (by decide +kernel)];exact⟨rfl,rfl⟩)
  (fun os started H enc _=>zU os started H enc)
end Go.Proofs.YtnhnpjokpelkbaaGreat
