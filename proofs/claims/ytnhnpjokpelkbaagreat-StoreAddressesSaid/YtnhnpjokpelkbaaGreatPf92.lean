/- Which acts a Commit does of the device hangs on the entries' numbers alone: the statement 'garderobelaw15.StoreAddresses', of every input. -/
import Derived.Test.YtnhnpjokpelkbaaGreatRows
import Derived.Carry
import Derived.Test.YtnhnpjokpelkbaaGreatPf1
set_option linter.unusedVariables false
set_option maxHeartbeats 1000000
namespace Go.Proofs.YtnhnpjokpelkbaaGreat
open Go.ChangeShapes Go.WideShapes Go.ChangeAt Go.RowKit
theorem Tryz.ownR:ownKnob Tryz.prog.godebug=none:=by kernel_rfl
theorem Tryz.laidOutR:laidOutB Tryz.prog=true:=by kernel_rfl
set_option maxRecDepth 100000 in
theorem wH(os:Os)(started:os.Started)(H:Type)(enc:TypeId×Value→H) :
  ReturnsInHanded {} Tryz.checked os 5 .any (Rows.storeAddressesSpec.pre6 enc Tryz.prog Tryz.f5 Rows.storeAddressesRow.domain false) (Rows.storeAddressesSpec.post enc Tryz.prog Tryz.f5 false true false false):=by
 refine returnsInHanded_of_change (C:=Tryz.checked) Tryz.ownR started (by kernel_rfl) Tryz.func5
  (ChangeSpec.witness6 (enc:=enc) (C:=Tryz.checked) false ⟨#[],#[.agg (Array.replicate 16 (.int .u8 0)),.slice none 0 0,.slice none 0 0,.slice none 0 0],[]⟩ 8 (by kernel_rfl) (by kernel_rfl) (by kernel_rfl) (by kernel_rfl)) ?_
 intro W base args ds gs before hval0 hW hcnd _
 have hval:∀ (j:Nat) t v,Tryz.f5.params[j]?=some t→args[j]?=some v→Value.okWide Tryz.prog W .any base t v:=hval0
 have hW':=hW
 obtain⟨p,q,hA0,hV,rfl,hfz,hnd⟩:=hW
 have hA:DataW.TrodAll enc Tryz.prog W 0 (fun _=>true) true Tryz.f5.params.toList args.toList ds p:=hA0
 rw [Tryz.params5] at hA hval
 obtain⟨v0,v1,v2,v3,d0,d1,d2,d3,p0,p1,p2,p3,rfl,rfl,rfl,h0,h1,h2,h3⟩:=trodAll_four hA
 obtain⟨k,hk,rfl⟩:=aCB Tryz.underlying32 (by kernel_rfl) (by kernel_rfl) Tryz.underlying5 (hval 0 _ v0 rfl rfl) h0
 obtain⟨ks,hks,r1⟩:=aGH Tryz.underlying77 (by kernel_rfl) Tryz.underlying3 (hval 1 _ v1 rfl rfl) h1
 obtain⟨sA,r2⟩:=aCA Tryz.underlying23 (by kernel_rfl) Tryz.underlying5 (hval 2 _ v2 rfl rfl) h2
 obtain⟨sB,r3⟩:=aCA Tryz.underlying23 (by kernel_rfl) Tryz.underlying5 (hval 3 _ v3 rfl rfl) h3
 exact xP (vs:=[_,_,_,_]) (aDg k hk v1 v2 v3 ks sA sB hks) ⟨r1,r2,r3⟩ Tryz.laidOutR (by rw [Tryz.params5];decide +kernel) rfl hW' (by kernel_rfl) Tryz.underlying4 rfl
theorem Tryz.mapsRR:mapsRowed Tryz.prog=true:=by kernel_rfl
theorem Tryz.plainKR:(Rows.storeAddressesRow.plainKeys == Tryz.prog.plainKeys)=true:=by kernel_rfl
theorem Tryz.liftsR:(Rows.storeAddressesRow.lifted == Tryz.prog.liftsFinal)=true:=by kernel_rfl
theorem Tryz.madeR:(Tryz.prog.make == some Rows.storeAddressesRow.make)=true:=by kernel_rfl
theorem Tryz.entersR:(Rows.storeAddressesRow.shortTexts.isNone&&Tryz.prog.stopsHeard&&Tryz.prog.mayEnter)=true:=by kernel_rfl
theorem aAS:(Rows.storeAddressesRow.inPlace == Tryz.prog.inPlace 5)=true:=by kernel_rfl
theorem aAT:(Rows.storeAddressesRow.unfollowed == Tryz.prog.unfollowed 5)=true:=by kernel_rfl
theorem aAU:(Rows.storeAddressesRow.recurses == Tryz.prog.recurses 5)=true:=by kernel_rfl
theorem aAV:(Rows.storeAddressesRow.named == Tryz.prog.varsNamed 5)=true:=by kernel_rfl
theorem wG:joinedFacts Tryz.prog 5 Tryz.f5 Rows.storeAddressesSpec Rows.storeAddressesRow=true:=
 aAn (by kernel_rfl) Tryz.laidOutR Tryz.mapsRR (by kernel_rfl) aAS aAT aAU aAV (by kernel_rfl) Tryz.plainKR Tryz.entersR Tryz.liftsR Tryz.madeR (by kernel_rfl)
theorem storeAddresses_holds:Rows.StoreAddressesSaid:=
 OpenClaim.holds_of_wide 5 Tryz.f5 rfl rfl rfl rfl rfl rfl rfl ⟨rfl,rfl,rfl,rfl,rfl⟩ rfl rfl rfl rfl rfl (by kernel_rfl) Tryz.func5 wG
  (of_decide_eq_true (by kernel_rfl)) (by unfold Func.isWrapper;rw [if_neg (by decide +kernel)];exact⟨rfl,rfl⟩)
  (fun os started H enc _=>wH os started H enc)
end Go.Proofs.YtnhnpjokpelkbaaGreat
