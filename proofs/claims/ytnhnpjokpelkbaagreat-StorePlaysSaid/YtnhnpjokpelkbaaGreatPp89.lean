/- What the statement 'garderobelaw15.StorePlays' asks besides its law. -/
import Derived.Test.YtnhnpjokpelkbaaGreatRows
import Derived.Test.YtnhnpjokpelkbaaGreatPp31
import Derived.Test.YtnhnpjokpelkbaaGreatPp9
import Derived.Test.YtnhnpjokpelkbaaGreatPp7
import Derived.Test.YtnhnpjokpelkbaaGreatPp0
set_option linter.unusedVariables false
set_option maxHeartbeats 1000000
namespace Go.Proofs.YtnhnpjokpelkbaaGreat
open Go Go.ChangeShapes Go.WideShapes Go.ChangeAt Go.RowKit
theorem Tryz.ownQ:ownKnob Tryz.prog.godebug=none:=by kernel_rfl
theorem Tryz.laidOutQ:laidOutB Tryz.prog=true:=by kernel_rfl
set_option maxRecDepth 100000 in
theorem aAF(hl:∀ (k:List UInt8)(hk:k.length=16){cnt:Int}(h0:0≤cnt)(h1:cnt≤18446744073709551615)(a:Option Addr)(len cap:Nat)(ys:List Value)(hml0:len≤maxLen),Tri Tryz.prog 7 [.agg (cbs k).toArray,.int .u64 cnt,.slice a len cap] [] (fun w=>aMs w a len cap ys) (fun v H=>v=.bool true))(os:Os)(started:os.Started)(H:Type)(enc:TypeId×Value→H) :
  ReturnsInHanded {} Tryz.checked os 7 .any (Rows.storePlaysSpec.pre6 enc Tryz.prog Tryz.f7 Rows.storePlaysRow.domain false) (Rows.storePlaysSpec.post enc Tryz.prog Tryz.f7 false true false false):=by
 refine returnsInHanded_of_change (C:=Tryz.checked) Tryz.ownQ started (by kernel_rfl) Tryz.func7
  (ChangeSpec.witness6 (enc:=enc) (C:=Tryz.checked) false ⟨#[],#[.agg (Array.replicate 16 (.int .u8 0)),.int .u64 0,.slice none 0 0],[]⟩ 8 (by kernel_rfl) (by kernel_rfl) (by kernel_rfl) (by kernel_rfl)) ?_
 intro W base args ds gs before hval0 hW hcnd _
 have hval:∀ (j:Nat) t v,Tryz.f7.params[j]?=some t→args[j]?=some v→Value.okWide Tryz.prog W .any base t v:=hval0
 have hW':=hW
 obtain⟨p,q,hA0,hV,rfl,hfz,hnd⟩:=hW
 have hA:DataW.TrodAll enc Tryz.prog W 0 (fun _=>true) true Tryz.f7.params.toList args.toList ds p:=hA0
 rw [Tryz.params7] at hA hval
 obtain⟨v0,v1,v2,d0,d1,d2,p0,p1,p2,rfl,rfl,rfl,h0,h1,h2⟩:=trodAll_three hA
 obtain⟨k,hk,rfl⟩:=aJ5 Tryz.underlying32 (by kernel_rfl) (by kernel_rfl) Tryz.underlying5 (hval 0 _ v0 rfl rfl) h0
 obtain⟨cnt,rfl,hc0,hc1⟩:=aJ4 Tryz.underlying33 (hval 1 _ v1 rfl rfl)
 obtain⟨a,len,cap,ys,rfl,hml,hops⟩:=aFI (hval 2 _ v2 rfl rfl) h2
 exact aIi (vs:=[_,_,_]) (hl k hk hc0 hc1 a len cap ys hml) hops Tryz.laidOutQ (by rw [Tryz.params7];decide +kernel) rfl hW' (by kernel_rfl) Tryz.underlying4 rfl
theorem Tryz.mapsRQ:mapsRowed Tryz.prog=true:=by kernel_rfl
theorem Tryz.plainKQ:(Rows.storePlaysRow.plainKeys == Tryz.prog.plainKeys)=true:=by kernel_rfl
theorem Tryz.liftsQ:(Rows.storePlaysRow.lifted == Tryz.prog.liftsFinal)=true:=by kernel_rfl
theorem Tryz.madeQ:(Tryz.prog.make == some Rows.storePlaysRow.make)=true:=by kernel_rfl
theorem Tryz.entersQ:(Rows.storePlaysRow.shortTexts.isNone&&Tryz.prog.stopsHeard&&Tryz.prog.mayEnter)=true:=by kernel_rfl
theorem aC4:(Rows.storePlaysRow.inPlace == Tryz.prog.inPlace 7)=true:=by kernel_rfl
theorem aC5:(Rows.storePlaysRow.unfollowed == Tryz.prog.unfollowed 7)=true:=by kernel_rfl
theorem aC6:(Rows.storePlaysRow.recurses == Tryz.prog.recurses 7)=true:=by kernel_rfl
theorem aC7:(Rows.storePlaysRow.named == Tryz.prog.varsNamed 7)=true:=by kernel_rfl
theorem aAE:joinedFacts Tryz.prog 7 Tryz.f7 Rows.storePlaysSpec Rows.storePlaysRow=true:=
 aJJ (by kernel_rfl) Tryz.laidOutQ Tryz.mapsRQ (by kernel_rfl) aC4 aC5 aC6 aC7 (by kernel_rfl) Tryz.plainKQ Tryz.entersQ Tryz.liftsQ Tryz.madeQ (by kernel_rfl)
theorem aZZ9(hl:∀ (k:List UInt8)(hk:k.length=16){cnt:Int}(h0:0≤cnt)(h1:cnt≤18446744073709551615)(a:Option Addr)(len cap:Nat)(ys:List Value)(hml0:len≤maxLen),Tri Tryz.prog 7 [.agg (cbs k).toArray,.int .u64 cnt,.slice a len cap] [] (fun w=>aMs w a len cap ys) (fun v H=>v=.bool true)):Rows.StorePlaysSaid:=
 OpenClaim.holds_of_wide 7 Tryz.f7 rfl rfl rfl rfl rfl rfl rfl ⟨rfl,rfl,rfl,rfl,rfl⟩ rfl rfl rfl rfl rfl (by kernel_rfl) Tryz.func7 aAE
  (of_decide_eq_true (by kernel_rfl)) (by unfold Func.isWrapper;rw [if_neg (by decide +kernel)];exact⟨rfl,rfl⟩)
  (fun os started H enc _=>aAF hl os started H enc)
end Go.Proofs.YtnhnpjokpelkbaaGreat
