/- A store that is opened: the document's. -/
import Derived.Test.YtmceanmblcadcaaGreatPn30
import Derived.Test.YtmceanmblcadcaaGreatPn31
import Derived.Test.YtmceanmblcadcaaGreatPn25
import Derived.Test.YtmceanmblcadcaaGreatPn29
import Derived.Test.YtmceanmblcadcaaGreatPn10
set_option linter.unusedVariables false
set_option linter.unusedSimpArgs false
set_option linter.unusedSectionVars false
set_option maxHeartbeats 4000000
namespace Go.Proofs.YtmceanmblcadcaaGreat
open Go Go.Proofs.Tryz
section
attribute [local irreducible] SW SL SQ SH SA SS Pu Fin bU aP
theorem aH9{d tr sp p t:Nat}(h:Gm.Ok p t){σ:Dv}{r:Rg}{Hd:Hp}(hD:jY d σ Hd)(hlen:σ.len=256*Gm.total p t)(hr:r.Ok)(wr:Bool) :
  Tri prog 128 [oW d tr sp p t,.bool wr] ((tr,cl (rtc d r) 119)::Hd) (fun _=>True)
  (fun v H=>∃ v1 Hd' Ho,v=.tuple #[v1,.int .i64 (iB p t wr (σ,r)).1]∧jY d (iB p t wr (σ,r)).2.1 Hd'∧aHe v1 d tr sp p t (gY p t wr σ r) Ho ∧
   H=(tr,cl (rtc d (iB p t wr (σ,r)).2.2) 119)::(Hd'++Ho)):=by
 refine Tri.mk func128 rfl ntmps128 rfl fun w hw=>?_
 have hmy:=aBP (tr:=tr) (s:=sp) h hD hlen
 obtain⟨f1,f2,f3⟩:=aCP d hr
 have hll:=Gm.leaves_le h
 have ht:=h.2.2.2
 have hl1:1≤Gm.leaves p:=by unfold Gm.leaves;omega
 have h8:σ.ws.length%8=0:=by unfold Dv.len at hlen;omega
 by_cases hE:wr=true∧r.c=18446744073709551615
 ·obtain⟨rfl,hc⟩:=hE
  have e1:iB p t true (σ,r)=(21,(σ,r)):=by unfold iB;rw [if_pos ⟨rfl,hc⟩]
  have e3:gY p t true σ r=none:=by unfold gY;rw [e1,if_neg (by show ¬ (21:Int)=0;decide)]
  rw [e1,e3]
  refine W.k fun b_=>?_
  refine aH hmy ?_
  rintro _ Hx ⟨rfl,hx⟩
  have hx:=hx.symm
  subst hx
  refine W.k ?_
  refine Fin.to ((tr,cl (rtc d r) 119)::(Hd++[])) ?_
  exact F.f2 ⟨_,Hd,[],rfl,hD,⟨rfl,rfl⟩,rfl⟩
 have hlk:=aH8 (tr:=tr) (sp:=sp) h hD hlen hr
 cases wr with
 | false=>
  refine W.k fun b_=>?_
  refine aH hmy ?_
  rintro _ Hx ⟨rfl,hx⟩
  have hx:=hx.symm
  subst hx
  refine W.k ?_
  refine aH hlk ?_
  rintro _ _ (⟨hdn,rfl,rfl⟩|⟨hdn,v1,cv,ev,Hb,rfl,oe,hB,rfl⟩)
  ·have e1:iB p t false (σ,r)=(8,(σ,r)):=by unfold iB;rw [if_neg hE,if_pos hdn]
   have e3:gY p t false σ r=none:=by unfold gY;rw [e1,if_neg (by show ¬ (8:Int)=0;decide)]
   rw [e1,e3]
   refine W.k fun b_=>?_
   refine Fin.to ((tr,cl (rtc d r) 119)::(Hd++[])) ?_
   exact F.f2 ⟨_,Hd,[],rfl,hD,⟨rfl,rfl⟩,rfl⟩
  have hlo:=yX (r:=r) hD.1 hdn hlen
  have hB1:=hB.one
  obtain⟨vs,Hv,Ht,hSv,hRv,rfl⟩:=hB
  obtain⟨va,vl,vc,rfl,hvl⟩:=hSv.form
  rw [Nat.mul_one,hRv.1,hlo.1] at hvl
  subst hvl
  by_cases h3:(fE p t σ r).1=3
  ·have e1:iB p t false (σ,r)=(20,(σ,r)):=by unfold iB;rw [if_neg hE,if_neg (by show ¬ σ.down=true;rw [hdn];decide),if_pos h3]
   have e3:gY p t false σ r=none:=by unfold gY;rw [e1,if_neg (by show ¬ (20:Int)=0;decide)]
   rw [e1,e3,h3]
   refine W.k fun b_=>?_
   refine Fin.to ((tr,cl (rtc d r) 119)::(Hd++[])) ?_
   exact F.f2 ⟨_,Hd,[],rfl,hD,⟨rfl,rfl⟩,rfl⟩
  have e1:=qO hE hdn h3
  have e3:gY p t false σ r=if (oV p t false (fE p t σ r).2 (σ,r)).1=0 then some ⟨kW p (fE p t σ r).2,eR (fE p t σ r).2,false,0⟩ else none:=by unfold gY;rw [e1]
  rw [e1,e3]
  clear e1 e3 hlk
  have hkn:¬ (((fE p t σ r).1:Nat):Int)=3:=oQ
  generalize (fE p t σ r).2=B at *
  generalize (fE p t σ r).1=kd at *
  obtain⟨hBl,hb256⟩:=hlo
  have hF:oV p t false B (σ,r)=(cX p t B).t.and (if false=true then fV else fun σ=>(0,σ)) (σ,r):=by unfold oV;rfl
  generalize hFF:oV p t false B (σ,r)=FF at *
  have hwt:∀ x,(cX p t B).t (x,r)=((cX p t B x).1,(cX p t B x).2,r):=fun _=>rfl
  refine W.k fun b_=>?_
  refine aH (xO h _ vs B hRv hBl hb256) ?_ (hpre:=fun w2 hs=>Rd.own (Hc:=Ht) hSv hs inferInstance)
  rintro v8 _ ⟨Hep,hSp,rfl⟩
  have hSp1:=hSp.isOne
  refine W.j ?_
  generalize b_=b6 at *
  refine bZ [1,2,6,8] Hd (fun _:Dv×Hp=>[]) (fun x=>x.2) (fun x=>jY d x.1 x.2∧putL (gJ 0 B) σ=(0,x.1)) ?_ ?_
  ·have hSv0:=hSv
   rcases hSv with ⟨hz,hz2,-⟩|⟨bb,len,cap,junk,hz,hxl,hj,hlc2,rfl⟩
   ·simp only [Value.slice.injEq] at hz
    obtain⟨-,hz,-⟩:=hz
    omega
   simp only [Value.slice.injEq] at hz
   obtain⟨rfl,rfl,rfl⟩:=hz
   refine W.k ?_
   refine bH [1,2,6,8,41,42] (fun x:Nat×Dv×Hp=>[(43,.int .i64 (x.1:Int))]) (fun x=>x.2.2) (fun x=>B.length-x.1) (fun x=>x.1≤B.length∧jY d x.2.1 x.2.2∧putL (gJ 0 (B.take x.1)) σ=(0,x.2.1)) (0,σ,Hd) ⟨Nat.zero_le _,hD,by rw [dF];rfl⟩ ?_
   rintro⟨k,σ2,Hd2⟩ ⟨hk,hD2,hp⟩
   dsimp only at hk hD2 hp ⊢
   by_cases hkB:k<B.length
   ·have hbk:=aA hkB
    obtain⟨u,hu1,hu2⟩:=hRv.2 k _ hbk
    have hv:(vs++junk)[k]?=some u:=by rw [aK (by rw [hRv.1];exact hkB)];exact hu1
    have huo:=hu2.one
    have hbl2:=hb256 _ (dO hkB)
    have hwl2:σ2.ws.length=σ.ws.length:=by have:=mL (gJ 0 (B.take k)) σ;rw [hp] at this;exact this
    have hpt:=aBO (tr:=tr) (s:=sp) (p:=p) (t:=t) hD2 (by rw [hwl2];exact h8) k oQ u B[k] oQ
    have htl:(B.take k).length=k:=by rw [aI];omega
    have hs1:putL (gJ 0 (B.take (k+1))) σ=if (fU k B[k] σ2).1=0 then (0,(fU k B[k] σ2).2) else fU k B[k] σ2:=by
     rw [bG,hbk,dT,qV,nI,htl,eX]
     show DS.and _ ((fU k B[k]).and fun σ=>(0,σ)) σ=_
     unfold DS.and
     rw [hp]
     simp
    have hs2:(fU k B[k] σ2).1≠0→putL (gJ 0 B) σ=fU k B[k] σ2:=fun hne=>by
     have e:gJ 0 B=gJ 0 (B.take (k+1))++gJ (0+(B.take (k+1)).length) (B.drop (k+1)):=by rw [← wI,dE]
     rw [e,nI]
     unfold DS.and
     rw [hs1,if_neg hne,if_neg hne]
    generalize B[k]=bk at *
    refine W.k ?_
    refine aH hpt ?_ (hpre:=fun w2 hs=>hu2.rd (Hc:=Hd2) hs)
    rintro _ Hd3 ⟨rfl,hD3⟩
    by_cases hz0:(fU k bk σ2).1=0
    ·rw [if_pos hz0] at hs1
     refine W.k ?_
     refine aP.mk (k+1,(fU k bk σ2).2,Hd3) ?_
     exact⟨hkB,hD3,hs1⟩
    ·have he:=hs2 hz0
     have ewS:cX p t B σ=fU k bk σ2:=by
      have e1:gG B σ=fU k bk σ2:=by rw [← he];exact DS.and_ne (by rw [he];exact hz0)
      rw [← e1];exact DS.and_ne (by rw [e1];exact hz0)
     have eF:FF=((fU k bk σ2).1,(fU k bk σ2).2,r):=by
      rw [hF,TS.and_ne (by rw [hwt,ewS];exact hz0),hwt,ewS]
     rw [eF,if_neg hz0]
     refine W.k ?_
     refine Fin.to ((tr,cl (rtc d r) 119)::(Hd3++[])) ?_
     exact F.f2 ⟨_,Hd3,[],rfl,hD3,⟨rfl,rfl⟩,rfl⟩
   ·have hkn:k=B.length:=oQ
    rw [hkn,cK] at hp
    subst hkn
    refine W.k ?_
    refine bU.mk (σ2,Hd2) ?_
    exact⟨hD2,hp⟩
  rintro⟨σ2,Hd2⟩ ⟨hD2,hp⟩
  dsimp only at hD2 hp ⊢
  have hwl2:σ2.ws.length=σ.ws.length:=by have:=mL (gJ 0 B) σ;rw [hp] at this;exact this
  have e1:gG B σ=feS σ2:=DS.and_eq hp
  have hfe:=wG hD2
  have hfwl:σ2.fence.ws.length=σ2.ws.length:=sQ σ2
  by_cases hz0:(feS σ2).1=0
  ·have ef0:σ2.actR 0 0=0:=hz0
   have e2:cX p t B σ=gM (Gm.leaves p) (1+t) σ2.fence:=by
    unfold cX
    rw [DS.and_eq (y:=σ2.fence) (by rw [e1];exact wD hz0)]
   rw [ef0] at hfe
   refine W.k ?_
   refine aH hfe ?_
   rintro _ Hd3 ⟨rfl,hD3⟩
   have hsc:=aAv (tr:=tr) (s:=sp) h hD3 (by rw [hfwl,hwl2];exact h8) (1+t) oQ
   rw [show ((1+t:Nat):Int)=1+(t:Int) by omega] at hsc
   generalize hsq:gM (Gm.leaves p) (1+t) σ2.fence=SQ2 at *
   obtain⟨es,σ3⟩:=SQ2
   dsimp only at hsc
   refine W.k ?_
   refine aH hsc ?_
   rintro _ Hd4 ⟨rfl,hD4⟩
   by_cases hz1:es=0
   ·subst hz1
    have eF:FF=(if false=true then fV else fun σ=>(0,σ)) (σ3,r):=by rw [hF,TS.and_eq (y:=(σ3,r)) (by rw [hwt,e2])]
    have eF2:FF=(0,σ3,r):=eF
    rw [eF2,if_pos rfl]
    have hlv:=uA (.slice va (Gm.leaves p) vc) vs B hRv oQ hb256
    refine W.k ?_
    (refine SW.l [7] [0,1,2,3,5] ?_;refine aU 4 ?_)
    refine aH hlv ?_ (hpre:=fun w2 hs=>Rd.own (Hc:=Ht) hSv hs inferInstance)
    rintro v9 _ ⟨H9,h9,rfl⟩
    have h91:=h9.isOne
    obtain⟨a9,l9,c9,rfl,-⟩:=h9.form
    obtain⟨a8,l8,c8,rfl,-⟩:=hSp.form
    have hbd:bP (fun i=>[(0,5),(5,1),(6,1),(7,1),(8,1)][i]?) (List.replicate 3 (.pointer none)++[.int .i64 0,.int .i64 0]++[.slice none 0 0,.slice none 0 0]++[.bool false]++[.int .i64 0]) [(0,oW d tr sp p t),(1,.slice a8 l8 c8),(2,.slice a9 l9 c9),(3,.bool false)]=some [ptv d,ptv tr,ptv sp,.int .i64 (p:Int),.int .i64 (t:Int),.slice a8 l8 c8,.slice a9 l9 c9,.bool false,.int .i64 0]:=rfl
    (refine SL.l [6] ?_;refine cQ 7 ?_;refine W.i fun b_=>?_;refine SG.l [8,9,10] ?_)
    refine W.k ?_
    refine Fin.to ((tr,cl (rtc d r) 119)::(Hd4++((b_,cl [ptv d,ptv tr,ptv sp,.int .i64 (p:Int),.int .i64 (t:Int),.slice a8 l8 c8,.slice a9 l9 c9,.bool false,.int .i64 0] 315)::(Hep++H9)))) ?_
    exact F.f2 ⟨_,Hd4,_,rfl,hD4,⟨b_,rfl,_,_,Hep,H9,rfl,hSp,h9⟩,rfl⟩
   ·have eF:FF=(es,σ3,r):=by rw [hF,TS.and_ne (by rw [hwt,e2];exact hz1),hwt,e2]
    rw [eF,if_neg hz1]
    refine W.k ?_
    refine Fin.to ((tr,cl (rtc d r) 119)::(Hd4++[])) ?_
    exact F.f2 ⟨_,Hd4,[],rfl,hD4,⟨rfl,rfl⟩,rfl⟩
  ·have e2:cX p t B σ=feS σ2:=by rw [← e1];exact DS.and_ne (by rw [e1];exact hz0)
   have eF:FF=((feS σ2).1,(feS σ2).2,r):=by rw [hF,TS.and_ne (by rw [hwt,e2];exact hz0),hwt,e2]
   rw [eF,if_neg hz0]
   have ef0:¬ σ2.actR 0 0=0:=hz0
   refine W.k ?_
   refine aH hfe ?_
   rintro _ Hd3 ⟨rfl,hD3⟩
   refine W.k ?_
   refine Fin.to ((tr,cl (rtc d r) 119)::(Hd3++[])) ?_
   exact F.f2 ⟨_,Hd3,[],rfl,hD3,⟨rfl,rfl⟩,rfl⟩
 | true=>
  have hcn:¬ r.c=18446744073709551615:=fun hc=>hE ⟨rfl,hc⟩
  have hlt:r.c<18446744073709551615:=by have:=hr.c1;omega
  refine W.k fun b_=>?_
  refine aH hmy ?_
  rintro _ Hx ⟨rfl,hx⟩
  have hx:=hx.symm
  subst hx
  refine W.k ?_
  refine aH hlk ?_
  rintro _ _ (⟨hdn,rfl,rfl⟩|⟨hdn,v1,cv,ev,Hb,rfl,oe,hB,rfl⟩)
  ·have e1:iB p t true (σ,r)=(8,(σ,r)):=by unfold iB;rw [if_neg hE,if_pos hdn]
   have e3:gY p t true σ r=none:=by unfold gY;rw [e1,if_neg (by show ¬ (8:Int)=0;decide)]
   rw [e1,e3]
   refine W.k fun b_=>?_
   refine Fin.to ((tr,cl (rtc d r) 119)::(Hd++[])) ?_
   exact F.f2 ⟨_,Hd,[],rfl,hD,⟨rfl,rfl⟩,rfl⟩
  have hlo:=yX (r:=r) hD.1 hdn hlen
  have hB1:=hB.one
  obtain⟨vs,Hv,Ht,hSv,hRv,rfl⟩:=hB
  obtain⟨va,vl,vc,rfl,hvl⟩:=hSv.form
  rw [Nat.mul_one,hRv.1,hlo.1] at hvl
  subst hvl
  by_cases h3:(fE p t σ r).1=3
  ·have e1:iB p t true (σ,r)=(20,(σ,r)):=by unfold iB;rw [if_neg hE,if_neg (by show ¬ σ.down=true;rw [hdn];decide),if_pos h3]
   have e3:gY p t true σ r=none:=by unfold gY;rw [e1,if_neg (by show ¬ (20:Int)=0;decide)]
   rw [e1,e3,h3]
   refine W.k fun b_=>?_
   refine Fin.to ((tr,cl (rtc d r) 119)::(Hd++[])) ?_
   exact F.f2 ⟨_,Hd,[],rfl,hD,⟨rfl,rfl⟩,rfl⟩
  have e1:=qO hE hdn h3
  have e3:gY p t true σ r=if (oV p t true (fE p t σ r).2 (σ,r)).1=0 then some ⟨kW p (fE p t σ r).2,eR (fE p t σ r).2,true,0⟩ else none:=by unfold gY;rw [e1]
  rw [e1,e3]
  clear e1 e3 hlk
  have hkn:¬ (((fE p t σ r).1:Nat):Int)=3:=oQ
  generalize (fE p t σ r).2=B at *
  generalize (fE p t σ r).1=kd at *
  obtain⟨hBl,hb256⟩:=hlo
  have hF:oV p t true B (σ,r)=(cX p t B).t.and (if true=true then fV else fun σ=>(0,σ)) (σ,r):=by unfold oV;rfl
  generalize hFF:oV p t true B (σ,r)=FF at *
  have hwt:∀ x,(cX p t B).t (x,r)=((cX p t B x).1,(cX p t B x).2,r):=fun _=>rfl
  refine W.k fun b_=>?_
  refine aH (xO h _ vs B hRv hBl hb256) ?_ (hpre:=fun w2 hs=>Rd.own (Hc:=Ht) hSv hs inferInstance)
  rintro v8 _ ⟨Hep,hSp,rfl⟩
  have hSp1:=hSp.isOne
  refine W.j ?_
  generalize b_=b6 at *
  refine bZ [1,2,6,8] Hd (fun _:Dv×Hp=>[]) (fun x=>x.2) (fun x=>jY d x.1 x.2∧putL (gJ 0 B) σ=(0,x.1)) ?_ ?_
  ·have hSv0:=hSv
   rcases hSv with ⟨hz,hz2,-⟩|⟨bb,len,cap,junk,hz,hxl,hj,hlc2,rfl⟩
   ·simp only [Value.slice.injEq] at hz
    obtain⟨-,hz,-⟩:=hz
    omega
   simp only [Value.slice.injEq] at hz
   obtain⟨rfl,rfl,rfl⟩:=hz
   refine W.k ?_
   refine bH [1,2,6,8,41,42] (fun x:Nat×Dv×Hp=>[(43,.int .i64 (x.1:Int))]) (fun x=>x.2.2) (fun x=>B.length-x.1) (fun x=>x.1≤B.length∧jY d x.2.1 x.2.2∧putL (gJ 0 (B.take x.1)) σ=(0,x.2.1)) (0,σ,Hd) ⟨Nat.zero_le _,hD,by rw [dF];rfl⟩ ?_
   rintro⟨k,σ2,Hd2⟩ ⟨hk,hD2,hp⟩
   dsimp only at hk hD2 hp ⊢
   by_cases hkB:k<B.length
   ·have hbk:=aA hkB
    obtain⟨u,hu1,hu2⟩:=hRv.2 k _ hbk
    have hv:(vs++junk)[k]?=some u:=by rw [aK (by rw [hRv.1];exact hkB)];exact hu1
    have huo:=hu2.one
    have hbl2:=hb256 _ (dO hkB)
    have hwl2:σ2.ws.length=σ.ws.length:=by have:=mL (gJ 0 (B.take k)) σ;rw [hp] at this;exact this
    have hpt:=aBO (tr:=tr) (s:=sp) (p:=p) (t:=t) hD2 (by rw [hwl2];exact h8) k oQ u B[k] oQ
    have htl:(B.take k).length=k:=by rw [aI];omega
    have hs1:putL (gJ 0 (B.take (k+1))) σ=if (fU k B[k] σ2).1=0 then (0,(fU k B[k] σ2).2) else fU k B[k] σ2:=by
     rw [bG,hbk,dT,qV,nI,htl,eX]
     show DS.and _ ((fU k B[k]).and fun σ=>(0,σ)) σ=_
     unfold DS.and
     rw [hp]
     simp
    have hs2:(fU k B[k] σ2).1≠0→putL (gJ 0 B) σ=fU k B[k] σ2:=fun hne=>by
     have e:gJ 0 B=gJ 0 (B.take (k+1))++gJ (0+(B.take (k+1)).length) (B.drop (k+1)):=by rw [← wI,dE]
     rw [e,nI]
     unfold DS.and
     rw [hs1,if_neg hne,if_neg hne]
    generalize B[k]=bk at *
    refine W.k ?_
    refine aH hpt ?_ (hpre:=fun w2 hs=>hu2.rd (Hc:=Hd2) hs)
    rintro _ Hd3 ⟨rfl,hD3⟩
    by_cases hz0:(fU k bk σ2).1=0
    ·rw [if_pos hz0] at hs1
     refine W.k ?_
     refine aP.mk (k+1,(fU k bk σ2).2,Hd3) ?_
     exact⟨hkB,hD3,hs1⟩
    ·have he:=hs2 hz0
     have ewS:cX p t B σ=fU k bk σ2:=by
      have e1:gG B σ=fU k bk σ2:=by rw [← he];exact DS.and_ne (by rw [he];exact hz0)
      rw [← e1];exact DS.and_ne (by rw [e1];exact hz0)
     have eF:FF=((fU k bk σ2).1,(fU k bk σ2).2,r):=by
      rw [hF,TS.and_ne (by rw [hwt,ewS];exact hz0),hwt,ewS]
     rw [eF,if_neg hz0]
     refine W.k ?_
     refine Fin.to ((tr,cl (rtc d r) 119)::(Hd3++[])) ?_
     exact F.f2 ⟨_,Hd3,[],rfl,hD3,⟨rfl,rfl⟩,rfl⟩
   ·have hkn:k=B.length:=oQ
    rw [hkn,cK] at hp
    subst hkn
    refine W.k ?_
    refine bU.mk (σ2,Hd2) ?_
    exact⟨hD2,hp⟩
  rintro⟨σ2,Hd2⟩ ⟨hD2,hp⟩
  dsimp only at hD2 hp ⊢
  have hwl2:σ2.ws.length=σ.ws.length:=by have:=mL (gJ 0 B) σ;rw [hp] at this;exact this
  have e1:gG B σ=feS σ2:=DS.and_eq hp
  have hfe:=wG hD2
  have hfwl:σ2.fence.ws.length=σ2.ws.length:=sQ σ2
  by_cases hz0:(feS σ2).1=0
  ·have ef0:σ2.actR 0 0=0:=hz0
   have e2:cX p t B σ=gM (Gm.leaves p) (1+t) σ2.fence:=by
    unfold cX
    rw [DS.and_eq (y:=σ2.fence) (by rw [e1];exact wD hz0)]
   rw [ef0] at hfe
   refine W.k ?_
   refine aH hfe ?_
   rintro _ Hd3 ⟨rfl,hD3⟩
   have hsc:=aAv (tr:=tr) (s:=sp) h hD3 (by rw [hfwl,hwl2];exact h8) (1+t) oQ
   rw [show ((1+t:Nat):Int)=1+(t:Int) by omega] at hsc
   generalize hsq:gM (Gm.leaves p) (1+t) σ2.fence=SQ2 at *
   obtain⟨es,σ3⟩:=SQ2
   dsimp only at hsc
   refine W.k ?_
   refine aH hsc ?_
   rintro _ Hd4 ⟨rfl,hD4⟩
   by_cases hz1:es=0
   ·subst hz1
    have eF:FF=(if true=true then fV else fun σ=>(0,σ)) (σ3,r):=by rw [hF,TS.and_eq (y:=(σ3,r)) (by rw [hwt,e2])]
    have hbm:=aEi (tr:=tr) (s:=sp) (p:=p) (t:=t) hD4 hr hlt
    have eF2:FF=fV (σ3,r):=eF
    rw [eF2]
    clear eF eF2 hF hFF
    generalize fV (σ3,r)=G at *
    obtain⟨eb,σ4,r4⟩:=G
    dsimp only at hbm ⊢
    refine W.k ?_
    refine aH hbm ?_
    rintro _ _ ⟨rfl,Hd5,hD5,rfl⟩
    by_cases hz2:eb=0
    ·subst hz2
     rw [if_pos rfl]
     have hlv:=uA (.slice va (Gm.leaves p) vc) vs B hRv oQ hb256
     refine W.k ?_
     (refine SW.l [7] [0,1,2,3,5] ?_;refine aU 4 ?_)
     refine aH hlv ?_ (hpre:=fun w2 hs=>Rd.own (Hc:=Ht) hSv hs inferInstance)
     rintro v9 _ ⟨H9,h9,rfl⟩
     have h91:=h9.isOne
     obtain⟨a9,l9,c9,rfl,-⟩:=h9.form
     obtain⟨a8,l8,c8,rfl,-⟩:=hSp.form
     have hbd:bP (fun i=>[(0,5),(5,1),(6,1),(7,1),(8,1)][i]?) (List.replicate 3 (.pointer none)++[.int .i64 0,.int .i64 0]++[.slice none 0 0,.slice none 0 0]++[.bool false]++[.int .i64 0]) [(0,oW d tr sp p t),(1,.slice a8 l8 c8),(2,.slice a9 l9 c9),(3,.bool true)]=some [ptv d,ptv tr,ptv sp,.int .i64 (p:Int),.int .i64 (t:Int),.slice a8 l8 c8,.slice a9 l9 c9,.bool true,.int .i64 0]:=rfl
     (refine SL.l [6] ?_;refine cQ 7 ?_;refine W.i fun b_=>?_;refine SG.l [8,9,10] ?_)
     refine W.k ?_
     refine Fin.to ((tr,cl (rtc d r4) 119)::(Hd5++((b_,cl [ptv d,ptv tr,ptv sp,.int .i64 (p:Int),.int .i64 (t:Int),.slice a8 l8 c8,.slice a9 l9 c9,.bool true,.int .i64 0] 315)::(Hep++H9)))) ?_
     exact F.f2 ⟨_,Hd5,_,rfl,hD5,⟨b_,rfl,_,_,Hep,H9,rfl,hSp,h9⟩,rfl⟩
    ·rw [if_neg hz2]
     refine W.k ?_
     refine Fin.to ((tr,cl (rtc d r4) 119)::(Hd5++[])) ?_
     exact F.f2 ⟨_,Hd5,[],rfl,hD5,⟨rfl,rfl⟩,rfl⟩
   ·have eF:FF=(es,σ3,r):=by rw [hF,TS.and_ne (by rw [hwt,e2];exact hz1),hwt,e2]
    rw [eF,if_neg hz1]
    refine W.k ?_
    refine Fin.to ((tr,cl (rtc d r) 119)::(Hd4++[])) ?_
    exact F.f2 ⟨_,Hd4,[],rfl,hD4,⟨rfl,rfl⟩,rfl⟩
  ·have e2:cX p t B σ=feS σ2:=by rw [← e1];exact DS.and_ne (by rw [e1];exact hz0)
   have eF:FF=((feS σ2).1,(feS σ2).2,r):=by rw [hF,TS.and_ne (by rw [hwt,e2];exact hz0),hwt,e2]
   rw [eF,if_neg hz0]
   have ef0:¬ σ2.actR 0 0=0:=hz0
   refine W.k ?_
   refine aH hfe ?_
   rintro _ Hd3 ⟨rfl,hD3⟩
   refine W.k ?_
   refine Fin.to ((tr,cl (rtc d r) 119)::(Hd3++[])) ?_
   exact F.f2 ⟨_,Hd3,[],rfl,hD3,⟨rfl,rfl⟩,rfl⟩
theorem aHT{pp p t n N:Nat}{ws ws':List (List UInt8)}{σ:Dv}{r:Rg}{sr:Sr}{β:Bk}{o:Option So}{H:Hp}(h:Gm.Ok p t)(hP:aBV pp p t n N ws ws' σ r sr β o H)(hlen:σ.len=256*Gm.total p t)(hr:r.Ok)(wr:Bool) :
  Tri prog 70 [ptv pp,.bool wr] H (fun _=>True) (fun v H'=>v=.bool true ∧
   aBV pp p t n N ws ws' (iB p t wr (σ,r)).2.1 (iB p t wr (σ,r)).2.2 sr (pL p t wr σ r β) (gY p t wr σ r) H'):=by
 obtain⟨i,sv,rv,Hd,Hs,Hk,HD,HR,HS,HT,hD,hS,hB,hDR,hSR,hO,hOR,rfl⟩:=hP
 refine Tri.mk func70 rfl ntmps70 rfl fun w hw=>?_
 have hF:=aIX (tr:=i.tr) (s:=i.s) h hD hlen hr hB wr
 have hG:=aH9 (tr:=i.rtr) (sp:=i.rs) h hDR hlen hr wr
 have o1:=hO.one
 have o2:=hOR.one
 have hz:gY p t wr σ r=if (iB p t wr (σ,r)).1=0 then some ⟨kW p (fE p t σ r).2,eR (fE p t σ r).2,wr,0⟩ else none:=rfl
 generalize gY p t wr σ r=oo at *
 generalize pL p t wr σ r β=β2 at *
 generalize iB p t wr (σ,r)=FF at *
 obtain⟨e,σ2,r2⟩:=FF
 dsimp only at hF hG hz ⊢
 refine W.k ?_
 refine aH hF ?_
 rintro _ _ ⟨v1,Hd2,Hk2,HS2,Hx,rfl,hD2,hB2,hO2,rfl⟩
 have o3:=hO2.one
 refine W.k ?_
 refine aH hG ?_
 rintro _ _ ⟨v2,HD2,HT2,rfl,hDR2,hOR2,rfl⟩
 have o4:=hOR2.one
 have hO3:=hO2
 by_cases he:e=0
 ·rw [if_pos he] at hz
  subst hz
  subst he
  obtain⟨sp,rfl,-⟩:=hO2
  refine W.k ?_
  rw [show ((uN i p t sv rv).set 6 (ptv sp)).set 12 v2=uN i p t (ptv sp) v2 from rfl]
  refine Fin.to ((pp,cl (uN i p t (ptv sp) v2) 47)::(i.tr,cl (trc i.d r2) 200)::(i.rtr,cl (rtc i.rd r2) 119)::(Hd2++(Hs++(Hk2++(HD2++(HR++(HS2++HT2))))))) ?_
  exact F.f1 ⟨rfl,i,_,v2,Hd2,Hs,Hk2,HD2,HR,HS2,HT2,hD2,hS,hB2,hDR2,hSR,hO3,hOR2,rfl⟩
 ·rw [if_neg he] at hz
  subst hz
  obtain⟨rfl,-⟩:=hO2
  refine W.k ?_
  rw [show ((uN i p t sv rv).set 6 (.pointer none)).set 12 v2=uN i p t (.pointer none) v2 from rfl]
  refine Fin.to ((pp,cl (uN i p t (.pointer none) v2) 47)::(i.tr,cl (trc i.d r2) 200)::(i.rtr,cl (rtc i.rd r2) 119)::(Hd2++(Hs++(Hk2++(HD2++(HR++(HS2++HT2))))))) ?_
  exact F.f1 ⟨rfl,i,_,v2,Hd2,Hs,Hk2,HD2,HR,HS2,HT2,hD2,hS,hB2,hDR2,hSR,hO3,hOR2,rfl⟩
theorem aCD{p t:Nat}{σ:Dv}{r:Rg}{n:Nat}{B:List (List UInt8)}{R:List UInt8}(h:σ.Sta n (B.flatten++R))(hn:8*n=256*Gm.total p t)(hB:∀ b∈B,b.length=256)(hBl:B.length=Gm.leaves p)(hr:r.root=fS B)(hs:B.getD 0 []=gA p t):fE p t σ r=(1,B):=by
 have htot:Gm.total p t=Gm.leaves p+(1+t):=rfl
 have hbk:=h.blks hB oQ
 rw [hBl] at hbk
 unfold fE
 rw [hbk]
 exact rJ (by unfold kJ;rw [hr,hs];simp)
theorem aFk{p t:Nat}{σ:Dv}{n:Nat}{M:List UInt8}{B:List (List UInt8)}(h1:σ.Sta n M)(hn:8*n=256*Gm.total p t)(h256:∀ b∈B,b.length=256)(hbl:B.length=Gm.leaves p) :
  (cX p t B σ).1=0∧(cX p t B σ).2.Sta n (B.flatten++List.replicate (256*(1+t)) 0):=by
 have htot:Gm.total p t=Gm.leaves p+(1+t):=rfl
 have hfl:B.flatten.length=256*B.length:=by
  clear hbl
  induction B with
  | nil=>rfl
  | cons x r ih=>rw [dR,aB,h256 x (by simp),ih (fun y hy=>h256 y (by simp [hy])),aY];omega
 have hM:=h1.ml
 have hD:(cX p t B σ).1=0∧(cX p t B σ).2.Sta n (spl (spl M (256*0) B.flatten) (256*Gm.leaves p) (List.replicate (256*(1+t)) 0)):=by
  refine DS.and_sta (DS.and_sta (Dv.Sta.putL B h1 0 h256 (by rw [hbl];omega)) fun τ ht=>ht.fence) fun τ ht=>?_
  refine DS.and_sta (a:=fU (Gm.leaves p) (List.replicate (256*(1+t)) 0)) (ht.put (by rw [aM];omega)) fun τ' ht'=>ht'.fence
 have es:spl (spl M (256*0) B.flatten) (256*Gm.leaves p) (List.replicate (256*(1+t)) 0)=B.flatten++List.replicate (256*(1+t)) 0:=by
  rw [show 256*Gm.leaves p=256*0+B.flatten.length by rw [hfl,hbl];omega,aBS _ _ _ _ (by rw [hfl,hbl,aM];omega)]
  unfold spl
  rw [show 256*0=0 from rfl,dF,List.nil_append,cD (by rw [aB,hfl,hbl,aM];omega),aE]
 rwa [es] at hD
theorem aGq{p t:Nat}{σ:Dv}{r:Rg}{n:Nat}{B:List (List UInt8)}{R:List UInt8}(h:σ.Sta n (B.flatten++R))(hn:8*n=256*Gm.total p t)(hB:∀ b∈B,b.length=256)(hBl:B.length=Gm.leaves p)(hr:r.root=fS B)(hs:B.getD 0 []=gA p t)(hc:r.c<18446744073709551615) :
  ∃ σ',iB p t true (σ,r)=(0,(σ',{ r with c:=r.c+1 }))∧σ'.Sta n (B.flatten++List.replicate (256*(1+t)) 0):=by
 have hl:=aCD h hn hB hBl hr hs
 rw [qO (fun hh=>by have:=hh.2;omega) h.l.d (by rw [hl];show 1≠3;decide),hl]
 obtain⟨e2,h2⟩:=aFk (p:=p) (t:=t) h hn hB hBl
 obtain⟨σ3,e3,h3⟩:=zQ (r:=r) h2 { r with c:=r.c+1 } (by show r.c<r.c+1;omega)
 refine⟨σ3,?_,h3⟩
 unfold oV
 rw [TS.and_eq (y:=((cX p t B σ).2,r)) (by unfold DS.t;dsimp only;rw [e2]),if_pos rfl]
 exact e3
def aLe(k:List UInt8)(pp b:Nat)(most:Int)(l:Bl)(H:Hp):Prop:=
 ∃ (i:Pid) (sp:Nat) (rv:Value) (σ:Dv) (x:So) (sr:Sr) (β:Bk) (Hd Hs Hk HS HB:Hp),gO i.d σ Hd∧mE i.s i.c i.b 10 (Aes.sched k) sr Hs∧fB i.bk i.tb β Hk∧sL sp i.d i.tr i.s i.bk 3 4 x HS∧yH b sp most l HB ∧
  x.Ok 3∧x.st=0∧σ.len=256*Gm.total 3 4∧(∀ j:Nat,j<5→rdS 3 (dH (Aes.enc (Aes.sched k) 10)) (j:Int) σ x=(0,List.replicate 256 0,x)) ∧
  H=(pp,cl (uN i 3 4 (ptv sp) rv) 47)::(Hd++(Hs++(Hk++(HS++HB))))
theorem aEF(k:List UInt8)(hk:k.length=16){most:Int}(h0:0≤most):Tri prog 78 [.agg (cbs k).toArray,.int .i64 most] [] (fun _=>True)
  (fun v H=>∃ pp b rb,v=.tuple #[ptv pp,ptv b,ptv rb,.bool true]∧aLe k pp b most [] H):=by
 refine Tri.mk func78 rfl ntmps78 rfl fun w hw=>?_
 have hk0:(cbs k).length=16:=by rw [aF];exact hk
 obtain⟨σ',hF,hSta⟩:=aHN aEW (E:=Aes.enc (Aes.sched k) 10) (fun x=>Aes.enc_len ..) (cnt:=0) dQ dQ dQ
 have hB:=mS (p:=3) (t:=4) (E:=Aes.enc (Aes.sched k) 10) (fun x=>Aes.enc_len ..) (UInt64.ofNat ((0:Int)+2).toNat)
 have hBl:=oS 3 4 (dH (Aes.enc (Aes.sched k) 10)) (UInt64.ofNat ((0:Int)+2).toNat)
 have hB0:(fI 3 4 (dH (Aes.enc (Aes.sched k) 10)) (UInt64.ofNat ((0:Int)+2).toNat)).getD 0 []=gA 3 4:=rfl
 have hX:=aI8 k hk
 have hK:=aAA k hk
 have hK':=aFd k hk
 have hbeg:=aFN aEW k hk (cnt:=0) dQ dQ
 have hpf:=fun pp H hP=>aEZ (pp:=pp) (H:=H) (o:=none) (N:=0) (sr:=Sr.new) (β:=Bk.new) (σ:=Dv.new (4*Gm.total 3 4:Nat)) (r:=rg0 0) aEW hP (by have:=(aD7 (4*Gm.total 3 4) dQ).len;omega) (aGJ dQ dQ) hK hK' oQ hX
 rw [hF] at hpf
 have hfr:=fun (τ:Dv) (n:Nat) (R:List UInt8) (h:τ.Sta n ((fI 3 4 (dH (Aes.enc (Aes.sched k) 10)) (UInt64.ofNat ((0:Int)+2).toNat)).flatten++R)) (hn:8*n=256*Gm.total 3 4) (j:Nat) (hj:j<5)=>aDo (e:=UInt64.ofNat ((0:Int)+2).toNat) rfl (E:=Aes.enc (Aes.sched k) 10) (fun x=>Aes.enc_len ..) h hn hj true
 generalize rV 3 (Dv.new (4*Gm.total 3 4:Nat)) (rg0 0) Sr.new=sr at *
 generalize yN 3 4 10 (Aes.sched k) (Dv.new (4*Gm.total 3 4:Nat)) (rg0 0) Bk.new=β at *
 generalize hXX:dH (Aes.enc (Aes.sched k) 10)=X at *
 generalize fI 3 4 X (UInt64.ofNat ((0:Int)+2).toNat)=B at *
 have hrl:(fS B).length=32:=Sha.sum_len _
 have hlen:σ'.len=256*Gm.total 3 4:=by rw [hSta.len];rfl
 generalize hrr:({ c:=0+2,root:=fS B }:Rg)=r2 at *
 have hr2:r2.Ok:=by rw [← hrr];exact⟨hrl,by show (0:Int)≤0+2;decide,by show (0:Int)+2≤_;decide⟩
 obtain⟨σ3,hO,hS3⟩:=aGq (r:=r2) hSta (by rfl) hB hBl (by rw [← hrr]) hB0 (by rw [← hrr];show (0:Int)+2<_;decide)
 have hlk:fE 3 4 σ' r2=(1,B):=aCD hSta (by rfl) hB hBl (by rw [← hrr]) hB0
 have hpo:=fun pp H hP=>aHT (pp:=pp) (H:=H) (n:=10) (N:=0+200) (ws:=Aes.sched k) (ws':=Rg.sched k) (sr:=sr) (β:=β) (o:=none) (σ:=σ') (r:=r2) aEW hP hlen hr2 true
 have hoo:gY 3 4 true σ' r2=some ⟨kW 3 B,eR B,true,0⟩:=by unfold gY;rw [hO,if_pos rfl,hlk]
 rw [hO,hoo] at hpo
 have hfr3:=hfr σ3 _ _ hS3 rfl
 have hlen3:σ3.len=256*Gm.total 3 4:=by rw [hS3.len];rfl
 have hxo:(⟨kW 3 B,eR B,true,0⟩:So).Ok 3:=⟨by unfold kW;simp,by dsimp only;rw [iZ,hBl],nL _⟩
 clear hfr hB hBl hB0 hSta hS3 hO hlk hoo hF hX hK hK'
 generalize pL 3 4 true σ' r2 β=β2 at *
 generalize hso:(⟨kW 3 B,eR B,true,0⟩:So)=so at *
 have hst:so.st=0:=by rw [← hso]
 generalize ({ r2 with c:=r2.c+1 }:Rg)=r3 at *
 dsimp only at hpo hpf
 refine W.k fun b_=>?_
 refine aH hbeg ?_
 rintro _ H1 ⟨pp,rfl,hP⟩
 refine W.k ?_
 refine aH (hpf pp H1 hP) ?_
 rintro _ H2 ⟨rfl,hP2⟩
 clear hpf hbeg hP
 refine W.k ?_
 refine aH (hpo pp H2 hP2) ?_
 rintro _ H3 ⟨rfl,hP3⟩
 clear hpo hP2
 obtain⟨i,sv,rv,Hd,Hs,Hk,HD,HR,HS,HT,hD,hS,hBk,hDR,hSR,⟨sp,rfl,hSt⟩,⟨rsp,rfl,hRt⟩,rfl⟩:=hP3
 refine W.k ?_
 (refine SW.l [] [0,1,2,3,4,5,7,8,9,10,11,12] ?_;skip )
 refine gT 6 13 ?a ?b rfl rfl
 case' a=>
  refine aH (aFL sp h0) ?_
  rintro _ HB ⟨b,rfl,hBt⟩
  refine cW ?_
  refine SS.T 14 rfl ?_
  refine SS.T 15 rfl ?_
  refine aU 13 ?_
  refine uF fun rb=>?_
  refine cW ?_
  refine SS.T 16 rfl ?_
  refine SS.T 17 rfl ?_
  refine eH ?_
 case' b=>
  refine uF fun rb=>?_
  refine cW ?_
  refine aU 6 ?_
  refine aH (aFL sp h0) ?_
  rintro _ HB ⟨b,rfl,hBt⟩
  refine cW ?_
  refine SS.T 14 rfl ?_
  refine SS.T 15 rfl ?_
  refine SS.T 16 rfl ?_
  refine SS.T 17 rfl ?_
  refine eH ?_
 all_goals
  refine W.k ?_
  refine Fin.to ((pp,cl (uN i 3 4 (ptv sp) (ptv rsp)) 47)::(Hd++(Hs++(Hk++(HS++HB))))) ?_
  refine F.f4 ⟨pp,b,rb,rfl,i,sp,ptv rsp,σ3,so,sr,β2,Hd,Hs,Hk,HS,HB,hD,hS,hBk,hSt,hBt,hxo,hst,hlen3,by rw [hXX];exact hfr3,rfl⟩
abbrev aHP:List UInt8:=2::List.replicate 15 0
theorem aEA:Tri prog 36 [] [] (fun _=>True) (fun v H=>v=.bool true∧H=[]):=by
 refine Tri.mk func36 rfl ntmps36 rfl fun w hw=>?_
 have hbk:bP (fun i=>some (i*1,1)) (List.replicate 16 (.int .u8 0)) [(0,.int .u8 2)]=some (cbs aHP):=rfl
 have hb1:bP (fun i=>some (i*1,1)) (zs [.int .u8 0] 1) [(0,.int .u8 120)]=some (cbs [120]):=rfl
 have hKo:=aAA aHP rfl
 have hbeg:=aEF aHP rfl (most:=4) dQ
 generalize aHP=k2 at *
 (refine W.k ?_;repeat intro b_)
 refine aH hbeg ?_
 rintro _ _ ⟨pp,b,rb,rfl,i,sp,rv,σ,x,sr,β,Hd,Hs,Hk,HS,HB,hD,hS,hBk,hSt,hBt,hx,hst,hlen,hfr,rfl⟩
 have hf3:=hfr 3 dQ
 rw [show ((3:Nat):Int)=3 from rfl] at hf3
 generalize hz:List.replicate 256 (0:UInt8)=z at hf3
 generalize Aes.sched k2=ws at *
 clear hfr hbeg
 (refine W.k ?_;repeat intro b_)
 refine aH (aIU (.slice (some ⟨b_,0,none⟩) 1 1) [120]) ?_ (hpre:=fun w2 hs=>Rd.atB (Hc:=[]) (T:=5) (fz:=((cbs [120]).length,(cbs [120]).length+1)) [120] hs rfl (Nat.le_refl _))
 rintro v1 H1 ⟨ys,hys,h1⟩
 have h11:=h1.isOne
 obtain⟨a1,l1,c1,rfl,hl1⟩:=h1.form
 (refine W.k ?_;repeat intro b_)
 refine aH (aHt hSt hst hBt 3 (.slice a1 l1 c1) ys hys) ?_ (hpre:=fun w2 hs=>Rd.own (Hc:=HB++HS) h1 hs inferInstance)
 rintro _ _ ⟨HB2,rfl,hB2,rfl⟩
 rw [show Bl.no 4 [] 3=0 from rfl]
 rw [show Bl.step 4 [] 3 ys=[(3,ys)] from rfl] at hB2
 (refine W.k ?_;repeat intro b_)
 refine aH (aFI hB2 aEW hx hD hlen hSt hBk hS hKo hf3) ?_
 rintro _ _ ⟨v2,Hr,HS2,Hk2,β2,rfl,h2,hSt2,hBk2,rfl⟩
 rw [show (Bl.at [(3,ys)] 3).getD z=ys from rfl] at h2
 have h21:=h2.isOne
 (refine W.k ?_;repeat intro b_)
 refine aH (aFG hB2) ?_
 intro va HB3 hB3
 (refine W.k ?_;repeat intro b_)
 refine aH (aFI hB3 aEW hx hD hlen hSt2 hBk2 hS hKo hf3) ?_
 rintro _ _ ⟨v3,Hr3,HS3,Hk3,β3,rfl,h3,hSt3,hBk3,rfl⟩
 rw [show (Bl.at [] 3).getD z=z from rfl,← hz] at h3
 rcases h3 with ⟨-,h0,-⟩|⟨q,ql,qc,qj,rfl,hql,hqj,hqc,rfl⟩
 ·have:=congrArg List.length h0
  rw [aF,aM] at this
  cases this
 rw [aF,aM,Nat.mul_one] at hql
 subst hql
 have hq0:(cbs (List.replicate 256 (0:UInt8))++qj)[0]?=some (.int .u8 0):=rfl
 generalize cbs (List.replicate 256 (0:UInt8))++qj=Q at *
 (refine W.k ?_;repeat intro b_)
 refine aFy h2 ?_
 (refine W.k ?_;repeat intro b_)
 refine aFy h1 ?_
 refine aIz ?_
 rw [wR,decide_eq_true rfl]
 (refine W.k ?_;repeat intro b_)
 refine W.cq (aJd hB3) ?_
 rw [show ((List.length ([]:Bl):Nat):Int)=0 from rfl]
 (refine W.k ?_;repeat intro b_)
 exact F.n
theorem aDd:Tri prog 28 [.pointer none] [] (fun _=>True) (fun r H=>r=.tuple #[]∧H=[]):=by
 refine Tri.mk func28 rfl ntmps28 rfl fun w hw=>?_
 (refine W.k ?_;repeat intro b_)
 refine Fin.to [] ?_
 exact F.f0 ⟨rfl,rfl⟩
theorem aFH(k:Int):Tri prog 29 [.pointer none,.int .i64 k] [] (fun _=>True) (fun r H=>r=.tuple #[.slice none 0 0,.int .i64 2]∧H=[]):=by
 refine Tri.mk func29 rfl ntmps29 rfl fun w hw=>?_
 (refine W.k ?_;repeat intro b_)
 exact F.m
theorem aFM(k:Int)(v:Value) [One v]:Tri prog 30 [.pointer none,.int .i64 k,v] [] (fun _=>True) (fun r H=>r=.int .i64 2∧H=[]):=by
 refine Tri.mk func30 rfl ntmps30 rfl fun w hw=>?_
 (refine W.k ?_;repeat intro b_)
 exact F.n
theorem aEB:Tri prog 31 [.pointer none] [] (fun _=>True) (fun r H=>r=.pointer none∧H=[]):=by
 refine Tri.mk func31 rfl ntmps31 rfl fun w hw=>?_
 (refine W.k ?_;repeat intro b_)
 exact F.n
theorem aFJ:Tri prog 32 [.pointer none] [] (fun _=>True) (fun r H=>r=.int .i64 0∧H=[]):=by
 refine Tri.mk func32 rfl ntmps32 rfl fun w hw=>?_
 (refine W.k ?_;repeat intro b_)
 exact F.n
theorem aEC:Tri prog 33 [.pointer none] [] (fun _=>True) (fun r H=>r=.slice none 0 0∧H=[]):=by
 refine Tri.mk func33 rfl ntmps33 rfl fun w hw=>?_
 (refine W.k ?_;repeat intro b_)
 exact F.n
theorem aCf:Tri prog 34 [.pointer none] [] (fun _=>True) (fun r H=>r=.int .i64 2∧H=[]):=by
 refine Tri.mk func34 rfl ntmps34 rfl fun w hw=>?_
 (refine W.k ?_;repeat intro b_)
 exact F.n
theorem aFK(m:Int):Tri prog 35 [.pointer none,.int .i64 m] [] (fun _=>True) (fun r H=>r=.pointer none∧H=[]):=by
 refine Tri.mk func35 rfl ntmps35 rfl fun w hw=>?_
 (refine W.k ?_;repeat intro b_)
 exact F.n
theorem aFO(k:Int):Tri prog 7 [.int .i64 k] [] (fun _=>True) (fun r _=>r=.bool true):=by
 refine Tri.mk func7 rfl ntmps7 rfl fun w hw=>?_
 (refine W.k ?_;repeat intro b_)
 refine W.cw aDd ?_;repeat intro b_
 refine W.cw (aFH k) ?_;repeat intro b_
 refine W.cw (aFM k _) ?_;repeat intro b_
 refine W.cw aEB ?_;repeat intro b_
 refine W.cw aFJ ?_;repeat intro b_
 refine W.cw aEC ?_;repeat intro b_
 refine W.cw aCf ?_;repeat intro b_
 refine W.cw (aFK 3) ?_;repeat intro b_
 refine W.cw aEA ?_;repeat intro b_
 refine Fin.to [] ?_
 exact F.f1 rfl
end
end Go.Proofs.YtmceanmblcadcaaGreat
