/- A store that is opened: the document's. -/
import Derived.Test.YtnhnpjokpelkbaaGreatPs38
import Derived.Test.YtnhnpjokpelkbaaGreatPs35
import Derived.Test.YtnhnpjokpelkbaaGreatPs29
import Derived.Test.YtnhnpjokpelkbaaGreatPs34
set_option linter.unusedVariables false
set_option linter.unusedSimpArgs false
set_option linter.unusedSectionVars false
set_option maxHeartbeats 4000000
namespace Go.Proofs.YtnhnpjokpelkbaaGreat
open Go Go.Proofs.Tryz
section
attribute [local irreducible] SW SL SQ SH SA SS Pu Fin bZ aQ
theorem aMm{d tr sp p t:Nat}(h:Gm.Ok p t){σ:Dv}{r:Rg}{Hd:Hp}(hD:lS d σ Hd)(hlen:σ.len=256*Gm.total p t)(hr:r.Ok)(wr:Bool) :
  Tri prog 130 [sJ d tr sp p t,.bool wr] ((tr,cl (rtc d r) 120)::Hd) (fun _=>True)
  (fun v H=>∃ v1 Hd' Ho,v=.tuple #[v1,.int .i64 (iS p t wr (σ,r)).1]∧lS d (iS p t wr (σ,r)).2.1 Hd'∧aLi v1 d tr sp p t (jJ p t wr σ r) Ho ∧
   H=(tr,cl (rtc d (iS p t wr (σ,r)).2.2) 120)::(Hd'++Ho)):=by
 refine Tri.mk func130 rfl ntmps130 rfl fun w hw=>?_
 have hmy:=aEs (tr:=tr) (s:=sp) h hD hlen
 obtain⟨f1,f2,f3⟩:=aFM d hr
 have hll:=Gm.leaves_le h
 have ht:=h.2.2.2
 have hl1:1≤Gm.leaves p:=by unfold Gm.leaves;omega
 have h8:σ.ws.length%8=0:=by unfold Dv.len at hlen;omega
 by_cases hE:wr=true∧r.c=18446744073709551615
 ·obtain⟨rfl,hc⟩:=hE
  have e1:iS p t true (σ,r)=(21,(σ,r)):=by unfold iS;rw [if_pos ⟨rfl,hc⟩]
  have e3:jJ p t true σ r=none:=by unfold jJ;rw [e1,if_neg (by show ¬ (21:Int)=0;decide)]
  rw [e1,e3]
  refine W.k fun b_=>?_
  refine aG hmy ?_
  rintro _ Hx ⟨rfl,hx⟩
  have hx:=hx.symm
  subst hx
  refine W.k ?_
  refine Fin.to ((tr,cl (rtc d r) 120)::(Hd++[])) ?_
  exact F.f2 ⟨_,Hd,[],rfl,hD,⟨rfl,rfl⟩,rfl⟩
 have hlk:=aMl (tr:=tr) (sp:=sp) h hD hlen hr
 cases wr with
 | false=>
  refine W.k fun b_=>?_
  refine aG hmy ?_
  rintro _ Hx ⟨rfl,hx⟩
  have hx:=hx.symm
  subst hx
  refine W.k ?_
  refine aG hlk ?_
  rintro _ _ (⟨hdn,rfl,rfl⟩|⟨hdn,v1,cv,ev,Hb,rfl,oe,hB,rfl⟩)
  ·have e1:iS p t false (σ,r)=(8,(σ,r)):=by unfold iS;rw [if_neg hE,if_pos hdn]
   have e3:jJ p t false σ r=none:=by unfold jJ;rw [e1,if_neg (by show ¬ (8:Int)=0;decide)]
   rw [e1,e3]
   refine W.k fun b_=>?_
   refine Fin.to ((tr,cl (rtc d r) 120)::(Hd++[])) ?_
   exact F.f2 ⟨_,Hd,[],rfl,hD,⟨rfl,rfl⟩,rfl⟩
  have hlo:=aB1 (r:=r) hD.1 hdn hlen
  have hB1:=hB.one
  obtain⟨vs,Hv,Ht,hSv,hRv,rfl⟩:=hB
  obtain⟨va,vl,vc,rfl,hvl⟩:=hSv.form
  rw [Nat.mul_one,hRv.1,hlo.1] at hvl
  subst hvl
  by_cases h3:(gK p t σ r).1=3
  ·have e1:iS p t false (σ,r)=(20,(σ,r)):=by unfold iS;rw [if_neg hE,if_neg (by show ¬ σ.down=true;rw [hdn];decide),if_pos h3]
   have e3:jJ p t false σ r=none:=by unfold jJ;rw [e1,if_neg (by show ¬ (20:Int)=0;decide)]
   rw [e1,e3,h3]
   refine W.k fun b_=>?_
   refine Fin.to ((tr,cl (rtc d r) 120)::(Hd++[])) ?_
   exact F.f2 ⟨_,Hd,[],rfl,hD,⟨rfl,rfl⟩,rfl⟩
  have e1:=pO hE hdn h3
  have e3:jJ p t false σ r=if (rC p t false (gK p t σ r).2 (σ,r)).1=0 then some ⟨nD p (gK p t σ r).2,eG (gK p t σ r).2,false,0⟩ else none:=by unfold jJ;rw [e1]
  rw [e1,e3]
  clear e1 e3 hlk
  have hkn:¬ (((gK p t σ r).1:Nat):Int)=3:=oQ
  generalize (gK p t σ r).2=B at *
  generalize (gK p t σ r).1=kd at *
  obtain⟨hBl,hb256⟩:=hlo
  have hF:rC p t false B (σ,r)=(dG p t B).t.and (if false=true then gY else fun σ=>(0,σ)) (σ,r):=by unfold rC;rfl
  generalize hFF:rC p t false B (σ,r)=FF at *
  have hwt:∀ x,(dG p t B).t (x,r)=((dG p t B x).1,(dG p t B x).2,r):=fun _=>rfl
  refine W.k fun b_=>?_
  refine aG (aBp h _ vs B hRv hBl hb256) ?_ (hpre:=fun w2 hs=>Rd.own (Hc:=Ht) hSv hs inferInstance)
  rintro v8 _ ⟨Hep,hSp,rfl⟩
  have hSp1:=hSp.isOne
  refine W.j ?_
  generalize b_=b6 at *
  refine bW [1,2,6,8] Hd (fun _:Dv×Hp=>[]) (fun x=>x.2) (fun x=>lS d x.1 x.2∧putL (fM 0 B) σ=(0,x.1)) ?_ ?_
  ·have hSv0:=hSv
   rcases hSv with ⟨hz,hz2,-⟩|⟨bb,len,cap,junk,hz,hxl,hj,hlc2,rfl⟩
   ·simp only [Value.slice.injEq] at hz
    obtain⟨-,hz,-⟩:=hz
    omega
   simp only [Value.slice.injEq] at hz
   obtain⟨rfl,rfl,rfl⟩:=hz
   refine W.k ?_
   refine bF [1,2,6,8,41,42] (fun x:Nat×Dv×Hp=>[(43,.int .i64 (x.1:Int))]) (fun x=>x.2.2) (fun x=>B.length-x.1) (fun x=>x.1≤B.length∧lS d x.2.1 x.2.2∧putL (fM 0 (B.take x.1)) σ=(0,x.2.1)) (0,σ,Hd) ⟨Nat.zero_le _,hD,by rw [cU];rfl⟩ ?_
   rintro⟨k,σ2,Hd2⟩ ⟨hk,hD2,hp⟩
   dsimp only at hk hD2 hp ⊢
   by_cases hkB:k<B.length
   ·have hbk:=aA hkB
    obtain⟨u,hu1,hu2⟩:=hRv.2 k _ hbk
    have hv:(vs++junk)[k]?=some u:=by rw [aO (by rw [hRv.1];exact hkB)];exact hu1
    have huo:=hu2.one
    have hbl2:=hb256 _ (cP hkB)
    have hwl2:σ2.ws.length=σ.ws.length:=by have:=kL (fM 0 (B.take k)) σ;rw [hp] at this;exact this
    have hpt:=aEr (tr:=tr) (s:=sp) (p:=p) (t:=t) hD2 (by rw [hwl2];exact h8) k oQ u B[k] oQ
    have htl:(B.take k).length=k:=by rw [aK];omega
    have hs1:putL (fM 0 (B.take (k+1))) σ=if (eY k B[k] σ2).1=0 then (0,(eY k B[k] σ2).2) else eY k B[k] σ2:=by
     rw [bA,hbk,dO,uQ,nK,htl,fH]
     show DS.and _ ((eY k B[k]).and fun σ=>(0,σ)) σ=_
     unfold DS.and
     rw [hp]
     simp
    have hs2:(eY k B[k] σ2).1≠0→putL (fM 0 B) σ=eY k B[k] σ2:=fun hne=>by
     have e:fM 0 B=fM 0 (B.take (k+1))++fM (0+(B.take (k+1)).length) (B.drop (k+1)):=by rw [← aAI,dD]
     rw [e,nK]
     unfold DS.and
     rw [hs1,if_neg hne,if_neg hne]
    generalize B[k]=bk at *
    refine W.k ?_
    refine aG hpt ?_ (hpre:=fun w2 hs=>hu2.rd (Hc:=Hd2) hs)
    rintro _ Hd3 ⟨rfl,hD3⟩
    by_cases hz0:(eY k bk σ2).1=0
    ·rw [if_pos hz0] at hs1
     refine W.k ?_
     refine aQ.mk (k+1,(eY k bk σ2).2,Hd3) ?_
     exact⟨hkB,hD3,hs1⟩
    ·have he:=hs2 hz0
     have ewS:dG p t B σ=eY k bk σ2:=by
      have e1:iN B σ=eY k bk σ2:=by rw [← he];exact DS.and_ne (by rw [he];exact hz0)
      rw [← e1];exact DS.and_ne (by rw [e1];exact hz0)
     have eF:FF=((eY k bk σ2).1,(eY k bk σ2).2,r):=by
      rw [hF,TS.and_ne (by rw [hwt,ewS];exact hz0),hwt,ewS]
     rw [eF,if_neg hz0]
     refine W.k ?_
     refine Fin.to ((tr,cl (rtc d r) 120)::(Hd3++[])) ?_
     exact F.f2 ⟨_,Hd3,[],rfl,hD3,⟨rfl,rfl⟩,rfl⟩
   ·have hkn:k=B.length:=oQ
    rw [hkn,bP] at hp
    subst hkn
    refine W.k ?_
    refine bZ.mk (σ2,Hd2) ?_
    exact⟨hD2,hp⟩
  rintro⟨σ2,Hd2⟩ ⟨hD2,hp⟩
  dsimp only at hD2 hp ⊢
  have hwl2:σ2.ws.length=σ.ws.length:=by have:=kL (fM 0 B) σ;rw [hp] at this;exact this
  have e1:iN B σ=feS σ2:=DS.and_eq hp
  have hfe:=aAG hD2
  have hfwl:σ2.fence.ws.length=σ2.ws.length:=wR σ2
  by_cases hz0:(feS σ2).1=0
  ·have ef0:σ2.actR 0 0=0:=hz0
   have e2:dG p t B σ=gH (Gm.leaves p) (1+t) σ2.fence:=by
    unfold dG
    rw [DS.and_eq (y:=σ2.fence) (by rw [e1];exact aAB hz0)]
   rw [ef0] at hfe
   refine W.k ?_
   refine aG hfe ?_
   rintro _ Hd3 ⟨rfl,hD3⟩
   have hsc:=aCP (tr:=tr) (s:=sp) h hD3 (by rw [hfwl,hwl2];exact h8) (1+t) oQ
   rw [show ((1+t:Nat):Int)=1+(t:Int) by omega] at hsc
   generalize hsq:gH (Gm.leaves p) (1+t) σ2.fence=SQ2 at *
   obtain⟨es,σ3⟩:=SQ2
   dsimp only at hsc
   refine W.k ?_
   refine aG hsc ?_
   rintro _ Hd4 ⟨rfl,hD4⟩
   by_cases hz1:es=0
   ·subst hz1
    have eF:FF=(if false=true then gY else fun σ=>(0,σ)) (σ3,r):=by rw [hF,TS.and_eq (y:=(σ3,r)) (by rw [hwt,e2])]
    have eF2:FF=(0,σ3,r):=eF
    rw [eF2,if_pos rfl]
    have hlv:=yE (.slice va (Gm.leaves p) vc) vs B hRv oQ hb256
    refine W.k ?_
    (refine SW.l [7] [0,1,2,3,5] ?_;refine aX 4 ?_)
    refine aG hlv ?_ (hpre:=fun w2 hs=>Rd.own (Hc:=Ht) hSv hs inferInstance)
    rintro v9 _ ⟨H9,h9,rfl⟩
    have h91:=h9.isOne
    obtain⟨a9,l9,c9,rfl,-⟩:=h9.form
    obtain⟨a8,l8,c8,rfl,-⟩:=hSp.form
    have hbd:bS (fun i=>[(0,5),(5,1),(6,1),(7,1),(8,1)][i]?) (List.replicate 3 (.pointer none)++[.int .i64 0,.int .i64 0]++[.slice none 0 0,.slice none 0 0]++[.bool false]++[.int .i64 0]) [(0,sJ d tr sp p t),(1,.slice a8 l8 c8),(2,.slice a9 l9 c9),(3,.bool false)]=some [ptv d,ptv tr,ptv sp,.int .i64 (p:Int),.int .i64 (t:Int),.slice a8 l8 c8,.slice a9 l9 c9,.bool false,.int .i64 0]:=rfl
    (refine SL.l [6] ?_;refine bV 7 ?_;refine W.i fun b_=>?_;refine SG.l [8,9,10] ?_)
    refine W.k ?_
    refine Fin.to ((tr,cl (rtc d r) 120)::(Hd4++((b_,cl [ptv d,ptv tr,ptv sp,.int .i64 (p:Int),.int .i64 (t:Int),.slice a8 l8 c8,.slice a9 l9 c9,.bool false,.int .i64 0] 160)::(Hep++H9)))) ?_
    exact F.f2 ⟨_,Hd4,_,rfl,hD4,⟨b_,rfl,_,_,Hep,H9,rfl,hSp,h9⟩,rfl⟩
   ·have eF:FF=(es,σ3,r):=by rw [hF,TS.and_ne (by rw [hwt,e2];exact hz1),hwt,e2]
    rw [eF,if_neg hz1]
    refine W.k ?_
    refine Fin.to ((tr,cl (rtc d r) 120)::(Hd4++[])) ?_
    exact F.f2 ⟨_,Hd4,[],rfl,hD4,⟨rfl,rfl⟩,rfl⟩
  ·have e2:dG p t B σ=feS σ2:=by rw [← e1];exact DS.and_ne (by rw [e1];exact hz0)
   have eF:FF=((feS σ2).1,(feS σ2).2,r):=by rw [hF,TS.and_ne (by rw [hwt,e2];exact hz0),hwt,e2]
   rw [eF,if_neg hz0]
   have ef0:¬ σ2.actR 0 0=0:=hz0
   refine W.k ?_
   refine aG hfe ?_
   rintro _ Hd3 ⟨rfl,hD3⟩
   refine W.k ?_
   refine Fin.to ((tr,cl (rtc d r) 120)::(Hd3++[])) ?_
   exact F.f2 ⟨_,Hd3,[],rfl,hD3,⟨rfl,rfl⟩,rfl⟩
 | true=>
  have hcn:¬ r.c=18446744073709551615:=fun hc=>hE ⟨rfl,hc⟩
  have hlt:r.c<18446744073709551615:=by have:=hr.c1;omega
  refine W.k fun b_=>?_
  refine aG hmy ?_
  rintro _ Hx ⟨rfl,hx⟩
  have hx:=hx.symm
  subst hx
  refine W.k ?_
  refine aG hlk ?_
  rintro _ _ (⟨hdn,rfl,rfl⟩|⟨hdn,v1,cv,ev,Hb,rfl,oe,hB,rfl⟩)
  ·have e1:iS p t true (σ,r)=(8,(σ,r)):=by unfold iS;rw [if_neg hE,if_pos hdn]
   have e3:jJ p t true σ r=none:=by unfold jJ;rw [e1,if_neg (by show ¬ (8:Int)=0;decide)]
   rw [e1,e3]
   refine W.k fun b_=>?_
   refine Fin.to ((tr,cl (rtc d r) 120)::(Hd++[])) ?_
   exact F.f2 ⟨_,Hd,[],rfl,hD,⟨rfl,rfl⟩,rfl⟩
  have hlo:=aB1 (r:=r) hD.1 hdn hlen
  have hB1:=hB.one
  obtain⟨vs,Hv,Ht,hSv,hRv,rfl⟩:=hB
  obtain⟨va,vl,vc,rfl,hvl⟩:=hSv.form
  rw [Nat.mul_one,hRv.1,hlo.1] at hvl
  subst hvl
  by_cases h3:(gK p t σ r).1=3
  ·have e1:iS p t true (σ,r)=(20,(σ,r)):=by unfold iS;rw [if_neg hE,if_neg (by show ¬ σ.down=true;rw [hdn];decide),if_pos h3]
   have e3:jJ p t true σ r=none:=by unfold jJ;rw [e1,if_neg (by show ¬ (20:Int)=0;decide)]
   rw [e1,e3,h3]
   refine W.k fun b_=>?_
   refine Fin.to ((tr,cl (rtc d r) 120)::(Hd++[])) ?_
   exact F.f2 ⟨_,Hd,[],rfl,hD,⟨rfl,rfl⟩,rfl⟩
  have e1:=pO hE hdn h3
  have e3:jJ p t true σ r=if (rC p t true (gK p t σ r).2 (σ,r)).1=0 then some ⟨nD p (gK p t σ r).2,eG (gK p t σ r).2,true,0⟩ else none:=by unfold jJ;rw [e1]
  rw [e1,e3]
  clear e1 e3 hlk
  have hkn:¬ (((gK p t σ r).1:Nat):Int)=3:=oQ
  generalize (gK p t σ r).2=B at *
  generalize (gK p t σ r).1=kd at *
  obtain⟨hBl,hb256⟩:=hlo
  have hF:rC p t true B (σ,r)=(dG p t B).t.and (if true=true then gY else fun σ=>(0,σ)) (σ,r):=by unfold rC;rfl
  generalize hFF:rC p t true B (σ,r)=FF at *
  have hwt:∀ x,(dG p t B).t (x,r)=((dG p t B x).1,(dG p t B x).2,r):=fun _=>rfl
  refine W.k fun b_=>?_
  refine aG (aBp h _ vs B hRv hBl hb256) ?_ (hpre:=fun w2 hs=>Rd.own (Hc:=Ht) hSv hs inferInstance)
  rintro v8 _ ⟨Hep,hSp,rfl⟩
  have hSp1:=hSp.isOne
  refine W.j ?_
  generalize b_=b6 at *
  refine bW [1,2,6,8] Hd (fun _:Dv×Hp=>[]) (fun x=>x.2) (fun x=>lS d x.1 x.2∧putL (fM 0 B) σ=(0,x.1)) ?_ ?_
  ·have hSv0:=hSv
   rcases hSv with ⟨hz,hz2,-⟩|⟨bb,len,cap,junk,hz,hxl,hj,hlc2,rfl⟩
   ·simp only [Value.slice.injEq] at hz
    obtain⟨-,hz,-⟩:=hz
    omega
   simp only [Value.slice.injEq] at hz
   obtain⟨rfl,rfl,rfl⟩:=hz
   refine W.k ?_
   refine bF [1,2,6,8,41,42] (fun x:Nat×Dv×Hp=>[(43,.int .i64 (x.1:Int))]) (fun x=>x.2.2) (fun x=>B.length-x.1) (fun x=>x.1≤B.length∧lS d x.2.1 x.2.2∧putL (fM 0 (B.take x.1)) σ=(0,x.2.1)) (0,σ,Hd) ⟨Nat.zero_le _,hD,by rw [cU];rfl⟩ ?_
   rintro⟨k,σ2,Hd2⟩ ⟨hk,hD2,hp⟩
   dsimp only at hk hD2 hp ⊢
   by_cases hkB:k<B.length
   ·have hbk:=aA hkB
    obtain⟨u,hu1,hu2⟩:=hRv.2 k _ hbk
    have hv:(vs++junk)[k]?=some u:=by rw [aO (by rw [hRv.1];exact hkB)];exact hu1
    have huo:=hu2.one
    have hbl2:=hb256 _ (cP hkB)
    have hwl2:σ2.ws.length=σ.ws.length:=by have:=kL (fM 0 (B.take k)) σ;rw [hp] at this;exact this
    have hpt:=aEr (tr:=tr) (s:=sp) (p:=p) (t:=t) hD2 (by rw [hwl2];exact h8) k oQ u B[k] oQ
    have htl:(B.take k).length=k:=by rw [aK];omega
    have hs1:putL (fM 0 (B.take (k+1))) σ=if (eY k B[k] σ2).1=0 then (0,(eY k B[k] σ2).2) else eY k B[k] σ2:=by
     rw [bA,hbk,dO,uQ,nK,htl,fH]
     show DS.and _ ((eY k B[k]).and fun σ=>(0,σ)) σ=_
     unfold DS.and
     rw [hp]
     simp
    have hs2:(eY k B[k] σ2).1≠0→putL (fM 0 B) σ=eY k B[k] σ2:=fun hne=>by
     have e:fM 0 B=fM 0 (B.take (k+1))++fM (0+(B.take (k+1)).length) (B.drop (k+1)):=by rw [← aAI,dD]
     rw [e,nK]
     unfold DS.and
     rw [hs1,if_neg hne,if_neg hne]
    generalize B[k]=bk at *
    refine W.k ?_
    refine aG hpt ?_ (hpre:=fun w2 hs=>hu2.rd (Hc:=Hd2) hs)
    rintro _ Hd3 ⟨rfl,hD3⟩
    by_cases hz0:(eY k bk σ2).1=0
    ·rw [if_pos hz0] at hs1
     refine W.k ?_
     refine aQ.mk (k+1,(eY k bk σ2).2,Hd3) ?_
     exact⟨hkB,hD3,hs1⟩
    ·have he:=hs2 hz0
     have ewS:dG p t B σ=eY k bk σ2:=by
      have e1:iN B σ=eY k bk σ2:=by rw [← he];exact DS.and_ne (by rw [he];exact hz0)
      rw [← e1];exact DS.and_ne (by rw [e1];exact hz0)
     have eF:FF=((eY k bk σ2).1,(eY k bk σ2).2,r):=by
      rw [hF,TS.and_ne (by rw [hwt,ewS];exact hz0),hwt,ewS]
     rw [eF,if_neg hz0]
     refine W.k ?_
     refine Fin.to ((tr,cl (rtc d r) 120)::(Hd3++[])) ?_
     exact F.f2 ⟨_,Hd3,[],rfl,hD3,⟨rfl,rfl⟩,rfl⟩
   ·have hkn:k=B.length:=oQ
    rw [hkn,bP] at hp
    subst hkn
    refine W.k ?_
    refine bZ.mk (σ2,Hd2) ?_
    exact⟨hD2,hp⟩
  rintro⟨σ2,Hd2⟩ ⟨hD2,hp⟩
  dsimp only at hD2 hp ⊢
  have hwl2:σ2.ws.length=σ.ws.length:=by have:=kL (fM 0 B) σ;rw [hp] at this;exact this
  have e1:iN B σ=feS σ2:=DS.and_eq hp
  have hfe:=aAG hD2
  have hfwl:σ2.fence.ws.length=σ2.ws.length:=wR σ2
  by_cases hz0:(feS σ2).1=0
  ·have ef0:σ2.actR 0 0=0:=hz0
   have e2:dG p t B σ=gH (Gm.leaves p) (1+t) σ2.fence:=by
    unfold dG
    rw [DS.and_eq (y:=σ2.fence) (by rw [e1];exact aAB hz0)]
   rw [ef0] at hfe
   refine W.k ?_
   refine aG hfe ?_
   rintro _ Hd3 ⟨rfl,hD3⟩
   have hsc:=aCP (tr:=tr) (s:=sp) h hD3 (by rw [hfwl,hwl2];exact h8) (1+t) oQ
   rw [show ((1+t:Nat):Int)=1+(t:Int) by omega] at hsc
   generalize hsq:gH (Gm.leaves p) (1+t) σ2.fence=SQ2 at *
   obtain⟨es,σ3⟩:=SQ2
   dsimp only at hsc
   refine W.k ?_
   refine aG hsc ?_
   rintro _ Hd4 ⟨rfl,hD4⟩
   by_cases hz1:es=0
   ·subst hz1
    have eF:FF=(if true=true then gY else fun σ=>(0,σ)) (σ3,r):=by rw [hF,TS.and_eq (y:=(σ3,r)) (by rw [hwt,e2])]
    have hbm:=aHP (tr:=tr) (s:=sp) (p:=p) (t:=t) hD4 hr hlt
    have eF2:FF=gY (σ3,r):=eF
    rw [eF2]
    clear eF eF2 hF hFF
    generalize gY (σ3,r)=G at *
    obtain⟨eb,σ4,r4⟩:=G
    dsimp only at hbm ⊢
    refine W.k ?_
    refine aG hbm ?_
    rintro _ _ ⟨rfl,Hd5,hD5,rfl⟩
    by_cases hz2:eb=0
    ·subst hz2
     rw [if_pos rfl]
     have hlv:=yE (.slice va (Gm.leaves p) vc) vs B hRv oQ hb256
     refine W.k ?_
     (refine SW.l [7] [0,1,2,3,5] ?_;refine aX 4 ?_)
     refine aG hlv ?_ (hpre:=fun w2 hs=>Rd.own (Hc:=Ht) hSv hs inferInstance)
     rintro v9 _ ⟨H9,h9,rfl⟩
     have h91:=h9.isOne
     obtain⟨a9,l9,c9,rfl,-⟩:=h9.form
     obtain⟨a8,l8,c8,rfl,-⟩:=hSp.form
     have hbd:bS (fun i=>[(0,5),(5,1),(6,1),(7,1),(8,1)][i]?) (List.replicate 3 (.pointer none)++[.int .i64 0,.int .i64 0]++[.slice none 0 0,.slice none 0 0]++[.bool false]++[.int .i64 0]) [(0,sJ d tr sp p t),(1,.slice a8 l8 c8),(2,.slice a9 l9 c9),(3,.bool true)]=some [ptv d,ptv tr,ptv sp,.int .i64 (p:Int),.int .i64 (t:Int),.slice a8 l8 c8,.slice a9 l9 c9,.bool true,.int .i64 0]:=rfl
     (refine SL.l [6] ?_;refine bV 7 ?_;refine W.i fun b_=>?_;refine SG.l [8,9,10] ?_)
     refine W.k ?_
     refine Fin.to ((tr,cl (rtc d r4) 120)::(Hd5++((b_,cl [ptv d,ptv tr,ptv sp,.int .i64 (p:Int),.int .i64 (t:Int),.slice a8 l8 c8,.slice a9 l9 c9,.bool true,.int .i64 0] 160)::(Hep++H9)))) ?_
     exact F.f2 ⟨_,Hd5,_,rfl,hD5,⟨b_,rfl,_,_,Hep,H9,rfl,hSp,h9⟩,rfl⟩
    ·rw [if_neg hz2]
     refine W.k ?_
     refine Fin.to ((tr,cl (rtc d r4) 120)::(Hd5++[])) ?_
     exact F.f2 ⟨_,Hd5,[],rfl,hD5,⟨rfl,rfl⟩,rfl⟩
   ·have eF:FF=(es,σ3,r):=by rw [hF,TS.and_ne (by rw [hwt,e2];exact hz1),hwt,e2]
    rw [eF,if_neg hz1]
    refine W.k ?_
    refine Fin.to ((tr,cl (rtc d r) 120)::(Hd4++[])) ?_
    exact F.f2 ⟨_,Hd4,[],rfl,hD4,⟨rfl,rfl⟩,rfl⟩
  ·have e2:dG p t B σ=feS σ2:=by rw [← e1];exact DS.and_ne (by rw [e1];exact hz0)
   have eF:FF=((feS σ2).1,(feS σ2).2,r):=by rw [hF,TS.and_ne (by rw [hwt,e2];exact hz0),hwt,e2]
   rw [eF,if_neg hz0]
   have ef0:¬ σ2.actR 0 0=0:=hz0
   refine W.k ?_
   refine aG hfe ?_
   rintro _ Hd3 ⟨rfl,hD3⟩
   refine W.k ?_
   refine Fin.to ((tr,cl (rtc d r) 120)::(Hd3++[])) ?_
   exact F.f2 ⟨_,Hd3,[],rfl,hD3,⟨rfl,rfl⟩,rfl⟩
theorem aL5{pp p t n N:Nat}{ws ws':List (List UInt8)}{σ:Dv}{r:Rg}{sr:Sr}{β:Bk}{o:Option So}{H:Hp}(h:Gm.Ok p t)(hP:aAe pp p t n N ws ws' σ r sr β o H)(hlen:σ.len=256*Gm.total p t)(hr:r.Ok)(wr:Bool) :
  Tri prog 65 [ptv pp,.bool wr] H (fun _=>True) (fun v H'=>v=.bool true ∧
   aAe pp p t n N ws ws' (iS p t wr (σ,r)).2.1 (iS p t wr (σ,r)).2.2 sr (qM p t wr σ r β) (jJ p t wr σ r) H'):=by
 obtain⟨i,sv,rv,Hd,Hs,Hk,HD,HR,HS,HT,hD,hS,hB,hDR,hSR,hO,hOR,rfl⟩:=hP
 refine Tri.mk func65 rfl ntmps65 rfl fun w hw=>?_
 have hF:=aNh (tr:=i.tr) (s:=i.s) h hD hlen hr hB wr
 have hG:=aMm (tr:=i.rtr) (sp:=i.rs) h hDR hlen hr wr
 have o1:=hO.one
 have o2:=hOR.one
 have hz:jJ p t wr σ r=if (iS p t wr (σ,r)).1=0 then some ⟨nD p (gK p t σ r).2,eG (gK p t σ r).2,wr,0⟩ else none:=rfl
 generalize jJ p t wr σ r=oo at *
 generalize qM p t wr σ r β=β2 at *
 generalize iS p t wr (σ,r)=FF at *
 obtain⟨e,σ2,r2⟩:=FF
 dsimp only at hF hG hz ⊢
 refine W.k ?_
 refine aG hF ?_
 rintro _ _ ⟨v1,Hd2,Hk2,HS2,Hx,rfl,hD2,hB2,hO2,rfl⟩
 have o3:=hO2.one
 refine W.k ?_
 refine aG hG ?_
 rintro _ _ ⟨v2,HD2,HT2,rfl,hDR2,hOR2,rfl⟩
 have o4:=hOR2.one
 have hO3:=hO2
 by_cases he:e=0
 ·rw [if_pos he] at hz
  subst hz
  subst he
  obtain⟨sp,rfl,-⟩:=hO2
  refine W.k ?_
  rw [show ((yU i p t sv rv).set 6 (ptv sp)).set 12 v2=yU i p t (ptv sp) v2 from rfl]
  refine Fin.to ((pp,cl (yU i p t (ptv sp) v2) 47)::(i.tr,cl (trc i.d r2) 201)::(i.rtr,cl (rtc i.rd r2) 120)::(Hd2++(Hs++(Hk2++(HD2++(HR++(HS2++HT2))))))) ?_
  exact F.f1 ⟨rfl,i,_,v2,Hd2,Hs,Hk2,HD2,HR,HS2,HT2,hD2,hS,hB2,hDR2,hSR,hO3,hOR2,rfl⟩
 ·rw [if_neg he] at hz
  subst hz
  obtain⟨rfl,-⟩:=hO2
  refine W.k ?_
  rw [show ((yU i p t sv rv).set 6 (.pointer none)).set 12 v2=yU i p t (.pointer none) v2 from rfl]
  refine Fin.to ((pp,cl (yU i p t (.pointer none) v2) 47)::(i.tr,cl (trc i.d r2) 201)::(i.rtr,cl (rtc i.rd r2) 120)::(Hd2++(Hs++(Hk2++(HD2++(HR++(HS2++HT2))))))) ?_
  exact F.f1 ⟨rfl,i,_,v2,Hd2,Hs,Hk2,HD2,HR,HS2,HT2,hD2,hS,hB2,hDR2,hSR,hO3,hOR2,rfl⟩
theorem aAt{p t:Nat}{σ:Dv}{r:Rg}{n:Nat}{B:List (List UInt8)}{R:List UInt8}(h:σ.Sta n (B.flatten++R))(hn:8*n=256*Gm.total p t)(hB:∀ b∈B,b.length=256)(hBl:B.length=Gm.leaves p)(hr:r.root=fW B)(hs:B.getD 0 []=iB p t):gK p t σ r=(1,B):=by
 have htot:Gm.total p t=Gm.leaves p+(1+t):=rfl
 have hbk:=h.blks hB oQ
 rw [hBl] at hbk
 unfold gK
 rw [hbk]
 exact vI (by unfold lU;rw [hr,hs];simp)
theorem aDP{p t:Nat}{σ:Dv}{n:Nat}{M:List UInt8}{B:List (List UInt8)}(h1:σ.Sta n M)(hn:8*n=256*Gm.total p t)(h256:∀ b∈B,b.length=256)(hbl:B.length=Gm.leaves p) :
  (dG p t B σ).1=0∧(dG p t B σ).2.Sta n (B.flatten++List.replicate (256*(1+t)) 0):=by
 have htot:Gm.total p t=Gm.leaves p+(1+t):=rfl
 have hfl:B.flatten.length=256*B.length:=by
  clear hbl
  induction B with
  | nil=>rfl
  | cons x r ih=>rw [cQ,aB,h256 x (by simp),ih (fun y hy=>h256 y (by simp [hy])),aW];omega
 have hM:=h1.ml
 have hD:(dG p t B σ).1=0∧(dG p t B σ).2.Sta n (spl (spl M (256*0) B.flatten) (256*Gm.leaves p) (List.replicate (256*(1+t)) 0)):=by
  refine DS.and_sta (DS.and_sta (Dv.Sta.putL B h1 0 h256 (by rw [hbl];omega)) fun τ ht=>ht.fence) fun τ ht=>?_
  refine DS.and_sta (a:=eY (Gm.leaves p) (List.replicate (256*(1+t)) 0)) (ht.put (by rw [aP];omega)) fun τ' ht'=>ht'.fence
 have es:spl (spl M (256*0) B.flatten) (256*Gm.leaves p) (List.replicate (256*(1+t)) 0)=B.flatten++List.replicate (256*(1+t)) 0:=by
  rw [show 256*Gm.leaves p=256*0+B.flatten.length by rw [hfl,hbl];omega,aEy _ _ _ _ (by rw [hfl,hbl,aP];omega)]
  unfold spl
  rw [show 256*0=0 from rfl,cU,List.nil_append,cZ (by rw [aB,hfl,hbl,aP];omega),aF]
 rwa [es] at hD
theorem aKe{p t:Nat}{σ:Dv}{r:Rg}{n:Nat}{B:List (List UInt8)}{R:List UInt8}(h:σ.Sta n (B.flatten++R))(hn:8*n=256*Gm.total p t)(hB:∀ b∈B,b.length=256)(hBl:B.length=Gm.leaves p)(hr:r.root=fW B)(hs:B.getD 0 []=iB p t)(hc:r.c<18446744073709551615) :
  ∃ σ',iS p t true (σ,r)=(0,(σ',{ r with c:=r.c+1 }))∧σ'.Sta n (B.flatten++List.replicate (256*(1+t)) 0):=by
 have hl:=aAt h hn hB hBl hr hs
 rw [pO (fun hh=>by have:=hh.2;omega) h.l.d (by rw [hl];show 1≠3;decide),hl]
 obtain⟨e2,h2⟩:=aDP (p:=p) (t:=t) h hn hB hBl
 obtain⟨σ3,e3,h3⟩:=aCi (r:=r) h2 { r with c:=r.c+1 } (by show r.c<r.c+1;omega)
 refine⟨σ3,?_,h3⟩
 unfold rC
 rw [TS.and_eq (y:=((dG p t B σ).2,r)) (by unfold DS.t;dsimp only;rw [e2]),if_pos rfl]
 exact e3
end
def vR(p t:Nat)(l:List (List UInt8)):Acs:=(qW (fM 0 l)++feA)++(stA (Gm.leaves p,List.replicate (256*(1+t)) 0)++feA)
theorem Did.whole{p t n:Nat}{σ:Dv}{M:List UInt8}{B:List (List UInt8)}(h:σ.Sta n M)(hn:8*n=256*Gm.total p t)(h256:∀ b∈B,b.length=256)(hbl:B.length=Gm.leaves p):Did (dG p t B) σ n (B.flatten++List.replicate (256*(1+t)) 0) (vR p t B):=by
 have htot:Gm.total p t=Gm.leaves p+(1+t):=rfl
 obtain⟨e,hs⟩:=aDP (p:=p) (t:=t) h hn h256 hbl
 refine⟨e,hs,?_⟩
 obtain⟨R1,h1⟩:=Did.putR (fM 0 B) (F:=[]) (R:=M) h fun x hx=>by
  obtain⟨i,hi,rfl⟩:=qZ.1 hx
  have:=h256 _ (cP hi)
  refine⟨Nat.zero_le _,?_⟩
  show 256*(0+i)+_≤_
  rw [this]
  omega
 have hq:=(h1.and (g:=feS) fun τ ht=>Did.fe ht).and (g:=gH (Gm.leaves p) (1+t)) fun τ ht=>(Did.put ht (k:=Gm.leaves p) (bs:=List.replicate (256*(1+t)) 0) (by rw [aP];omega)).and (g:=feS) fun τ' ht'=>Did.fe ht'
 exact hq.a
theorem yD{σ:Dv}{r:Rg}{n:Nat}{M:List UInt8}(h:σ.Sta n M)(x:Rg)(hx:r.c<x.c):(mT x) (σ,r)=(0,(σ.doo,x))∧σ.doo.Sta n M∧σ.doo.acts=mG σ.acts [(4,0,0)]:=by
 obtain⟨h1,h2⟩:=h.doo
 refine⟨?_,h2,h.dooA⟩
 unfold mT sS sQ qX
 simp only [h.l.d,iW,if_false,h1,if_true]
 rw [if_neg oQ,if_neg oQ,if_neg oQ]
theorem aJQ{p t:Nat}{σ:Dv}{r:Rg}{X:UInt64→Nat→List UInt8→List UInt8}{n:Nat}{M:List UInt8}(h:σ.Sta n M)(hn:8*n=256*Gm.total p t)(hc:r.c≤18446744073709551613)
  (h256:∀ b∈fK p t X (UInt64.ofNat (r.c+2).toNat),b.length=256) (hbl:(fK p t X (UInt64.ofNat (r.c+2).toNat)).length=Gm.leaves p) :
  (nF p t X (σ,r)).2.1.acts=mG σ.acts ([(4,0,0)]++vR p t (fK p t X (UInt64.ofNat (r.c+2).toNat))++[(4,0,0)]):=by
 unfold nF
 rw [if_neg (by show ¬ _<r.c;omega)]
 generalize fK p t X (UInt64.ofNat (r.c+2).toNat)=B at *
 obtain⟨e1,h1,a1⟩:=yD h { r with c:=r.c+1 } (by show r.c<r.c+1;omega)
 rw [TS.and_eq (show gY (σ,r)=(0,(σ.doo,{ r with c:=r.c+1 })) from e1)]
 have hD:=Did.whole h1 hn h256 hbl
 rw [TS.and_eq (y:=((dG p t B σ.doo).2,{ r with c:=r.c+1 })) (by unfold DS.t;dsimp only;rw [hD.e])]
 obtain⟨e3,-,a3⟩:=yD (r:={ r with c:=r.c+1 }) hD.s { c:=r.c+1+1,root:=fW B } (by show r.c+1<r.c+1+1;omega)
 show (mT ⟨r.c+1+1,fW B⟩ ((dG p t B σ.doo).2,{ r with c:=r.c+1 })).2.1.acts=_
 rw [e3]
 dsimp only
 rw [a3,hD.a,a1,oG,oG,aV]
theorem aIH{p t:Nat}{σ:Dv}{r:Rg}{n:Nat}{B:List (List UInt8)}{R:List UInt8}(h:σ.Sta n (B.flatten++R))(hn:8*n=256*Gm.total p t)(hB:∀ b∈B,b.length=256)(hBl:B.length=Gm.leaves p)(hr:r.root=fW B)(hs:B.getD 0 []=iB p t)(hc:r.c<18446744073709551615) :
  (iS p t true (σ,r)).2.1.acts=mG σ.acts (vR p t B++[(4,0,0)]):=by
 have hl:=aAt h hn hB hBl hr hs
 rw [pO (fun hh=>by have:=hh.2;omega) h.l.d (by rw [hl];show 1≠3;decide),hl]
 have hD:=Did.whole h hn hB hBl
 obtain⟨e3,-,a3⟩:=yD (r:=r) hD.s { r with c:=r.c+1 } (by show r.c<r.c+1;omega)
 unfold rC
 rw [TS.and_eq (y:=((dG p t B σ).2,r)) (by unfold DS.t;dsimp only;rw [hD.e]),if_pos rfl]
 show (mT { r with c:=r.c+1 } ((dG p t B σ).2,r)).2.1.acts=_
 rw [e3]
 dsimp only
 rw [a3,hD.a,oG]
theorem aAJ:∀ {a b:List (Nat×List UInt8)},a.map (fun x=>(x.1,x.2.length))=b.map (fun x=>(x.1,x.2.length))→qW a=qW b
 | [],[],_=>rfl
 | [],y::b,h=>by cases h
 | x::a,[],h=>by cases h
 | x::a,y::b,h=>by
  simp only [dK,gP,Prod.mk.injEq] at h
  show stA x++qW a=stA y++qW b
  rw [aAJ h.2]
  unfold stA
  rw [h.1.1,h.1.2]
theorem aJc{a b:List Ent}(h:a.map Prod.fst=b.map Prod.fst):dW a=dW b:=by
 have key:∀ (a b:List Ent) (o:List Nat),a.map Prod.fst=b.map Prod.fst→a.foldl tJ o=b.foldl tJ o:=fun a=>by
  induction a with
  | nil=>intro b o h;cases b with
   | nil=>rfl
   | cons y b=>cases h
  | cons x a ih=>
   intro b o h
   cases b with
   | nil=>cases h
   | cons y b=>
    simp only [dK,gP] at h
    rw [dS,dS,ih b _ h.2]
    unfold tJ
    rw [h.1]
 exact key a b [] h
theorem aJJ{p:Nat}{c c':UInt64}{es es':List UInt64}{l l':List Ent}(h:l.map Prod.fst=l'.map Prod.fst)(h1:∀ x∈l,x.2.length=256)(h2:∀ x∈l',x.2.length=256):aCn p c es l=aCn p c' es' l':=by
 have hlen:l.length=l'.length:=by have:=congrArg List.length h;simpa using this
 have e1:qW (fM (Gm.leaves p) (uD c l))=qW (fM (Gm.leaves p) (uD c' l')):=by
  apply aAJ
  apply cC
  intro i
  unfold fM
  rw [aH,aH,dB,dB]
  have hb:∀ (c:UInt64) (l:List Ent),(∀ x∈l,x.2.length=256)→∀ b∈uD c l,b.length=256:=fun c l h b hb=>by
   rcases cI.1 hb with rfl|hb
   ·exact uB c l
   ·obtain⟨y,hy,rfl⟩:=bJ.1 hb
    exact h y hy
  have hll:(uD c l).length=(uD c' l').length:=by show (_::l.map Prod.snd).length=(_::l'.map Prod.snd).length;rw [aW,aW,aD,aD,hlen]
  by_cases hi:i<(uD c l).length
  ·rw [aA hi,aA (hll▸hi)]
   simp only [Option.map_some]
   rw [hb c l h1 _ (cP hi),hb c' l' h2 _ (cP (hll▸hi))]
  ·rw [aZ oQ,aZ oQ]
 have e2:qW (oK p es l)=qW (oK p es' l'):=by
  apply aAJ
  unfold oK
  rw [aL,aL,gS,gS,gS,gS,aJc h]
  congr 1
  ·have key:∀ (a b:List Ent),a.map Prod.fst=b.map Prod.fst→(∀ x∈a,x.2.length=256)→(∀ x∈b,x.2.length=256)→a.map ((fun x:Nat×List UInt8=>(x.1,x.2.length))∘fun x:Ent=>(Ks p x.1.toNat,x.2))=b.map ((fun x:Nat×List UInt8=>(x.1,x.2.length))∘fun x:Ent=>(Ks p x.1.toNat,x.2)):=fun a=>by
    induction a with
    | nil=>intro b h _ _;cases b with
     | nil=>rfl
     | cons y b=>cases h
    | cons x a ih=>
     intro b h ha hb
     cases b with
     | nil=>cases h
     | cons y b=>
      simp only [dK,gP] at h
      rw [dK,dK,ih b h.2 (fun z hz=>ha z (by simp [hz])) fun z hz=>hb z (by simp [hz])]
      dsimp only [Function.comp]
      rw [h.1,ha x (by simp),hb y (by simp)]
   exact key l l' h h1 h2
  ·apply dP
   intro q _
   show (1+q,(epB q es).length)=(1+q,(epB q es').length)
   rw [oU,oU]
 unfold aCn
 rw [e1,e2,hlen]
theorem aAb.fresh{e:UInt64}(he:e=2){E:List UInt8→List UInt8}(hE:∀ x,(E x).length=16){σ:Dv}{n:Nat}{R:List UInt8}(h:σ.Sta n ((fK 3 4 (dT E) e).flatten++R)):aAb 3 4 n (dT E) σ ⟨nD 3 (fK 3 4 (dT E) e),eG (fK 3 4 (dT E) e),true,0⟩ (fun _=>List.replicate 256 0) (fK 3 4 (dT E) e) R:=by
 subst he
 have h1:=pK (p:=3) (t:=4) hE 2
 have h2:=nU 3 4 (dT E) 2
 have h3:=sC 3 (fK 3 4 (dT E) 2)
 refine aAb.mk h h1 h2 rfl rfl rfl h3 fun j hj=>?_
 have hBj:(fK 3 4 (dT E) 2)[Ks 3 j]?=some (dT E 2 j (List.replicate 256 0)):=by
  match j,hj with
  | 0,_=>rfl
  | 1,_=>rfl
  | 2,_=>rfl
  | 3,_=>rfl
  | 4,_=>rfl
 have hes:(nD 3 (fK 3 4 (dT E) 2)).getD j 0=2:=by
  have e0:((fK 3 4 (dT E) 2).drop 1).take (Gm.epochs 3)=[epB 0 (List.replicate 5 2)]:=rfl
  have e1:nD 3 (fK 3 4 (dT E) 2)=(List.range 5).map (tX [epB 0 (List.replicate 5 2)]):=by unfold nD;rw [e0];rfl
  rw [e1]
  have:∀ j<5,((List.range 5).map (tX [epB 0 (List.replicate 5 2)])).getD j 0=2:=by decide +kernel
  exact this j hj
 generalize List.replicate 256 (0:UInt8)=Z at *
 show dT E ((nD 3 (fK 3 4 (dT E) 2)).getD j 0) j ((fK 3 4 (dT E) 2).getD (Ks 3 j) [])=Z
 rw [hes,aC,hBj,Option.getD_some]
 exact aCm hE _ _ _
theorem aGp{σ:Dv}{n:Nat}{M:List UInt8}(h:σ.Sta n M):σ.doo.ws=σ.ws:=by
 have e:σ.doo=σ.act (4,0,0):=by unfold Dv.doo;rw [if_neg (by rw [h.l.d];decide)]
 rw [e]
 exact (h.l.act (4,0,0)).2.1
theorem aNU{p t:Nat}{σ:Dv}{r:Rg}{X:UInt64→Nat→List UInt8→List UInt8}{n:Nat}{M:List UInt8}(h:σ.Sta n M)(hJ:sX σ.ws)(hn:8*n=256*Gm.total p t)(hc:r.c≤18446744073709551613)
  (h256:∀ b∈fK p t X (UInt64.ofNat (r.c+2).toNat),b.length=256) (hbl:(fK p t X (UInt64.ofNat (r.c+2).toNat)).length=Gm.leaves p):sX (nF p t X (σ,r)).2.1.ws:=by
 unfold nF
 rw [if_neg (by show ¬ _<r.c;omega)]
 generalize fK p t X (UInt64.ofNat (r.c+2).toNat)=B at *
 obtain⟨e1,h1,a1⟩:=yD h { r with c:=r.c+1 } (by show r.c<r.c+1;omega)
 rw [TS.and_eq (show gY (σ,r)=(0,(σ.doo,{ r with c:=r.c+1 })) from e1)]
 have hD:=Did.whole h1 hn h256 hbl
 have hM:=(aF5 h1 (by rw [aGp h];exact hJ) hn h256 hbl).1
 rw [TS.and_eq (y:=((dG p t B σ.doo).2,{ r with c:=r.c+1 })) (by unfold DS.t;dsimp only;rw [hD.e])]
 obtain⟨e3,-,a3⟩:=yD (r:={ r with c:=r.c+1 }) hD.s { c:=r.c+1+1,root:=fW B } (by show r.c+1<r.c+1+1;omega)
 show sX (mT ⟨r.c+1+1,fW B⟩ ((dG p t B σ.doo).2,{ r with c:=r.c+1 })).2.1.ws
 rw [e3]
 dsimp only
 rw [aGp hD.s]
 exact hM
theorem aL4{p t:Nat}{σ:Dv}{r:Rg}{n:Nat}{B:List (List UInt8)}{R:List UInt8}(h:σ.Sta n (B.flatten++R))(hJ:sX σ.ws)(hn:8*n=256*Gm.total p t)(hB:∀ b∈B,b.length=256)(hBl:B.length=Gm.leaves p)(hr:r.root=fW B)(hs:B.getD 0 []=iB p t)(hc:r.c<18446744073709551615) :
  lC (iS p t true (σ,r)).2.1.ws=kV (iS p t true (σ,r)).2.1.ws:=by
 have hl:=aAt h hn hB hBl hr hs
 rw [pO (fun hh=>by have:=hh.2;omega) h.l.d (by rw [hl];show 1≠3;decide),hl]
 have hD:=Did.whole h hn hB hBl
 have hM:=(aF5 h hJ hn hB hBl).2
 obtain⟨e3,-,a3⟩:=yD (r:=r) hD.s { r with c:=r.c+1 } (by show r.c<r.c+1;omega)
 unfold rC
 rw [TS.and_eq (y:=((dG p t B σ).2,r)) (by unfold DS.t;dsimp only;rw [hD.e]),if_pos rfl]
 show lC (mT { r with c:=r.c+1 } ((dG p t B σ).2,r)).2.1.ws=kV (mT { r with c:=r.c+1 } ((dG p t B σ).2,r)).2.1.ws
 rw [e3]
 dsimp only
 rw [aGp hD.s]
 exact hM
theorem aN7(n:Int):sX (Dv.new n).ws:=fun w hw=>by
 have:w=Wd.zero:=kM hw
 subst this
 exact⟨fun _=>rfl,rfl⟩
end Go.Proofs.YtnhnpjokpelkbaaGreat
