/- A store that is opened: the document's. -/
import Derived.Test.YtnhnpjokpelkbaaGreatPp36
import Derived.Test.YtnhnpjokpelkbaaGreatPp40
import Derived.Test.YtnhnpjokpelkbaaGreatPp39
set_option linter.unusedVariables false
set_option linter.unusedSimpArgs false
set_option linter.unusedSectionVars false
set_option maxHeartbeats 4000000
namespace Go.Proofs.YtnhnpjokpelkbaaGreat
open Go Go.Proofs.Tryz
section
attribute [local irreducible] SW SL SQ SH SA SS Pu Fin bT aQ
theorem aKq{d tr sp p t:Nat}(h:Gm.Ok p t){σ:Dv}{r:Rg}{Hd:Hp}(hD:iA d σ Hd)(hlen:σ.len=256*Gm.total p t)(hr:r.Ok)(wr wb:Bool)(hw0:wr=wb) :
  Tri prog 130 [qV d tr sp p t,.bool wb] ((tr,cl (rtc d r) 120)::Hd) (fun _=>True)
  (fun v H=>∃ v1 Hd' Ho,v=.tuple #[v1,.int .i64 (gV p t wr (σ,r)).1]∧iA d (gV p t wr (σ,r)).2.1 Hd'∧aJb v1 d tr sp p t (iX p t wr σ r) Ho ∧
   H=(tr,cl (rtc d (gV p t wr (σ,r)).2.2) 120)::(Hd'++Ho)):=by
 refine Tri.mk func130 rfl ntmps130 rfl fun w hw=>?_
 have hmy:=aEw (tr:=tr) (s:=sp) h hD hlen
 obtain⟨f1,f2,f3⟩:=aDC d hr
 have hll:=Gm.leaves_le h
 have ht:=h.2.2.2
 have hl1:1≤Gm.leaves p:=by unfold Gm.leaves;omega
 have h8:σ.ws.length%8=0:=by unfold Dv.len at hlen;omega
 by_cases hE:wr=true∧r.c=18446744073709551615
 ·obtain⟨rfl,hc⟩:=hE
  subst hw0
  have e1:gV p t true (σ,r)=(21,(σ,r)):=by unfold gV;rw [if_pos ⟨rfl,hc⟩]
  have e3:iX p t true σ r=none:=by unfold iX;rw [e1,if_neg (by show ¬ (21:Int)=0;decide)]
  rw [e1,e3]
  (refine W.k ?_;repeat intro b_)
  refine aF hmy ?_
  rintro _ Hx ⟨rfl,hx⟩
  have hx:=hx.symm
  subst hx
  (refine W.k ?_;repeat intro b_)
  refine Fin.to ((tr,cl (rtc d r) 120)::(Hd++[])) ?_
  exact F.f2 ⟨_,Hd,[],rfl,hD,⟨rfl,rfl⟩,rfl⟩
 have hlk:=aL2 (tr:=tr) (sp:=sp) h hD hlen hr
 have hlt:wr=true→r.c<18446744073709551615:=fun e=>by have:=hr.c1;have:¬ r.c=18446744073709551615:=fun hc=>hE ⟨e,hc⟩;omega
 cases wb
 all_goals
  try have hlt2:=hlt hw0
  (refine W.k ?_;repeat intro b_)
  refine aF hmy ?_
  rintro _ Hx ⟨rfl,hx⟩
  have hx:=hx.symm
  subst hx
  (refine W.k ?_;repeat intro b_)
  refine aF hlk ?_
  rintro _ _ (⟨hdn,rfl,rfl⟩|⟨hdn,v1,cv,ev,Hb,rfl,oe,hB,rfl⟩)
  ·have e1:gV p t wr (σ,r)=(8,(σ,r)):=by unfold gV;rw [if_neg hE,if_pos hdn]
   have e3:iX p t wr σ r=none:=by unfold iX;rw [e1,if_neg (by show ¬ (8:Int)=0;decide)]
   rw [e1,e3]
   (refine W.k ?_;repeat intro b_)
   refine Fin.to ((tr,cl (rtc d r) 120)::(Hd++[])) ?_
   exact F.f2 ⟨_,Hd,[],rfl,hD,⟨rfl,rfl⟩,rfl⟩
  have hlo:=aEb (r:=r) hD.1 hdn hlen
  have hB1:=hB.one
  obtain⟨vs,Hv,Ht,hSv,hRv,rfl⟩:=hB
  obtain⟨va,vl,vc,rfl,hvl⟩:=hSv.form
  rw [Nat.mul_one,hRv.1,hlo.1] at hvl
  subst hvl
  by_cases h3:(gI p t σ r).1=3
  ·have e1:gV p t wr (σ,r)=(20,(σ,r)):=by unfold gV;rw [if_neg hE,if_neg (by show ¬ σ.down=true;rw [hdn];decide),if_pos h3]
   have e3:iX p t wr σ r=none:=by unfold iX;rw [e1,if_neg (by show ¬ (20:Int)=0;decide)]
   rw [e1,e3,h3]
   (refine W.k ?_;repeat intro b_)
   refine Fin.to ((tr,cl (rtc d r) 120)::(Hd++[])) ?_
   exact F.f2 ⟨_,Hd,[],rfl,hD,⟨rfl,rfl⟩,rfl⟩
  have e1:=rJ hE hdn h3
  have e3:iX p t wr σ r=if (qU p t wr (gI p t σ r).2 (σ,r)).1=0 then some ⟨nB p (gI p t σ r).2,eX (gI p t σ r).2,wr,0⟩ else none:=by unfold iX;rw [e1]
  rw [e1,e3]
  clear e1 e3 hlk
  have hkn:¬ (((gI p t σ r).1:Nat):Int)=3:=oQ
  generalize (gI p t σ r).2=B at *
  generalize (gI p t σ r).1=kd at *
  obtain⟨hBl,hb256⟩:=hlo
  have hF:qU p t wr B (σ,r)=(cQ p t B).t.and (if wr=true then gG else fun σ=>(0,σ)) (σ,r):=by unfold qU;rfl
  generalize hFF:qU p t wr B (σ,r)=FF at *
  have hwt:∀ x,(cQ p t B).t (x,r)=((cQ p t B x).1,(cQ p t B x).2,r):=fun _=>rfl
  (refine W.k ?_;repeat intro b_)
  refine aF (aDx h _ vs B hRv hBl hb256) ?_ (hpre:=fun w2 hs=>Rd.own (Hc:=Ht) hSv hs inferInstance)
  rintro v8 _ ⟨Hep,hSp,rfl⟩
  have hSp1:=hSp.isOne
  (refine W.j ?_;repeat intro b_)
  generalize b_=b6 at *
  refine bQ [1,2,6,8] Hd (fun _:Dv×Hp=>[]) (fun x=>x.2) (fun x=>iA d x.1 x.2∧putL (fR 0 B) σ=(0,x.1)) ?_ ?_
  ·have hSv0:=hSv
   rcases hSv with ⟨hz,hz2,-⟩|⟨bb,len,cap,junk,hz,hxl,hj,hlc2,rfl⟩
   ·simp only [Value.slice.injEq] at hz
    obtain⟨-,hz,-⟩:=hz
    omega
   simp only [Value.slice.injEq] at hz
   obtain⟨rfl,rfl,rfl⟩:=hz
   (refine W.k ?_;repeat intro b_)
   refine bF [1,2,6,8,41,42] (fun x:Nat×Dv×Hp=>[(43,.int .i64 (x.1:Int))]) (fun x=>x.2.2) (fun x=>B.length-x.1) (fun x=>x.1≤B.length∧iA d x.2.1 x.2.2∧putL (fR 0 (B.take x.1)) σ=(0,x.2.1)) (0,σ,Hd) ⟨Nat.zero_le _,hD,by rw [cT];rfl⟩ ?_
   rintro⟨k,σ2,Hd2⟩ ⟨hk,hD2,hp⟩
   dsimp only at hk hD2 hp ⊢
   by_cases hkB:k<B.length
   ·have hbk:=aA hkB
    obtain⟨u,hu1,hu2⟩:=hRv.2 k _ hbk
    have hv:(vs++junk)[k]?=some u:=by rw [aL (by rw [hRv.1];exact hkB)];exact hu1
    have huo:=hu2.one
    have hbl2:=hb256 _ (cE hkB)
    have hwl2:σ2.ws.length=σ.ws.length:=by have:=jD (fR 0 (B.take k)) σ;rw [hp] at this;exact this
    have hpt:=aBd (tr:=tr) (s:=sp) (p:=p) (t:=t) hD2 (by rw [hwl2];exact h8) k oQ u B[k] oQ
    have htl:(B.take k).length=k:=by rw [aG];omega
    have hs1:putL (fR 0 (B.take (k+1))) σ=if (fH k B[k] σ2).1=0 then (0,(fH k B[k] σ2).2) else fH k B[k] σ2:=by
     rw [aZ,hbk,dJ,xS,qK,htl,fX]
     show DS.and _ ((fH k B[k]).and fun σ=>(0,σ)) σ=_
     unfold DS.and
     rw [hp]
     simp
    have hs2:(fH k B[k] σ2).1≠0→putL (fR 0 B) σ=fH k B[k] σ2:=fun hne=>by
     have e:fR 0 B=fR 0 (B.take (k+1))++fR (0+(B.take (k+1)).length) (B.drop (k+1)):=by rw [← aCG,dG]
     rw [e,qK]
     unfold DS.and
     rw [hs1,if_neg hne,if_neg hne]
    generalize B[k]=bk at *
    (refine W.k ?_;repeat intro b_)
    refine aF hpt ?_ (hpre:=fun w2 hs=>hu2.rd (Hc:=Hd2) hs)
    rintro _ Hd3 ⟨rfl,hD3⟩
    by_cases hz0:(fH k bk σ2).1=0
    ·rw [if_pos hz0] at hs1
     (refine W.k ?_;repeat intro b_)
     refine aQ.mk (k+1,(fH k bk σ2).2,Hd3) ?_
     exact⟨hkB,hD3,hs1⟩
    ·have he:=hs2 hz0
     have ewS:cQ p t B σ=fH k bk σ2:=by
      have e1:iW B σ=fH k bk σ2:=by rw [← he];exact DS.and_ne (by rw [he];exact hz0)
      rw [← e1];exact DS.and_ne (by rw [e1];exact hz0)
     have eF:FF=((fH k bk σ2).1,(fH k bk σ2).2,r):=by
      rw [hF,TS.and_ne (by rw [hwt,ewS];exact hz0),hwt,ewS]
     rw [eF,if_neg hz0]
     (refine W.k ?_;repeat intro b_)
     refine Fin.to ((tr,cl (rtc d r) 120)::(Hd3++[])) ?_
     exact F.f2 ⟨_,Hd3,[],rfl,hD3,⟨rfl,rfl⟩,rfl⟩
   ·have hkn:k=B.length:=oQ
    rw [hkn,bN] at hp
    subst hkn
    (refine W.k ?_;repeat intro b_)
    refine bT.mk (σ2,Hd2) ?_
    exact⟨hD2,hp⟩
  rintro⟨σ2,Hd2⟩ ⟨hD2,hp⟩
  dsimp only at hD2 hp ⊢
  have hwl2:σ2.ws.length=σ.ws.length:=by have:=jD (fR 0 B) σ;rw [hp] at this;exact this
  have e1:iW B σ=feS σ2:=DS.and_eq hp
  have hfe:=wP hD2
  have hfwl:σ2.fence.ws.length=σ2.ws.length:=wF σ2
  by_cases hz0:(feS σ2).1=0
  ·have ef0:σ2.actR 0 0=0:=hz0
   have e2:cQ p t B σ=gB (Gm.leaves p) (1+t) σ2.fence:=by
    unfold cQ
    rw [DS.and_eq (y:=σ2.fence) (by rw [e1];exact aBq hz0)]
   rw [ef0] at hfe
   (refine W.k ?_;repeat intro b_)
   refine aF hfe ?_
   rintro _ Hd3 ⟨rfl,hD3⟩
   have hsc:=aCI (tr:=tr) (s:=sp) h hD3 (by rw [hfwl,hwl2];exact h8) (1+t) oQ
   rw [show ((1+t:Nat):Int)=1+(t:Int) by omega] at hsc
   generalize hsq:gB (Gm.leaves p) (1+t) σ2.fence=SQ2 at *
   obtain⟨es,σ3⟩:=SQ2
   dsimp only at hsc
   (refine W.k ?_;repeat intro b_)
   refine aF hsc ?_
   rintro _ Hd4 ⟨rfl,hD4⟩
   by_cases hz1:es=0
   ·subst hz1
    have eF:FF=(if wr=true then gG else fun σ=>(0,σ)) (σ3,r):=by rw [hF,TS.and_eq (y:=(σ3,r)) (by rw [hwt,e2])]
    have hbf:∀ (a8:Option Addr) (l8 c8:Nat) (a9:Option Addr) (l9 c9:Nat),bX (fun i=>[(0,5),(5,1),(6,1),(7,1),(8,1)][i]?) (List.replicate 3 (.pointer none)++[.int .i64 0,.int .i64 0]++[.slice none 0 0,.slice none 0 0]++[.bool false]++[.int .i64 0]) [(0,qV d tr sp p t),(1,.slice a8 l8 c8),(2,.slice a9 l9 c9),(3,.bool wr)]=some [ptv d,ptv tr,ptv sp,.int .i64 (p:Int),.int .i64 (t:Int),.slice a8 l8 c8,.slice a9 l9 c9,.bool wr,.int .i64 0]:=fun _ _ _ _ _ _=>rfl
    first
     | (
      subst hw0
      have eF2:FF=(0,σ3,r):=eF
      rw [eF2,if_pos rfl]
      have hlv:=xR (.slice va (Gm.leaves p) vc) vs B hRv oQ hb256
      (refine W.k ?_;repeat intro b_)
      (refine SW.l [7] [0,1,2,3,5] ?_;refine bA 4 ?_)
      refine aF hlv ?_ (hpre:=fun w2 hs=>Rd.own (Hc:=Ht) hSv hs inferInstance)
      rintro v9 _ ⟨H9,h9,rfl⟩
      have h91:=h9.isOne
      obtain⟨a9,l9,c9,rfl,-⟩:=h9.form
      obtain⟨a8,l8,c8,rfl,-⟩:=hSp.form
      have hbd:=hbf a8 l8 c8 a9 l9 c9
      (refine SL.l [6] ?_;refine bO 7 ?_;(refine W.i ?_;repeat intro b_);refine SG.l [8,9,10] ?_)
      (refine W.k ?_;repeat intro b_)
      refine Fin.to ((tr,cl (rtc d r) 120)::(Hd4++((b_,cl [ptv d,ptv tr,ptv sp,.int .i64 (p:Int),.int .i64 (t:Int),.slice a8 l8 c8,.slice a9 l9 c9,.bool false,.int .i64 0] 160)::(Hep++H9)))) ?_
      exact F.f2 ⟨_,Hd4,_,rfl,hD4,⟨b_,rfl,_,_,Hep,H9,rfl,hSp,h9⟩,rfl⟩)
     | (
      subst hw0
      have hbm:=aHI (tr:=tr) (s:=sp) (p:=p) (t:=t) hD4 hr (hlt rfl)
      have eF2:FF=gG (σ3,r):=eF
      rw [eF2]
      clear eF eF2 hF hFF
      generalize gG (σ3,r)=G at *
      obtain⟨eb,σ4,r4⟩:=G
      dsimp only at hbm ⊢
      (refine W.k ?_;repeat intro b_)
      refine aF hbm ?_
      rintro _ _ ⟨rfl,Hd5,hD5,rfl⟩
      by_cases hz2:eb=0
      ·subst hz2
       rw [if_pos rfl]
       have hlv:=xR (.slice va (Gm.leaves p) vc) vs B hRv oQ hb256
       (refine W.k ?_;repeat intro b_)
       (refine SW.l [7] [0,1,2,3,5] ?_;refine bA 4 ?_)
       refine aF hlv ?_ (hpre:=fun w2 hs=>Rd.own (Hc:=Ht) hSv hs inferInstance)
       rintro v9 _ ⟨H9,h9,rfl⟩
       have h91:=h9.isOne
       obtain⟨a9,l9,c9,rfl,-⟩:=h9.form
       obtain⟨a8,l8,c8,rfl,-⟩:=hSp.form
       have hbd:=hbf a8 l8 c8 a9 l9 c9
       (refine SL.l [6] ?_;refine bO 7 ?_;(refine W.i ?_;repeat intro b_);refine SG.l [8,9,10] ?_)
       (refine W.k ?_;repeat intro b_)
       refine Fin.to ((tr,cl (rtc d r4) 120)::(Hd5++((b_,cl [ptv d,ptv tr,ptv sp,.int .i64 (p:Int),.int .i64 (t:Int),.slice a8 l8 c8,.slice a9 l9 c9,.bool true,.int .i64 0] 160)::(Hep++H9)))) ?_
       exact F.f2 ⟨_,Hd5,_,rfl,hD5,⟨b_,rfl,_,_,Hep,H9,rfl,hSp,h9⟩,rfl⟩
      ·rw [if_neg hz2]
       (refine W.k ?_;repeat intro b_)
       refine Fin.to ((tr,cl (rtc d r4) 120)::(Hd5++[])) ?_
       exact F.f2 ⟨_,Hd5,[],rfl,hD5,⟨rfl,rfl⟩,rfl⟩)
   ·have eF:FF=(es,σ3,r):=by rw [hF,TS.and_ne (by rw [hwt,e2];exact hz1),hwt,e2]
    rw [eF,if_neg hz1]
    (refine W.k ?_;repeat intro b_)
    refine Fin.to ((tr,cl (rtc d r) 120)::(Hd4++[])) ?_
    exact F.f2 ⟨_,Hd4,[],rfl,hD4,⟨rfl,rfl⟩,rfl⟩
  ·have e2:cQ p t B σ=feS σ2:=by rw [← e1];exact DS.and_ne (by rw [e1];exact hz0)
   have eF:FF=((feS σ2).1,(feS σ2).2,r):=by rw [hF,TS.and_ne (by rw [hwt,e2];exact hz0),hwt,e2]
   rw [eF,if_neg hz0]
   have ef0:¬ σ2.actR 0 0=0:=hz0
   (refine W.k ?_;repeat intro b_)
   refine aF hfe ?_
   rintro _ Hd3 ⟨rfl,hD3⟩
   (refine W.k ?_;repeat intro b_)
   refine Fin.to ((tr,cl (rtc d r) 120)::(Hd3++[])) ?_
   exact F.f2 ⟨_,Hd3,[],rfl,hD3,⟨rfl,rfl⟩,rfl⟩
theorem aL3{d tr sp p t:Nat}(h:Gm.Ok p t){σ:Dv}{r:Rg}{Hd:Hp}(hD:iA d σ Hd)(hlen:σ.len=256*Gm.total p t)(hr:r.Ok)(wr:Bool) :
  Tri prog 130 [qV d tr sp p t,.bool wr] ((tr,cl (rtc d r) 120)::Hd) (fun _=>True)
  (fun v H=>∃ v1 Hd' Ho,v=.tuple #[v1,.int .i64 (gV p t wr (σ,r)).1]∧iA d (gV p t wr (σ,r)).2.1 Hd'∧aJb v1 d tr sp p t (iX p t wr σ r) Ho ∧
   H=(tr,cl (rtc d (gV p t wr (σ,r)).2.2) 120)::(Hd'++Ho)):=aKq h hD hlen hr wr wr rfl
theorem aEf{pp p t n N:Nat}{ws ws':List (List UInt8)}{σ:Dv}{r:Rg}{sr:Sr}{β:Bk}{o:Option So}{H:Hp}(h:Gm.Ok p t)(hP:nL pp p t n N ws ws' σ r sr β o H)(hlen:σ.len=256*Gm.total p t)(hr:r.Ok)(wr:Bool) :
  Tri prog 65 [ptv pp,.bool wr] H (fun _=>True) (fun v H'=>v=.bool true ∧
   nL pp p t n N ws ws' (gV p t wr (σ,r)).2.1 (gV p t wr (σ,r)).2.2 sr (pD p t wr σ r β) (iX p t wr σ r) H'):=by
 obtain⟨i,sv,rv,Hd,Hs,Hk,HD,HR,HS,HT,hD,hS,hB,hDR,hSR,hO,hOR,rfl⟩:=hP
 refine Tri.mk func65 rfl ntmps65 rfl fun w hw=>?_
 have hF:=aM2 (tr:=i.tr) (s:=i.s) h hD hlen hr hB wr
 have hG:=aL3 (tr:=i.rtr) (sp:=i.rs) h hDR hlen hr wr
 have o1:=hO.one
 have o2:=hOR.one
 have hz:iX p t wr σ r=if (gV p t wr (σ,r)).1=0 then some ⟨nB p (gI p t σ r).2,eX (gI p t σ r).2,wr,0⟩ else none:=rfl
 generalize iX p t wr σ r=oo at *
 generalize pD p t wr σ r β=β2 at *
 generalize gV p t wr (σ,r)=FF at *
 obtain⟨e,σ2,r2⟩:=FF
 dsimp only at hF hG hz ⊢
 refine W.k ?_
 refine aF hF ?_
 rintro _ _ ⟨v1,Hd2,Hk2,HS2,Hx,rfl,hD2,hB2,hO2,rfl⟩
 have o3:=hO2.one
 refine W.k ?_
 refine aF hG ?_
 rintro _ _ ⟨v2,HD2,HT2,rfl,hDR2,hOR2,rfl⟩
 have o4:=hOR2.one
 have hO3:=hO2
 by_cases he:e=0
 ·rw [if_pos he] at hz
  subst hz
  subst he
  obtain⟨sp,rfl,-⟩:=hO2
  refine W.k ?_
  rw [show ((vR i p t sv rv).set 6 (ptv sp)).set 12 v2=vR i p t (ptv sp) v2 from rfl]
  refine Fin.to ((pp,cl (vR i p t (ptv sp) v2) 47)::(i.tr,cl (trc i.d r2) 201)::(i.rtr,cl (rtc i.rd r2) 120)::(Hd2++(Hs++(Hk2++(HD2++(HR++(HS2++HT2))))))) ?_
  exact F.f1 ⟨rfl,i,_,v2,Hd2,Hs,Hk2,HD2,HR,HS2,HT2,hD2,hS,hB2,hDR2,hSR,hO3,hOR2,rfl⟩
 ·rw [if_neg he] at hz
  subst hz
  obtain⟨rfl,-⟩:=hO2
  refine W.k ?_
  rw [show ((vR i p t sv rv).set 6 (.pointer none)).set 12 v2=vR i p t (.pointer none) v2 from rfl]
  refine Fin.to ((pp,cl (vR i p t (.pointer none) v2) 47)::(i.tr,cl (trc i.d r2) 201)::(i.rtr,cl (rtc i.rd r2) 120)::(Hd2++(Hs++(Hk2++(HD2++(HR++(HS2++HT2))))))) ?_
  exact F.f1 ⟨rfl,i,_,v2,Hd2,Hs,Hk2,HD2,HR,HS2,HT2,hD2,hS,hB2,hDR2,hSR,hO3,hOR2,rfl⟩
theorem aCp{p t:Nat}{σ:Dv}{r:Rg}{n:Nat}{B:List (List UInt8)}{R:List UInt8}(h:σ.Sta n (B.flatten++R))(hn:8*n=256*Gm.total p t)(hB:∀ b∈B,b.length=256)(hBl:B.length=Gm.leaves p)(hr:r.root=fQ B)(hs:B.getD 0 []=iE p t):gI p t σ r=(1,B):=by
 have htot:Gm.total p t=Gm.leaves p+(1+t):=rfl
 have hbk:=h.blks hB oQ
 rw [hBl] at hbk
 unfold gI
 rw [hbk]
 exact rU (by unfold lI;rw [hr,hs];simp)
theorem aDN{p t:Nat}{σ:Dv}{n:Nat}{M:List UInt8}{B:List (List UInt8)}(h1:σ.Sta n M)(hn:8*n=256*Gm.total p t)(h256:∀ b∈B,b.length=256)(hbl:B.length=Gm.leaves p) :
  (cQ p t B σ).1=0∧(cQ p t B σ).2.Sta n (B.flatten++List.replicate (256*(1+t)) 0):=by
 have htot:Gm.total p t=Gm.leaves p+(1+t):=rfl
 have hfl:B.flatten.length=256*B.length:=by
  clear hbl
  induction B with
  | nil=>rfl
  | cons x r ih=>rw [dK,aB,h256 x (by simp),ih (fun y hy=>h256 y (by simp [hy])),aX];omega
 have hM:=h1.ml
 have hD:(cQ p t B σ).1=0∧(cQ p t B σ).2.Sta n (spl (spl M (256*0) B.flatten) (256*Gm.leaves p) (List.replicate (256*(1+t)) 0)):=by
  refine DS.and_sta (DS.and_sta (Dv.Sta.putL B h1 0 h256 (by rw [hbl];omega)) fun τ ht=>ht.fence) fun τ ht=>?_
  refine DS.and_sta (a:=fH (Gm.leaves p) (List.replicate (256*(1+t)) 0)) (ht.put (by rw [aS];omega)) fun τ' ht'=>ht'.fence
 have es:spl (spl M (256*0) B.flatten) (256*Gm.leaves p) (List.replicate (256*(1+t)) 0)=B.flatten++List.replicate (256*(1+t)) 0:=by
  rw [show 256*Gm.leaves p=256*0+B.flatten.length by rw [hfl,hbl];omega,aEB _ _ _ _ (by rw [hfl,hbl,aS];omega)]
  unfold spl
  rw [show 256*0=0 from rfl,cT,List.nil_append,cP (by rw [aB,hfl,hbl,aS];omega),aH]
 rwa [es] at hD
theorem aJ6{p t:Nat}{σ:Dv}{r:Rg}{n:Nat}{B:List (List UInt8)}{R:List UInt8}(h:σ.Sta n (B.flatten++R))(hn:8*n=256*Gm.total p t)(hB:∀ b∈B,b.length=256)(hBl:B.length=Gm.leaves p)(hr:r.root=fQ B)(hs:B.getD 0 []=iE p t)(hc:r.c<18446744073709551615) :
  ∃ σ',gV p t true (σ,r)=(0,(σ',{ r with c:=r.c+1 }))∧σ'.Sta n (B.flatten++List.replicate (256*(1+t)) 0):=by
 have hl:=aCp h hn hB hBl hr hs
 rw [rJ (fun hh=>by have:=hh.2;omega) h.l.d (by rw [hl];show 1≠3;decide),hl]
 obtain⟨e2,h2⟩:=aDN (p:=p) (t:=t) h hn hB hBl
 obtain⟨σ3,e3,h3⟩:=aB5 (r:=r) h2 { r with c:=r.c+1 } (by show r.c<r.c+1;omega)
 refine⟨σ3,?_,h3⟩
 unfold qU
 rw [TS.and_eq (y:=((cQ p t B σ).2,r)) (by unfold DS.t;dsimp only;rw [e2]),if_pos rfl]
 exact e3
end
def vF(p t:Nat)(l:List (List UInt8)):Acs:=(qN (fR 0 l)++feA)++(stA (Gm.leaves p,List.replicate (256*(1+t)) 0)++feA)
theorem Did.whole{p t n:Nat}{σ:Dv}{M:List UInt8}{B:List (List UInt8)}(h:σ.Sta n M)(hn:8*n=256*Gm.total p t)(h256:∀ b∈B,b.length=256)(hbl:B.length=Gm.leaves p):Did (cQ p t B) σ n (B.flatten++List.replicate (256*(1+t)) 0) (vF p t B):=by
 have htot:Gm.total p t=Gm.leaves p+(1+t):=rfl
 obtain⟨e,hs⟩:=aDN (p:=p) (t:=t) h hn h256 hbl
 refine⟨e,hs,?_⟩
 obtain⟨R1,h1⟩:=Did.putR (fR 0 B) (F:=[]) (R:=M) h fun x hx=>by
  obtain⟨i,hi,rfl⟩:=vL.1 hx
  have:=h256 _ (cE hi)
  refine⟨Nat.zero_le _,?_⟩
  show 256*(0+i)+_≤_
  rw [this]
  omega
 have hq:=(h1.and (g:=feS) fun τ ht=>Did.fe ht).and (g:=gB (Gm.leaves p) (1+t)) fun τ ht=>(Did.put ht (k:=Gm.leaves p) (bs:=List.replicate (256*(1+t)) 0) (by rw [aS];omega)).and (g:=feS) fun τ' ht'=>Did.fe ht'
 exact hq.a
theorem aEp{σ:Dv}{r:Rg}{n:Nat}{M:List UInt8}(h:σ.Sta n M)(x:Rg)(hx:r.c<x.c):(kB x) (σ,r)=(0,(σ.doo,x))∧σ.doo.Sta n M∧σ.doo.acts=mU σ.acts [(4,0,0)]:=by
 obtain⟨h1,h2⟩:=h.doo
 refine⟨?_,h2,h.dooA⟩
 unfold kB qO sE oI
 simp only [h.l.d,iV,if_false,h1,if_true]
 rw [if_neg oQ,if_neg oQ,if_neg oQ]
theorem aJM{p t:Nat}{σ:Dv}{r:Rg}{X:UInt64→Nat→List UInt8→List UInt8}{n:Nat}{M:List UInt8}(h:σ.Sta n M)(hn:8*n=256*Gm.total p t)(hc:r.c≤18446744073709551613)
  (h256:∀ b∈fG p t X (UInt64.ofNat (r.c+2).toNat),b.length=256) (hbl:(fG p t X (UInt64.ofNat (r.c+2).toNat)).length=Gm.leaves p) :
  (lD p t X (σ,r)).2.1.acts=mU σ.acts ([(4,0,0)]++vF p t (fG p t X (UInt64.ofNat (r.c+2).toNat))++[(4,0,0)]):=by
 unfold lD
 rw [if_neg (by show ¬ _<r.c;omega)]
 generalize fG p t X (UInt64.ofNat (r.c+2).toNat)=B at *
 obtain⟨e1,h1,a1⟩:=aEp h { r with c:=r.c+1 } (by show r.c<r.c+1;omega)
 rw [TS.and_eq (show gG (σ,r)=(0,(σ.doo,{ r with c:=r.c+1 })) from e1)]
 have hD:=Did.whole h1 hn h256 hbl
 rw [TS.and_eq (y:=((cQ p t B σ.doo).2,{ r with c:=r.c+1 })) (by unfold DS.t;dsimp only;rw [hD.e])]
 obtain⟨e3,-,a3⟩:=aEp (r:={ r with c:=r.c+1 }) hD.s { c:=r.c+1+1,root:=fQ B } (by show r.c+1<r.c+1+1;omega)
 show (kB ⟨r.c+1+1,fQ B⟩ ((cQ p t B σ.doo).2,{ r with c:=r.c+1 })).2.1.acts=_
 rw [e3]
 dsimp only
 rw [a3,hD.a,a1,oD,oD,aM]
theorem aIA{p t:Nat}{σ:Dv}{r:Rg}{n:Nat}{B:List (List UInt8)}{R:List UInt8}(h:σ.Sta n (B.flatten++R))(hn:8*n=256*Gm.total p t)(hB:∀ b∈B,b.length=256)(hBl:B.length=Gm.leaves p)(hr:r.root=fQ B)(hs:B.getD 0 []=iE p t)(hc:r.c<18446744073709551615) :
  (gV p t true (σ,r)).2.1.acts=mU σ.acts (vF p t B++[(4,0,0)]):=by
 have hl:=aCp h hn hB hBl hr hs
 rw [rJ (fun hh=>by have:=hh.2;omega) h.l.d (by rw [hl];show 1≠3;decide),hl]
 have hD:=Did.whole h hn hB hBl
 obtain⟨e3,-,a3⟩:=aEp (r:=r) hD.s { r with c:=r.c+1 } (by show r.c<r.c+1;omega)
 unfold qU
 rw [TS.and_eq (y:=((cQ p t B σ).2,r)) (by unfold DS.t;dsimp only;rw [hD.e]),if_pos rfl]
 show (kB { r with c:=r.c+1 } ((cQ p t B σ).2,r)).2.1.acts=_
 rw [e3]
 dsimp only
 rw [a3,hD.a,oD]
theorem aAw:∀ {a b:List (Nat×List UInt8)},a.map (fun x=>(x.1,x.2.length))=b.map (fun x=>(x.1,x.2.length))→qN a=qN b
 | [],[],_=>rfl
 | [],y::b,h=>by cases h
 | x::a,[],h=>by cases h
 | x::a,y::b,h=>by
  simp only [dP,kI,Prod.mk.injEq] at h
  show stA x++qN a=stA y++qN b
  rw [aAw h.2]
  unfold stA
  rw [h.1.1,h.1.2]
theorem aIY{a b:List Ent}(h:a.map Prod.fst=b.map Prod.fst):cZ a=cZ b:=by
 have key:∀ (a b:List Ent) (o:List Nat),a.map Prod.fst=b.map Prod.fst→a.foldl tA o=b.foldl tA o:=fun a=>by
  induction a with
  | nil=>intro b o h;cases b with
   | nil=>rfl
   | cons y b=>cases h
  | cons x a ih=>
   intro b o h
   cases b with
   | nil=>cases h
   | cons y b=>
    simp only [dP,kI] at h
    rw [dS,dS,ih b _ h.2]
    unfold tA
    rw [h.1]
 exact key a b [] h
theorem aJz{p:Nat}{c c':UInt64}{es es':List UInt64}{l l':List Ent}(h:l.map Prod.fst=l'.map Prod.fst)(h1:∀ x∈l,x.2.length=256)(h2:∀ x∈l',x.2.length=256):aCc p c es l=aCc p c' es' l':=by
 have hlen:l.length=l'.length:=by have:=congrArg List.length h;simpa using this
 have e1:qN (fR (Gm.leaves p) (pB c l))=qN (fR (Gm.leaves p) (pB c' l')):=by
  apply aAw
  apply cB
  intro i
  unfold fR
  rw [aJ,aJ,dC,dC]
  have hb:∀ (c:UInt64) (l:List Ent),(∀ x∈l,x.2.length=256)→∀ b∈pB c l,b.length=256:=fun c l h b hb=>by
   rcases bZ.1 hb with rfl|hb
   ·exact rG c l
   ·obtain⟨y,hy,rfl⟩:=bH.1 hb
    exact h y hy
  have hll:(pB c l).length=(pB c' l').length:=by show (_::l.map Prod.snd).length=(_::l'.map Prod.snd).length;rw [aX,aX,aD,aD,hlen]
  by_cases hi:i<(pB c l).length
  ·rw [aA hi,aA (hll▸hi)]
   simp only [Option.map_some]
   rw [hb c l h1 _ (cE hi),hb c' l' h2 _ (cE (hll▸hi))]
  ·rw [bB oQ,bB oQ]
 have e2:qN (nN p es l)=qN (nN p es' l'):=by
  apply aAw
  unfold nN
  rw [aV,aV,gQ,gQ,gQ,gQ,aIY h]
  congr 1
  ·have key:∀ (a b:List Ent),a.map Prod.fst=b.map Prod.fst→(∀ x∈a,x.2.length=256)→(∀ x∈b,x.2.length=256)→a.map ((fun x:Nat×List UInt8=>(x.1,x.2.length))∘fun x:Ent=>(Ks p x.1.toNat,x.2))=b.map ((fun x:Nat×List UInt8=>(x.1,x.2.length))∘fun x:Ent=>(Ks p x.1.toNat,x.2)):=fun a=>by
    induction a with
    | nil=>intro b h _ _;cases b with
     | nil=>rfl
     | cons y b=>cases h
    | cons x a ih=>
     intro b h ha hb
     cases b with
     | nil=>cases h
     | cons y b=>
      simp only [dP,kI] at h
      rw [dP,dP,ih b h.2 (fun z hz=>ha z (by simp [hz])) fun z hz=>hb z (by simp [hz])]
      dsimp only [Function.comp]
      rw [h.1,ha x (by simp),hb y (by simp)]
   exact key l l' h h1 h2
  ·apply eH
   intro q _
   show (1+q,(epB q es).length)=(1+q,(epB q es').length)
   rw [nA,nA]
 unfold aCc
 rw [e1,e2,hlen]
theorem aAJ.fresh{e:UInt64}(he:e=2){E:List UInt8→List UInt8}(hE:∀ x,(E x).length=16){σ:Dv}{n:Nat}{R:List UInt8}(h:σ.Sta n ((fG 3 4 (dM E) e).flatten++R)):aAJ 3 4 n (dM E) σ ⟨nB 3 (fG 3 4 (dM E) e),eX (fG 3 4 (dM E) e),true,0⟩ (fun _=>List.replicate 256 0) (fG 3 4 (dM E) e) R:=by
 subst he
 have h1:=pN (p:=3) (t:=4) hE 2
 have h2:=nT 3 4 (dM E) 2
 have h3:=rT 3 (fG 3 4 (dM E) 2)
 refine aAJ.mk h h1 h2 rfl rfl rfl h3 fun j hj=>?_
 have hBj:(fG 3 4 (dM E) 2)[Ks 3 j]?=some (dM E 2 j (List.replicate 256 0)):=by
  match j,hj with
  | 0,_=>rfl
  | 1,_=>rfl
  | 2,_=>rfl
  | 3,_=>rfl
  | 4,_=>rfl
 have hes:(nB 3 (fG 3 4 (dM E) 2)).getD j 0=2:=by
  have e0:((fG 3 4 (dM E) 2).drop 1).take (Gm.epochs 3)=[epB 0 (List.replicate 5 2)]:=rfl
  have e1:nB 3 (fG 3 4 (dM E) 2)=(List.range 5).map (tN [epB 0 (List.replicate 5 2)]):=by unfold nB;rw [e0];rfl
  rw [e1]
  have:∀ j<5,((List.range 5).map (tN [epB 0 (List.replicate 5 2)])).getD j 0=2:=by decide +kernel
  exact this j hj
 generalize List.replicate 256 (0:UInt8)=Z at *
 show dM E ((nB 3 (fG 3 4 (dM E) 2)).getD j 0) j ((fG 3 4 (dM E) 2).getD (Ks 3 j) [])=Z
 rw [hes,aC,hBj,Option.getD_some]
 exact aCb hE _ _ _
end Go.Proofs.YtnhnpjokpelkbaaGreat
