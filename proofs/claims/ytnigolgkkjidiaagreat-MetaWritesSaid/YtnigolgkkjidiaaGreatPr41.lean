/- A store that is opened: the document's. -/
import Derived.Test.YtnigolgkkjidiaaGreatPr39
import Derived.Test.YtnigolgkkjidiaaGreatPr40
import Derived.Test.YtnigolgkkjidiaaGreatPr34
import Derived.Test.YtnigolgkkjidiaaGreatPr38
import Derived.Test.YtnigolgkkjidiaaGreatPr20
import Derived.Test.YtnigolgkkjidiaaGreatPr11
set_option linter.unusedVariables false
set_option linter.unusedSimpArgs false
set_option linter.unusedSectionVars false
set_option maxHeartbeats 4000000
namespace Go.Proofs.YtnigolgkkjidiaaGreat
open Go Go.Proofs.Tryz
section
attribute [local irreducible] SW SL SQ SH SA SS Pu Fin bZ aT
theorem aLA{d tr sp p t:Nat}(h:Gm.Ok p t){σ:Dv}{r:Rg}{Hd:Hp}(hD:lU d σ Hd)(hlen:σ.len=256*Gm.total p t)(hr:r.Ok)(wr:Bool) :
  Tri prog 137 [rK d tr sp p t,.bool wr] ((tr,cl (rtc d r) 128)::Hd) (fun _=>True)
  (fun v H=>∃ v1 Hd' Ho,v=.tuple #[v1,.int .i64 (jJ p t wr (σ,r)).1]∧lU d (jJ p t wr (σ,r)).2.1 Hd'∧aKB v1 d tr sp p t (jG p t wr σ r) Ho ∧
   H=(tr,cl (rtc d (jJ p t wr (σ,r)).2.2) 128)::(Hd'++Ho)):=by
 refine Tri.mk func137 rfl ntmps137 rfl fun w hw=>?_
 have hmy:=aEd (tr:=tr) (s:=sp) h hD hlen
 obtain⟨f1,f2,f3⟩:=aFn d hr
 have hll:=Gm.leaves_le h
 have ht:=h.2.2.2
 have hl1:1≤Gm.leaves p:=by unfold Gm.leaves;omega
 have h8:σ.ws.length%8=0:=by unfold Dv.len at hlen;omega
 by_cases hE:wr=true∧r.c=18446744073709551615
 ·obtain⟨rfl,hc⟩:=hE
  have e1:jJ p t true (σ,r)=(21,(σ,r)):=by unfold jJ;rw [if_pos ⟨rfl,hc⟩]
  have e3:jG p t true σ r=none:=by unfold jG;rw [e1,if_neg (by show ¬ (21:Int)=0;decide)]
  rw [e1,e3]
  refine W.k fun b_=>?_
  refine aL hmy ?_
  rintro _ Hx ⟨rfl,hx⟩
  have hx:=hx.symm
  subst hx
  refine W.k ?_
  refine Fin.to ((tr,cl (rtc d r) 128)::(Hd++[])) ?_
  exact F.f2 ⟨_,Hd,[],rfl,hD,⟨rfl,rfl⟩,rfl⟩
 have hlk:=aLz (tr:=tr) (sp:=sp) h hD hlen hr
 cases wr with
 | false=>
  refine W.k fun b_=>?_
  refine aL hmy ?_
  rintro _ Hx ⟨rfl,hx⟩
  have hx:=hx.symm
  subst hx
  refine W.k ?_
  refine aL hlk ?_
  rintro _ _ (⟨hdn,rfl,rfl⟩|⟨hdn,v1,cv,ev,Hb,rfl,oe,hB,rfl⟩)
  ·have e1:jJ p t false (σ,r)=(8,(σ,r)):=by unfold jJ;rw [if_neg hE,if_pos hdn]
   have e3:jG p t false σ r=none:=by unfold jG;rw [e1,if_neg (by show ¬ (8:Int)=0;decide)]
   rw [e1,e3]
   refine W.k fun b_=>?_
   refine Fin.to ((tr,cl (rtc d r) 128)::(Hd++[])) ?_
   exact F.f2 ⟨_,Hd,[],rfl,hD,⟨rfl,rfl⟩,rfl⟩
  have hlo:=aBf (r:=r) hD.1 hdn hlen
  have hB1:=hB.one
  obtain⟨vs,Hv,Ht,hSv,hRv,rfl⟩:=hB
  obtain⟨va,vl,vc,rfl,hvl⟩:=hSv.form
  rw [Nat.mul_one,hRv.1,hlo.1] at hvl
  subst hvl
  by_cases h3:(fY p t σ r).1=3
  ·have e1:jJ p t false (σ,r)=(20,(σ,r)):=by unfold jJ;rw [if_neg hE,if_neg (by show ¬ σ.down=true;rw [hdn];decide),if_pos h3]
   have e3:jG p t false σ r=none:=by unfold jG;rw [e1,if_neg (by show ¬ (20:Int)=0;decide)]
   rw [e1,e3,h3]
   refine W.k fun b_=>?_
   refine Fin.to ((tr,cl (rtc d r) 128)::(Hd++[])) ?_
   exact F.f2 ⟨_,Hd,[],rfl,hD,⟨rfl,rfl⟩,rfl⟩
  have e1:=tM hE hdn h3
  have e3:jG p t false σ r=if (rG p t false (fY p t σ r).2 (σ,r)).1=0 then some ⟨mP p (fY p t σ r).2,fL (fY p t σ r).2,false,0⟩ else none:=by unfold jG;rw [e1]
  rw [e1,e3]
  clear e1 e3 hlk
  have hkn:¬ (((fY p t σ r).1:Nat):Int)=3:=om
  generalize (fY p t σ r).2=B at *
  generalize (fY p t σ r).1=kd at *
  obtain⟨hBl,hb256⟩:=hlo
  have hF:rG p t false B (σ,r)=(dN p t B).t.and (if false=true then gV else fun σ=>(0,σ)) (σ,r):=by unfold rG;rfl
  generalize hFF:rG p t false B (σ,r)=FF at *
  have hwt:∀ x,(dN p t B).t (x,r)=((dN p t B x).1,(dN p t B x).2,r):=fun _=>rfl
  refine W.k fun b_=>?_
  refine aL (aAK h _ vs B hRv hBl hb256) ?_ (hpre:=fun w2 hs=>Rd.own (Hc:=Ht) hSv hs inferInstance)
  rintro v8 _ ⟨Hep,hSp,rfl⟩
  have hSp1:=hSp.isOne
  refine W.j ?_
  generalize b_=b6 at *
  refine cN [1,2,6,8] Hd (fun _:Dv×Hp=>[]) (fun x=>x.2) (fun x=>lU d x.1 x.2∧nR (iN 0 B) σ=(0,x.1)) ?_ ?_
  ·have hSv0:=hSv
   rcases hSv with ⟨hz,hz2,-⟩|⟨bb,len,cap,junk,hz,hxl,hj,hlc2,rfl⟩
   ·simp only [Value.slice.injEq] at hz
    obtain⟨-,hz,-⟩:=hz
    omega
   simp only [Value.slice.injEq] at hz
   obtain⟨rfl,rfl,rfl⟩:=hz
   refine W.k ?_
   refine bN [1,2,6,8,41,42] (fun x:Nat×Dv×Hp=>[(43,.int .i64 (x.1:Int))]) (fun x=>x.2.2) (fun x=>B.length-x.1) (fun x=>x.1≤B.length∧lU d x.2.1 x.2.2∧nR (iN 0 (B.take x.1)) σ=(0,x.2.1)) (0,σ,Hd) ⟨Nat.zero_le _,hD,by rw [cQ];rfl⟩ ?_
   rintro⟨k,σ2,Hd2⟩ ⟨hk,hD2,hp⟩
   dsimp only at hk hD2 hp ⊢
   by_cases hkB:k<B.length
   ·have hbk:=aA hkB
    obtain⟨u,hu1,hu2⟩:=hRv.2 k _ hbk
    have hv:(vs++junk)[k]?=some u:=by rw [aN (by rw [hRv.1];exact hkB)];exact hu1
    have huo:=hu2.one
    have hbl2:=hb256 _ (dR hkB)
    have hwl2:σ2.ws.length=σ.ws.length:=by have:=oL (iN 0 (B.take k)) σ;rw [hp] at this;exact this
    have hpt:=aEc (tr:=tr) (s:=sp) (p:=p) (t:=t) hD2 (by rw [hwl2];exact h8) k om u B[k] om
    have htl:(B.take k).length=k:=by rw [aD];omega
    have hs1:nR (iN 0 (B.take (k+1))) σ=if (gU k B[k] σ2).1=0 then (0,(gU k B[k] σ2).2) else gU k B[k] σ2:=by
     rw [aO,hbk,eQ,tV,pP,htl,fP]
     show DS.and _ ((gU k B[k]).and fun σ=>(0,σ)) σ=_
     unfold DS.and
     rw [hp]
     simp
    have hs2:(gU k B[k] σ2).1≠0→nR (iN 0 B) σ=gU k B[k] σ2:=fun hne=>by
     have e:iN 0 B=iN 0 (B.take (k+1))++iN (0+(B.take (k+1)).length) (B.drop (k+1)):=by rw [← aAb,bY]
     rw [e,pP]
     unfold DS.and
     rw [hs1,if_neg hne,if_neg hne]
    generalize B[k]=bk at *
    refine W.k ?_
    refine aL hpt ?_ (hpre:=fun w2 hs=>hu2.rd (Hc:=Hd2) hs)
    rintro _ Hd3 ⟨rfl,hD3⟩
    by_cases hz0:(gU k bk σ2).1=0
    ·rw [if_pos hz0] at hs1
     refine W.k ?_
     refine aT.mk (k+1,(gU k bk σ2).2,Hd3) ?_
     exact⟨hkB,hD3,hs1⟩
    ·have he:=hs2 hz0
     have ewS:dN p t B σ=gU k bk σ2:=by
      have e1:iK B σ=gU k bk σ2:=by rw [← he];exact DS.and_ne (by rw [he];exact hz0)
      rw [← e1];exact DS.and_ne (by rw [e1];exact hz0)
     have eF:FF=((gU k bk σ2).1,(gU k bk σ2).2,r):=by
      rw [hF,TS.and_ne (by rw [hwt,ewS];exact hz0),hwt,ewS]
     rw [eF,if_neg hz0]
     refine W.k ?_
     refine Fin.to ((tr,cl (rtc d r) 128)::(Hd3++[])) ?_
     exact F.f2 ⟨_,Hd3,[],rfl,hD3,⟨rfl,rfl⟩,rfl⟩
   ·have hkn:k=B.length:=om
    rw [hkn,bT] at hp
    subst hkn
    refine W.k ?_
    refine bZ.mk (σ2,Hd2) ?_
    exact⟨hD2,hp⟩
  rintro⟨σ2,Hd2⟩ ⟨hD2,hp⟩
  dsimp only at hD2 hp ⊢
  have hwl2:σ2.ws.length=σ.ws.length:=by have:=oL (iN 0 B) σ;rw [hp] at this;exact this
  have e1:iK B σ=feS σ2:=DS.and_eq hp
  have hfe:=zZ hD2
  have hfwl:σ2.fence.ws.length=σ2.ws.length:=vS σ2
  by_cases hz0:(feS σ2).1=0
  ·have ef0:σ2.actR 0 0=0:=hz0
   have e2:dN p t B σ=iU (Gm.leaves p) (1+t) σ2.fence:=by
    unfold dN
    rw [DS.and_eq (y:=σ2.fence) (by rw [e1];exact zU hz0)]
   rw [ef0] at hfe
   refine W.k ?_
   refine aL hfe ?_
   rintro _ Hd3 ⟨rfl,hD3⟩
   have hsc:=aCj (tr:=tr) (s:=sp) h hD3 (by rw [hfwl,hwl2];exact h8) (1+t) om
   rw [show ((1+t:Nat):Int)=1+(t:Int) by omega] at hsc
   generalize hsq:iU (Gm.leaves p) (1+t) σ2.fence=SQ2 at *
   obtain⟨es,σ3⟩:=SQ2
   dsimp only at hsc
   refine W.k ?_
   refine aL hsc ?_
   rintro _ Hd4 ⟨rfl,hD4⟩
   by_cases hz1:es=0
   ·subst hz1
    have eF:FF=(if false=true then gV else fun σ=>(0,σ)) (σ3,r):=by rw [hF,TS.and_eq (y:=(σ3,r)) (by rw [hwt,e2])]
    have eF2:FF=(0,σ3,r):=eF
    rw [eF2,if_pos rfl]
    have hlv:=xE (.slice va (Gm.leaves p) vc) vs B hRv om hb256
    refine W.k ?_
    (refine SW.l [7] [0,1,2,3,5] ?_;refine aX 4 ?_)
    refine aL hlv ?_ (hpre:=fun w2 hs=>Rd.own (Hc:=Ht) hSv hs inferInstance)
    rintro v9 _ ⟨H9,h9,rfl⟩
    have h91:=h9.isOne
    obtain⟨a9,l9,c9,rfl,-⟩:=h9.form
    obtain⟨a8,l8,c8,rfl,-⟩:=hSp.form
    have hbd:bQ (fun i=>[(0,5),(5,1),(6,1),(7,1),(8,1)][i]?) (List.replicate 3 (.pointer none)++[.int .i64 0,.int .i64 0]++[.slice none 0 0,.slice none 0 0]++[.bool false]++[.int .i64 0]) [(0,rK d tr sp p t),(1,.slice a8 l8 c8),(2,.slice a9 l9 c9),(3,.bool false)]=some [ptv d,ptv tr,ptv sp,.int .i64 (p:Int),.int .i64 (t:Int),.slice a8 l8 c8,.slice a9 l9 c9,.bool false,.int .i64 0]:=rfl
    (refine SL.l [6] ?_;refine cB 7 ?_;refine W.i fun b_=>?_;refine SG.l [8,9,10] ?_)
    refine W.k ?_
    refine Fin.to ((tr,cl (rtc d r) 128)::(Hd4++((b_,cl [ptv d,ptv tr,ptv sp,.int .i64 (p:Int),.int .i64 (t:Int),.slice a8 l8 c8,.slice a9 l9 c9,.bool false,.int .i64 0] 344)::(Hep++H9)))) ?_
    exact F.f2 ⟨_,Hd4,_,rfl,hD4,⟨b_,rfl,_,_,Hep,H9,rfl,hSp,h9⟩,rfl⟩
   ·have eF:FF=(es,σ3,r):=by rw [hF,TS.and_ne (by rw [hwt,e2];exact hz1),hwt,e2]
    rw [eF,if_neg hz1]
    refine W.k ?_
    refine Fin.to ((tr,cl (rtc d r) 128)::(Hd4++[])) ?_
    exact F.f2 ⟨_,Hd4,[],rfl,hD4,⟨rfl,rfl⟩,rfl⟩
  ·have e2:dN p t B σ=feS σ2:=by rw [← e1];exact DS.and_ne (by rw [e1];exact hz0)
   have eF:FF=((feS σ2).1,(feS σ2).2,r):=by rw [hF,TS.and_ne (by rw [hwt,e2];exact hz0),hwt,e2]
   rw [eF,if_neg hz0]
   have ef0:¬ σ2.actR 0 0=0:=hz0
   refine W.k ?_
   refine aL hfe ?_
   rintro _ Hd3 ⟨rfl,hD3⟩
   refine W.k ?_
   refine Fin.to ((tr,cl (rtc d r) 128)::(Hd3++[])) ?_
   exact F.f2 ⟨_,Hd3,[],rfl,hD3,⟨rfl,rfl⟩,rfl⟩
 | true=>
  have hcn:¬ r.c=18446744073709551615:=fun hc=>hE ⟨rfl,hc⟩
  have hlt:r.c<18446744073709551615:=by have:=hr.c1;omega
  refine W.k fun b_=>?_
  refine aL hmy ?_
  rintro _ Hx ⟨rfl,hx⟩
  have hx:=hx.symm
  subst hx
  refine W.k ?_
  refine aL hlk ?_
  rintro _ _ (⟨hdn,rfl,rfl⟩|⟨hdn,v1,cv,ev,Hb,rfl,oe,hB,rfl⟩)
  ·have e1:jJ p t true (σ,r)=(8,(σ,r)):=by unfold jJ;rw [if_neg hE,if_pos hdn]
   have e3:jG p t true σ r=none:=by unfold jG;rw [e1,if_neg (by show ¬ (8:Int)=0;decide)]
   rw [e1,e3]
   refine W.k fun b_=>?_
   refine Fin.to ((tr,cl (rtc d r) 128)::(Hd++[])) ?_
   exact F.f2 ⟨_,Hd,[],rfl,hD,⟨rfl,rfl⟩,rfl⟩
  have hlo:=aBf (r:=r) hD.1 hdn hlen
  have hB1:=hB.one
  obtain⟨vs,Hv,Ht,hSv,hRv,rfl⟩:=hB
  obtain⟨va,vl,vc,rfl,hvl⟩:=hSv.form
  rw [Nat.mul_one,hRv.1,hlo.1] at hvl
  subst hvl
  by_cases h3:(fY p t σ r).1=3
  ·have e1:jJ p t true (σ,r)=(20,(σ,r)):=by unfold jJ;rw [if_neg hE,if_neg (by show ¬ σ.down=true;rw [hdn];decide),if_pos h3]
   have e3:jG p t true σ r=none:=by unfold jG;rw [e1,if_neg (by show ¬ (20:Int)=0;decide)]
   rw [e1,e3,h3]
   refine W.k fun b_=>?_
   refine Fin.to ((tr,cl (rtc d r) 128)::(Hd++[])) ?_
   exact F.f2 ⟨_,Hd,[],rfl,hD,⟨rfl,rfl⟩,rfl⟩
  have e1:=tM hE hdn h3
  have e3:jG p t true σ r=if (rG p t true (fY p t σ r).2 (σ,r)).1=0 then some ⟨mP p (fY p t σ r).2,fL (fY p t σ r).2,true,0⟩ else none:=by unfold jG;rw [e1]
  rw [e1,e3]
  clear e1 e3 hlk
  have hkn:¬ (((fY p t σ r).1:Nat):Int)=3:=om
  generalize (fY p t σ r).2=B at *
  generalize (fY p t σ r).1=kd at *
  obtain⟨hBl,hb256⟩:=hlo
  have hF:rG p t true B (σ,r)=(dN p t B).t.and (if true=true then gV else fun σ=>(0,σ)) (σ,r):=by unfold rG;rfl
  generalize hFF:rG p t true B (σ,r)=FF at *
  have hwt:∀ x,(dN p t B).t (x,r)=((dN p t B x).1,(dN p t B x).2,r):=fun _=>rfl
  refine W.k fun b_=>?_
  refine aL (aAK h _ vs B hRv hBl hb256) ?_ (hpre:=fun w2 hs=>Rd.own (Hc:=Ht) hSv hs inferInstance)
  rintro v8 _ ⟨Hep,hSp,rfl⟩
  have hSp1:=hSp.isOne
  refine W.j ?_
  generalize b_=b6 at *
  refine cN [1,2,6,8] Hd (fun _:Dv×Hp=>[]) (fun x=>x.2) (fun x=>lU d x.1 x.2∧nR (iN 0 B) σ=(0,x.1)) ?_ ?_
  ·have hSv0:=hSv
   rcases hSv with ⟨hz,hz2,-⟩|⟨bb,len,cap,junk,hz,hxl,hj,hlc2,rfl⟩
   ·simp only [Value.slice.injEq] at hz
    obtain⟨-,hz,-⟩:=hz
    omega
   simp only [Value.slice.injEq] at hz
   obtain⟨rfl,rfl,rfl⟩:=hz
   refine W.k ?_
   refine bN [1,2,6,8,41,42] (fun x:Nat×Dv×Hp=>[(43,.int .i64 (x.1:Int))]) (fun x=>x.2.2) (fun x=>B.length-x.1) (fun x=>x.1≤B.length∧lU d x.2.1 x.2.2∧nR (iN 0 (B.take x.1)) σ=(0,x.2.1)) (0,σ,Hd) ⟨Nat.zero_le _,hD,by rw [cQ];rfl⟩ ?_
   rintro⟨k,σ2,Hd2⟩ ⟨hk,hD2,hp⟩
   dsimp only at hk hD2 hp ⊢
   by_cases hkB:k<B.length
   ·have hbk:=aA hkB
    obtain⟨u,hu1,hu2⟩:=hRv.2 k _ hbk
    have hv:(vs++junk)[k]?=some u:=by rw [aN (by rw [hRv.1];exact hkB)];exact hu1
    have huo:=hu2.one
    have hbl2:=hb256 _ (dR hkB)
    have hwl2:σ2.ws.length=σ.ws.length:=by have:=oL (iN 0 (B.take k)) σ;rw [hp] at this;exact this
    have hpt:=aEc (tr:=tr) (s:=sp) (p:=p) (t:=t) hD2 (by rw [hwl2];exact h8) k om u B[k] om
    have htl:(B.take k).length=k:=by rw [aD];omega
    have hs1:nR (iN 0 (B.take (k+1))) σ=if (gU k B[k] σ2).1=0 then (0,(gU k B[k] σ2).2) else gU k B[k] σ2:=by
     rw [aO,hbk,eQ,tV,pP,htl,fP]
     show DS.and _ ((gU k B[k]).and fun σ=>(0,σ)) σ=_
     unfold DS.and
     rw [hp]
     simp
    have hs2:(gU k B[k] σ2).1≠0→nR (iN 0 B) σ=gU k B[k] σ2:=fun hne=>by
     have e:iN 0 B=iN 0 (B.take (k+1))++iN (0+(B.take (k+1)).length) (B.drop (k+1)):=by rw [← aAb,bY]
     rw [e,pP]
     unfold DS.and
     rw [hs1,if_neg hne,if_neg hne]
    generalize B[k]=bk at *
    refine W.k ?_
    refine aL hpt ?_ (hpre:=fun w2 hs=>hu2.rd (Hc:=Hd2) hs)
    rintro _ Hd3 ⟨rfl,hD3⟩
    by_cases hz0:(gU k bk σ2).1=0
    ·rw [if_pos hz0] at hs1
     refine W.k ?_
     refine aT.mk (k+1,(gU k bk σ2).2,Hd3) ?_
     exact⟨hkB,hD3,hs1⟩
    ·have he:=hs2 hz0
     have ewS:dN p t B σ=gU k bk σ2:=by
      have e1:iK B σ=gU k bk σ2:=by rw [← he];exact DS.and_ne (by rw [he];exact hz0)
      rw [← e1];exact DS.and_ne (by rw [e1];exact hz0)
     have eF:FF=((gU k bk σ2).1,(gU k bk σ2).2,r):=by
      rw [hF,TS.and_ne (by rw [hwt,ewS];exact hz0),hwt,ewS]
     rw [eF,if_neg hz0]
     refine W.k ?_
     refine Fin.to ((tr,cl (rtc d r) 128)::(Hd3++[])) ?_
     exact F.f2 ⟨_,Hd3,[],rfl,hD3,⟨rfl,rfl⟩,rfl⟩
   ·have hkn:k=B.length:=om
    rw [hkn,bT] at hp
    subst hkn
    refine W.k ?_
    refine bZ.mk (σ2,Hd2) ?_
    exact⟨hD2,hp⟩
  rintro⟨σ2,Hd2⟩ ⟨hD2,hp⟩
  dsimp only at hD2 hp ⊢
  have hwl2:σ2.ws.length=σ.ws.length:=by have:=oL (iN 0 B) σ;rw [hp] at this;exact this
  have e1:iK B σ=feS σ2:=DS.and_eq hp
  have hfe:=zZ hD2
  have hfwl:σ2.fence.ws.length=σ2.ws.length:=vS σ2
  by_cases hz0:(feS σ2).1=0
  ·have ef0:σ2.actR 0 0=0:=hz0
   have e2:dN p t B σ=iU (Gm.leaves p) (1+t) σ2.fence:=by
    unfold dN
    rw [DS.and_eq (y:=σ2.fence) (by rw [e1];exact zU hz0)]
   rw [ef0] at hfe
   refine W.k ?_
   refine aL hfe ?_
   rintro _ Hd3 ⟨rfl,hD3⟩
   have hsc:=aCj (tr:=tr) (s:=sp) h hD3 (by rw [hfwl,hwl2];exact h8) (1+t) om
   rw [show ((1+t:Nat):Int)=1+(t:Int) by omega] at hsc
   generalize hsq:iU (Gm.leaves p) (1+t) σ2.fence=SQ2 at *
   obtain⟨es,σ3⟩:=SQ2
   dsimp only at hsc
   refine W.k ?_
   refine aL hsc ?_
   rintro _ Hd4 ⟨rfl,hD4⟩
   by_cases hz1:es=0
   ·subst hz1
    have eF:FF=(if true=true then gV else fun σ=>(0,σ)) (σ3,r):=by rw [hF,TS.and_eq (y:=(σ3,r)) (by rw [hwt,e2])]
    have hbm:=aHf (tr:=tr) (s:=sp) (p:=p) (t:=t) hD4 hr hlt
    have eF2:FF=gV (σ3,r):=eF
    rw [eF2]
    clear eF eF2 hF hFF
    generalize gV (σ3,r)=G at *
    obtain⟨eb,σ4,r4⟩:=G
    dsimp only at hbm ⊢
    refine W.k ?_
    refine aL hbm ?_
    rintro _ _ ⟨rfl,Hd5,hD5,rfl⟩
    by_cases hz2:eb=0
    ·subst hz2
     rw [if_pos rfl]
     have hlv:=xE (.slice va (Gm.leaves p) vc) vs B hRv om hb256
     refine W.k ?_
     (refine SW.l [7] [0,1,2,3,5] ?_;refine aX 4 ?_)
     refine aL hlv ?_ (hpre:=fun w2 hs=>Rd.own (Hc:=Ht) hSv hs inferInstance)
     rintro v9 _ ⟨H9,h9,rfl⟩
     have h91:=h9.isOne
     obtain⟨a9,l9,c9,rfl,-⟩:=h9.form
     obtain⟨a8,l8,c8,rfl,-⟩:=hSp.form
     have hbd:bQ (fun i=>[(0,5),(5,1),(6,1),(7,1),(8,1)][i]?) (List.replicate 3 (.pointer none)++[.int .i64 0,.int .i64 0]++[.slice none 0 0,.slice none 0 0]++[.bool false]++[.int .i64 0]) [(0,rK d tr sp p t),(1,.slice a8 l8 c8),(2,.slice a9 l9 c9),(3,.bool true)]=some [ptv d,ptv tr,ptv sp,.int .i64 (p:Int),.int .i64 (t:Int),.slice a8 l8 c8,.slice a9 l9 c9,.bool true,.int .i64 0]:=rfl
     (refine SL.l [6] ?_;refine cB 7 ?_;refine W.i fun b_=>?_;refine SG.l [8,9,10] ?_)
     refine W.k ?_
     refine Fin.to ((tr,cl (rtc d r4) 128)::(Hd5++((b_,cl [ptv d,ptv tr,ptv sp,.int .i64 (p:Int),.int .i64 (t:Int),.slice a8 l8 c8,.slice a9 l9 c9,.bool true,.int .i64 0] 344)::(Hep++H9)))) ?_
     exact F.f2 ⟨_,Hd5,_,rfl,hD5,⟨b_,rfl,_,_,Hep,H9,rfl,hSp,h9⟩,rfl⟩
    ·rw [if_neg hz2]
     refine W.k ?_
     refine Fin.to ((tr,cl (rtc d r4) 128)::(Hd5++[])) ?_
     exact F.f2 ⟨_,Hd5,[],rfl,hD5,⟨rfl,rfl⟩,rfl⟩
   ·have eF:FF=(es,σ3,r):=by rw [hF,TS.and_ne (by rw [hwt,e2];exact hz1),hwt,e2]
    rw [eF,if_neg hz1]
    refine W.k ?_
    refine Fin.to ((tr,cl (rtc d r) 128)::(Hd4++[])) ?_
    exact F.f2 ⟨_,Hd4,[],rfl,hD4,⟨rfl,rfl⟩,rfl⟩
  ·have e2:dN p t B σ=feS σ2:=by rw [← e1];exact DS.and_ne (by rw [e1];exact hz0)
   have eF:FF=((feS σ2).1,(feS σ2).2,r):=by rw [hF,TS.and_ne (by rw [hwt,e2];exact hz0),hwt,e2]
   rw [eF,if_neg hz0]
   have ef0:¬ σ2.actR 0 0=0:=hz0
   refine W.k ?_
   refine aL hfe ?_
   rintro _ Hd3 ⟨rfl,hD3⟩
   refine W.k ?_
   refine Fin.to ((tr,cl (rtc d r) 128)::(Hd3++[])) ?_
   exact F.f2 ⟨_,Hd3,[],rfl,hD3,⟨rfl,rfl⟩,rfl⟩
theorem aLl{pp p t n N:Nat}{ws ws':List (List UInt8)}{σ:Dv}{r:Rg}{sr:Sr}{β:Bk}{o:Option So}{H:Hp}(h:Gm.Ok p t)(hP:aEn pp p t n N ws ws' σ r sr β o H)(hlen:σ.len=256*Gm.total p t)(hr:r.Ok)(wr:Bool) :
  Tri prog 62 [ptv pp,.bool wr] H (fun _=>True) (fun v H'=>v=.bool true ∧
   aEn pp p t n N ws ws' (jJ p t wr (σ,r)).2.1 (jJ p t wr (σ,r)).2.2 sr (sA p t wr σ r β) (jG p t wr σ r) H'):=by
 obtain⟨i,sv,rv,Hd,Hs,Hk,HD,HR,HS,HT,hD,hS,hB,hDR,hSR,hO,hOR,rfl⟩:=hP
 refine Tri.mk func62 rfl ntmps62 rfl fun w hw=>?_
 have hF:=aMv (tr:=i.tr) (s:=i.s) h hD hlen hr hB wr
 have hG:=aLA (tr:=i.rtr) (sp:=i.rs) h hDR hlen hr wr
 have o1:=hO.one
 have o2:=hOR.one
 have hz:jG p t wr σ r=if (jJ p t wr (σ,r)).1=0 then some ⟨mP p (fY p t σ r).2,fL (fY p t σ r).2,wr,0⟩ else none:=rfl
 generalize jG p t wr σ r=oo at *
 generalize sA p t wr σ r β=β2 at *
 generalize jJ p t wr (σ,r)=FF at *
 obtain⟨e,σ2,r2⟩:=FF
 dsimp only at hF hG hz ⊢
 refine W.k ?_
 refine aL hF ?_
 rintro _ _ ⟨v1,Hd2,Hk2,HS2,Hx,rfl,hD2,hB2,hO2,rfl⟩
 have o3:=hO2.one
 refine W.k ?_
 refine aL hG ?_
 rintro _ _ ⟨v2,HD2,HT2,rfl,hDR2,hOR2,rfl⟩
 have o4:=hOR2.one
 have hO3:=hO2
 by_cases he:e=0
 ·rw [if_pos he] at hz
  subst hz
  subst he
  obtain⟨sp,rfl,-⟩:=hO2
  refine W.k ?_
  rw [show ((xR i p t sv rv).set 6 (ptv sp)).set 12 v2=xR i p t (ptv sp) v2 from rfl]
  refine Fin.to ((pp,cl (xR i p t (ptv sp) v2) 43)::(i.tr,cl (trc i.d r2) 225)::(i.rtr,cl (rtc i.rd r2) 128)::(Hd2++(Hs++(Hk2++(HD2++(HR++(HS2++HT2))))))) ?_
  exact F.f1 ⟨rfl,i,_,v2,Hd2,Hs,Hk2,HD2,HR,HS2,HT2,hD2,hS,hB2,hDR2,hSR,hO3,hOR2,rfl⟩
 ·rw [if_neg he] at hz
  subst hz
  obtain⟨rfl,-⟩:=hO2
  refine W.k ?_
  rw [show ((xR i p t sv rv).set 6 (.pointer none)).set 12 v2=xR i p t (.pointer none) v2 from rfl]
  refine Fin.to ((pp,cl (xR i p t (.pointer none) v2) 43)::(i.tr,cl (trc i.d r2) 225)::(i.rtr,cl (rtc i.rd r2) 128)::(Hd2++(Hs++(Hk2++(HD2++(HR++(HS2++HT2))))))) ?_
  exact F.f1 ⟨rfl,i,_,v2,Hd2,Hs,Hk2,HD2,HR,HS2,HT2,hD2,hS,hB2,hDR2,hSR,hO3,hOR2,rfl⟩
theorem aE2{p t:Nat}{σ:Dv}{r:Rg}{n:Nat}{B:List (List UInt8)}{R:List UInt8}(h:σ.Sta n (B.flatten++R))(hn:8*n=256*Gm.total p t)(hB:∀ b∈B,b.length=256)(hBl:B.length=Gm.leaves p)(hr:r.root=gP B)(hs:B.getD 0 []=iD p t):fY p t σ r=(1,B):=by
 have htot:Gm.total p t=Gm.leaves p+(1+t):=rfl
 have hbk:=h.blks hB om
 rw [hBl] at hbk
 unfold fY
 rw [hbk]
 exact uJ (by unfold mF;rw [hr,hs];simp)
theorem aIk{p t:Nat}{σ:Dv}{n:Nat}{M:List UInt8}{B:List (List UInt8)}(h1:σ.Sta n M)(hn:8*n=256*Gm.total p t)(h256:∀ b∈B,b.length=256)(hbl:B.length=Gm.leaves p) :
  (dN p t B σ).1=0∧(dN p t B σ).2.Sta n (B.flatten++List.replicate (256*(1+t)) 0):=by
 have htot:Gm.total p t=Gm.leaves p+(1+t):=rfl
 have hfl:B.flatten.length=256*B.length:=by
  clear hbl
  induction B with
  | nil=>rfl
  | cons x r ih=>rw [dG,aC,h256 x (by simp),ih (fun y hy=>h256 y (by simp [hy])),aW];omega
 have hM:=h1.ml
 have hD:(dN p t B σ).1=0∧(dN p t B σ).2.Sta n (spl (spl M (256*0) B.flatten) (256*Gm.leaves p) (List.replicate (256*(1+t)) 0)):=by
  refine DS.and_sta (DS.and_sta (Dv.Sta.putL B h1 0 h256 (by rw [hbl];omega)) fun τ ht=>ht.fence) fun τ ht=>?_
  refine DS.and_sta (a:=gU (Gm.leaves p) (List.replicate (256*(1+t)) 0)) (ht.put (by rw [aM];omega)) fun τ' ht'=>ht'.fence
 have es:spl (spl M (256*0) B.flatten) (256*Gm.leaves p) (List.replicate (256*(1+t)) 0)=B.flatten++List.replicate (256*(1+t)) 0:=by
  rw [show 256*Gm.leaves p=256*0+B.flatten.length by rw [hfl,hbl];omega,aEh _ _ _ _ (by rw [hfl,hbl,aM];omega)]
  unfold spl
  rw [show 256*0=0 from rfl,cQ,List.nil_append,cY (by rw [aC,hfl,hbl,aM];omega),aJ]
 rwa [es] at hD
theorem aJx{p t:Nat}{σ:Dv}{r:Rg}{n:Nat}{B:List (List UInt8)}{R:List UInt8}(h:σ.Sta n (B.flatten++R))(hn:8*n=256*Gm.total p t)(hB:∀ b∈B,b.length=256)(hBl:B.length=Gm.leaves p)(hr:r.root=gP B)(hs:B.getD 0 []=iD p t)(hc:r.c<18446744073709551615) :
  ∃ σ',jJ p t true (σ,r)=(0,(σ',{ r with c:=r.c+1 }))∧σ'.Sta n (B.flatten++List.replicate (256*(1+t)) 0):=by
 have hl:=aE2 h hn hB hBl hr hs
 rw [tM (fun hh=>by have:=hh.2;omega) h.l.d (by rw [hl];show 1≠3;decide),hl]
 obtain⟨e2,h2⟩:=aIk (p:=p) (t:=t) h hn hB hBl
 obtain⟨σ3,e3,h3⟩:=aBD (r:=r) h2 { r with c:=r.c+1 } (by show r.c<r.c+1;omega)
 refine⟨σ3,?_,h3⟩
 unfold rG
 rw [TS.and_eq (y:=((dN p t B σ).2,r)) (by unfold DS.t;dsimp only;rw [e2]),if_pos rfl]
 exact e3
def aO2(k:List UInt8)(pp b:Nat)(most:Int)(l:Bl)(H:Hp):Prop:=
 ∃ (i:Pid) (sp:Nat) (rv:Value) (σ:Dv) (x:So) (sr:Sr) (β:Bk) (Hd Hs Hk HS HB:Hp),iQ i.d σ Hd∧nU i.s i.c i.b 10 (Aes.sched k) sr Hs∧fR i.bk i.tb β Hk∧uD sp i.d i.tr i.s i.bk 3 4 x HS∧aKt b sp most l HB ∧
  x.Ok 3∧x.st=0∧σ.len=256*Gm.total 3 4∧(∀ j:Nat,j<5→rdS 3 (eC (Aes.enc (Aes.sched k) 10)) (j:Int) σ x=(0,List.replicate 256 0,x)) ∧
  H=(pp,cl (xR i 3 4 (ptv sp) rv) 43)::(Hd++(Hs++(Hk++(HS++HB))))
abbrev aLe:List UInt8:=3::List.replicate 15 0
theorem aHx:Tri prog 83 [iX 3 4] [] (fun _=>True)
  (fun v H=>∃ pp b rb,v=.tuple #[ptv pp,ptv b,ptv rb,.bool true]∧aO2 aLe pp b ((4:Nat):Int) [] H):=by
 refine Tri.mk func83 rfl ntmps83 rfl fun w hw=>?_
 obtain⟨k,hkk⟩:∃ k,k=aLe:=⟨_,rfl⟩
 have hk:k.length=16:=by rw [hkk];rfl
 have hbk:bQ (fun i=>some (i*1,1)) (List.replicate 16 (.int .u8 0)) [(0,.int .u8 3)]=some (cbs k):=by rw [hkk];rfl
 rw [← hkk]
 have hk0:(cbs k).length=16:=by rw [aI];exact hk
 obtain⟨σ',hF,hSta⟩:=aLa aDW (E:=Aes.enc (Aes.sched k) 10) (fun x=>Aes.enc_len ..) (cnt:=0) dc dc dc
 have hB:=oW (p:=3) (t:=4) (E:=Aes.enc (Aes.sched k) 10) (fun x=>Aes.enc_len ..) (UInt64.ofNat ((0:Int)+2).toNat)
 have hBl:=rC 3 4 (eC (Aes.enc (Aes.sched k) 10)) (UInt64.ofNat ((0:Int)+2).toNat)
 have hB0:(gA 3 4 (eC (Aes.enc (Aes.sched k) 10)) (UInt64.ofNat ((0:Int)+2).toNat)).getD 0 []=iD 3 4:=rfl
 have hX:=aMH k hk
 have hK:=aCo k hk
 have hK':=aIc k hk
 have hbeg:=aIG aDW k hk (cnt:=0) dc dc
 have hpf:=fun pp H hP=>aHV (pp:=pp) (H:=H) (o:=none) (N:=0) (sr:=Sr.new) (β:=Bk.new) (σ:=Dv.new (4*Gm.total 3 4:Nat)) (r:=rg0 0) aDW hP (by have:=(aG1 (4*Gm.total 3 4) dc).len;omega) (aJ0 dc dc) hK hK' om hX
 rw [hF] at hpf
 have hfr:=fun (τ:Dv) (n:Nat) (R:List UInt8) (h:τ.Sta n ((gA 3 4 (eC (Aes.enc (Aes.sched k) 10)) (UInt64.ofNat ((0:Int)+2).toNat)).flatten++R)) (hn:8*n=256*Gm.total 3 4) (j:Nat) (hj:j<5)=>aFV (e:=UInt64.ofNat ((0:Int)+2).toNat) rfl (E:=Aes.enc (Aes.sched k) 10) (fun x=>Aes.enc_len ..) h hn hj true
 generalize uY 3 (Dv.new (4*Gm.total 3 4:Nat)) (rg0 0) Sr.new=sr at *
 generalize aA5 3 4 10 (Aes.sched k) (Dv.new (4*Gm.total 3 4:Nat)) (rg0 0) Bk.new=β at *
 generalize hXX:eC (Aes.enc (Aes.sched k) 10)=X at *
 generalize gA 3 4 X (UInt64.ofNat ((0:Int)+2).toNat)=B at *
 have hrl:(gP B).length=32:=Sha.sum_len _
 have hlen:σ'.len=256*Gm.total 3 4:=by rw [hSta.len];rfl
 generalize hrr:({ c:=0+2,root:=gP B }:Rg)=r2 at *
 have hr2:r2.Ok:=by rw [← hrr];exact⟨hrl,by show (0:Int)≤0+2;decide,by show (0:Int)+2≤_;decide⟩
 obtain⟨σ3,hO,hS3⟩:=aJx (r:=r2) hSta (by rfl) hB hBl (by rw [← hrr]) hB0 (by rw [← hrr];show (0:Int)+2<_;decide)
 have hlk:fY 3 4 σ' r2=(1,B):=aE2 hSta (by rfl) hB hBl (by rw [← hrr]) hB0
 have hpo:=fun pp H hP=>aLl (pp:=pp) (H:=H) (n:=10) (N:=0+200) (ws:=Aes.sched k) (ws':=Rg.sched k) (sr:=sr) (β:=β) (o:=none) (σ:=σ') (r:=r2) aDW hP hlen hr2 true
 have hoo:jG 3 4 true σ' r2=some ⟨mP 3 B,fL B,true,0⟩:=by unfold jG;rw [hO,if_pos rfl,hlk]
 rw [hO,hoo] at hpo
 have hfr3:=hfr σ3 _ _ hS3 rfl
 have hlen3:σ3.len=256*Gm.total 3 4:=by rw [hS3.len];rfl
 have hxo:(⟨mP 3 B,fL B,true,0⟩:So).Ok 3:=⟨by unfold mP;simp,by dsimp only;rw [kM,hBl],pS _⟩
 clear hfr hB hBl hB0 hSta hS3 hO hlk hoo hF hX hK hK'
 generalize sA 3 4 true σ' r2 β=β2 at *
 generalize hso:(⟨mP 3 B,fL B,true,0⟩:So)=so at *
 have hst:so.st=0:=by rw [← hso]
 generalize ({ r2 with c:=r2.c+1 }:Rg)=r3 at *
 dsimp only at hpo hpf
 refine W.k fun b_=>?_
 refine aL hbeg ?_
 rintro _ H1 ⟨pp,rfl,hP⟩
 refine W.k ?_
 refine aL (hpf pp H1 hP) ?_
 rintro _ H2 ⟨rfl,hP2⟩
 clear hpf hbeg hP
 refine W.k ?_
 refine aL (hpo pp H2 hP2) ?_
 rintro _ H3 ⟨rfl,hP3⟩
 clear hpo hP2
 obtain⟨i,sv,rv,Hd,Hs,Hk,HD,HR,HS,HT,hD,hS,hBk,hDR,hSR,⟨sp,rfl,hSt⟩,⟨rsp,rfl,hRt⟩,rfl⟩:=hP3
 refine W.k ?_
 (refine SW.l [] [0,1,2,3,4,5,6,8,9,10,11,12,13,14] ?_;skip )
 refine fX 7 15 ?a ?b rfl rfl
 case' a=>
  refine aL (aIE sp (most:=((4:Nat):Int)) dc) ?_
  rintro _ HB ⟨b,rfl,hBt⟩
  refine cU ?_
  refine SS.T 16 rfl ?_
  refine SS.T 17 rfl ?_
  refine aX 15 ?_
  refine xK fun rb=>?_
  refine cU ?_
  refine SS.T 18 rfl ?_
  refine SS.T 19 rfl ?_
  refine eI ?_
 case' b=>
  refine xK fun rb=>?_
  refine cU ?_
  refine aX 7 ?_
  refine aL (aIE sp (most:=((4:Nat):Int)) dc) ?_
  rintro _ HB ⟨b,rfl,hBt⟩
  refine cU ?_
  refine SS.T 16 rfl ?_
  refine SS.T 17 rfl ?_
  refine SS.T 18 rfl ?_
  refine SS.T 19 rfl ?_
  refine eI ?_
 all_goals
  refine W.k ?_
  refine Fin.to ((pp,cl (xR i 3 4 (ptv sp) (ptv rsp)) 43)::(Hd++(Hs++(Hk++(HS++HB))))) ?_
  refine F.f4 ⟨pp,b,rb,rfl,i,sp,ptv rsp,σ3,so,sr,β2,Hd,Hs,Hk,HS,HB,hD,hS,hBk,hSt,hBt,hxo,hst,hlen3,by rw [hXX];exact hfr3,rfl⟩
abbrev aCx:List UInt8:=List.replicate 256 0
theorem aHP:kZ 3 aCx [aCx]=some (1,z16,zpg 3):=by decide +kernel
theorem aOX:Gm.up 3 16=1:=by decide
structure LdS where
 k:Nat
 lv:Value
 vs:List Value
 Hl:Hp
 Hv:Hp
 HS:Hp
 Hk:Hp
 β:Bk
theorem aJj{b sp d tr s bk tb c0 bb n:Nat}{ws:List (List UInt8)}{sr:Sr}{most:Int}{HB Hd HS Hk Hs:Hp}{σ:Dv}{x:So}{β:Bk}(hB:aKt b sp most [] HB)(hx:x.Ok 3)(hD:iQ d σ Hd)(hlen:σ.len=256*Gm.total 3 4)(hS:uD sp d tr s bk 3 4 x HS)(hK:fR bk tb β Hk)(hSe:nU s c0 bb n ws sr Hs)(hKo:pG n ws)
  (hz:∀ j:Nat,j<5→rdS 3 (eC (Aes.enc ws n)) (j:Int) σ x=(0,aCx,x)) :
  Tri prog 84 [ptv b,iX 3 4] (HB++(HS++(Hd++(Hs++Hk)))) (fun _=>True) (fun r H=>∃ pv,r=.tuple #[.agg (bF 1 z16 pv).toArray,.int .i64 0]∧Sl 185 5 pv (dK (zpg 3)) H):=by
 refine Tri.mk func84 rfl ntmps84 rfl fun w hw=>?_
 refine W.k fun _ b_=>?_
 refine W.cw (iW aDW) ?_
 refine W.cq (aDI aDW) ?_
 rw [aOX]
 refine W.j ?_
 rename_i g
 refine SW.block ?_
 refine W.j ?_
 refine bN [3,4,6,19] (fun y:LdS=>[(7,y.lv),(20,.int .i64 y.k)]) (fun y=>(g,cl (uL 3 4) 23)::(b_,cl (List.replicate 17 (.int .u64 0)++[.slice none 0 0]) 91)::(HB++(y.HS++(Hd++(Hs++(y.Hk++(y.Hl++y.Hv))))))) (fun y=>2-y.k) (fun y=>y.k≤2∧Sl 50 1 y.lv y.vs y.Hl∧RB y.Hv y.vs (List.replicate y.k aCx)∧uD sp d tr s bk 3 4 x y.HS∧fR bk tb y.β y.Hk) ⟨0,.slice none 0 0,[],[],[],HS,Hk,β⟩ ⟨Nat.zero_le _,Sl.nil _ _,RB.nil _,hS,hK⟩ ?_
 rintro⟨k,lv,vs,Hl,Hv,HS,Hk,β⟩ ⟨hk,hl,hR,hS,hK⟩
 dsimp only at hk hl hR hS hK ⊢
 have hvl:vs.length=k:=by rw [hR.1,aM]
 have hl1:=hl.isOne
 by_cases hk2:k<2
 ·have hG:=aMO hB aDW hx hD hlen hS hK hSe hKo (hz k om)
  rw [show (Bl.at [] (k:Int)).getD aCx=aCx from rfl] at hG
  refine W.k ?_
  refine dH (HB++(HS++(Hd++(Hs++Hk)))) rfl rfl rfl rfl rfl rfl hG (fun _ _=>trivial) ?_
  rintro _ _ ⟨v1,Hr,HS2,Hk2,β2,rfl,h1,hS2,hK2,rfl⟩
  have h11:=h1.isOne
  obtain⟨a1,l1,c1,rfl,hl1'⟩:=h1.form
  have hb1:bQ (fun i=>some (i*1,1)) (zs [.slice none 0 0] 1) [(0,.slice a1 l1 c1)]=some [.slice a1 l1 c1]:=rfl
  refine W.k fun b_=>?_
  refine W.ap (ys:=[.slice a1 l1 c1]) (mm:=1) hl (fun w2 hs=>(Sl.own 50 1 b_ (xs:=[.slice a1 l1 c1]) rfl).srcAt hs inferInstance) (fun lv2 Hl2 hl2=>?_) (hys:=rfl) (hbytes:=by rw [hvl];simp <;> omega)
  have hl21:=hl2.isOne
  refine W.k ?_
  refine aT.mk ⟨k+1,lv2,vs++[.slice a1 l1 c1],Hl2,Hv++Hr,HS2,Hk2,β2⟩ ?_
  refine⟨by dsimp only;omega,hl2,?_,hS2,hK2⟩
  rw [show List.replicate (k+1) aCx=List.replicate k aCx++[aCx] from jE]
  exact RB.snoc (hR.mono fun z hz=>bA _ hz) ((RdH.of h1).mono fun z hz=>aV _ hz)
 ·have hk3:k=2:=om
  subst hk3
  have hP:=aBW aDW hl aCx [aCx] hR aOX.symm (fun b hb=>by rcases cT.1 hb with h|h;rw [h];exact aM ..;rw [dP.1 h];exact aM ..)
  rw [aHP] at hP
  refine W.k ?_
  refine aL hP ?_
  rintro _ _ ⟨Hp,⟨pv,rfl,hp⟩,rfl⟩
  dsimp only at hp
  have hp1:=hp.isOne
  have hml:(bF 1 z16 pv).length=18:=rfl
  have hmo:OC (bF 1 z16 pv):=inferInstance
  refine W.k ?_
  exact F.ct Hp (bF 1 z16 pv) ⟨_,rfl,hp⟩
theorem aCU:Tri prog 29 [] [] (fun _=>True) (fun v H=>v=.bool true∧H=[]):=by
 refine Tri.mk func29 rfl ntmps29 rfl fun w hw=>?_
 have hKo:=aCo aLe rfl
 have hbeg:=aHx
 generalize aLe=k3 at *
 refine W.k fun b_=>?_
 refine aL hbeg ?_
 rintro _ _ ⟨pp,b,rb,rfl,i,sp,rv,σ,x,sr,β,Hd,Hs,Hk,HS,HB,hD,hS,hBk,hSt,hBt,hx,hst,hlen,hfr,rfl⟩
 generalize Aes.sched k3=ws at *
 clear hbeg
 refine W.k ?_
 refine aL (aJj hBt hx hD hlen hSt hBk hS hKo hfr) ?_
 rintro _ Hp ⟨pv,rfl,hp⟩
 have hp1:=hp.isOne
 obtain⟨pa,pl,pc,rfl,hpl⟩:=hp.form
 have hpl3:pl=3:=by
  have:(dK (zpg 3)).length=15:=rfl
  omega
 subst hpl3
 have hml:(bF 1 z16 (.slice pa 3 pc)).length=18:=rfl
 have hmo:OC (bF 1 z16 (.slice pa 3 pc)):=inferInstance
 have h0:(bF 1 z16 (.slice pa 3 pc))[0]?=some (.int .u64 1):=rfl
 have h17:(bF 1 z16 (.slice pa 3 pc))[17]?=some (.slice pa 3 pc):=rfl
 have hsm:=fun qv=>aGX 1 1 z16 z16 rfl rfl (zpg 3) (zpg 3) (.slice pa 3 pc) qv dc
 generalize bF 1 z16 (.slice pa 3 pc)=M at *
 refine W.k fun b_=>?_
 (refine SW.l [9] [0,1,2,3,4,5,6,7] ?_;(first|refine cI 8 rfl ?_;(first|refine cI 9 rfl ?_;refine SG.l [10,11,12,13,14,15,16,17,18,19,20,21,22,23,24] ?_|refine cB 9 ?_)|refine aX 8 ?_))
 refine aL (aGW aDW) ?_
 rintro _ Hq ⟨qv,rfl,hq⟩
 have hq1:=hq.isOne
 have hnl:(bF 1 z16 qv).length=18:=rfl
 have hno:OC (bF 1 z16 qv):=inferInstance
 (refine bO [] ?_;(first|refine cI 9 rfl ?_;refine SG.l [10,11,12,13,14,15,16,17,18,19,20,21,22,23,24] ?_|refine cB 9 ?_))
 refine W.cq (hsm qv) ?_ (hpre:=fun w2 hs=>⟨Rd.own (Hc:=[]) hp hs inferInstance,Rd.own (Hc:=[]) hq hs inferInstance⟩)
 rw [decide_eq_true (show (1:Int)=1∧z16=z16∧zpg 3=zpg 3 from ⟨rfl,rfl,rfl⟩)]
 (refine SL.l [10,11,12,13,14,15,16,17,18,19,20,21,22,23,24] ?_)
 refine W.k ?_
 exact F.n
end
end Go.Proofs.YtnigolgkkjidiaaGreat
