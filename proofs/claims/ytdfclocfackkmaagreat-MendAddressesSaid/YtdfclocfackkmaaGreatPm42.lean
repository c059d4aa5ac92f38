/- A store that is opened: the document's. -/
import Derived.Test.YtdfclocfackkmaaGreatPm40
set_option linter.unusedVariables false
set_option linter.unusedSimpArgs false
set_option linter.unusedSectionVars false
set_option maxHeartbeats 4000000
namespace Go.Proofs.YtdfclocfackkmaaGreat
open Go Go.Proofs.Tryz
section
attribute [local irreducible] SW SL SQ SH SA SS Pu Fin bS aN
theorem aK0{d tr sp p t:Nat}(h:Gm.Ok p t){C:Dv}{r:Rg}{Hd:Hp}(hD:gS d C Hd)(hlen:C.len=256*Gm.total p t)(hr:r.Ok)(wr wb:Bool)(hw0:wr=wb):Tri prog 50 [qS d tr sp p t,.bool wb] ((tr,cl (rtc d r) 100)::Hd) NT (fun v H=>∃ v1 Hd' Ho,v=.tuple #[v1,.int .i64 (fF p t wr (C,r)).1]/\gS d (fF p t wr (C,r)).2.1 Hd'/\aJM v1 d tr sp p t (iL p t wr C r) Ho /\ H=(tr,cl (rtc d (fF p t wr (C,r)).2.2) 100)::(Hd'++Ho)):=by
 refine Tri.mt func50 ntmps50 fun w hw=>?_;have hmy:=aEX (tr:=tr) (s:=sp) h hD hlen;obtain⟨f1,f2,f3⟩:=aDV d hr;have hll:=Gm.leaves_le h;have ht:=h.2.2.2;have hl1:1<=Gm.leaves p:=by unfold Gm.leaves;omega
 have h8:C.ws.length%8=0:=by unfold Dv.len at hlen;omega
 by_cases hE:wr=true/\r.c=18446744073709551615
 ·obtain⟨rfl,hc⟩:=hE;subst hw0;have e1:fF p t true (C,r)=(21,(C,r)):=by unfold fF;rw [if_pos ⟨rfl,hc⟩]
  have e3:iL p t true C r=none:=by unfold iL;rw [e1,if_neg (by show ¬ (21:Int)=0;decide)]
  rw [e1,e3];(refine W.k ?_;repeat intro b_);refine aF hmy ?_;rintro _ Hx ⟨rfl,hx⟩;have hx:=hx.symm;subst hx;(refine W.k ?_;repeat intro b_);refine Fin.to ((tr,cl (rtc d r) 100)::(Hd++[])) ?_;exact F.f2 ⟨_,Hd,[],rfl,hD,⟨rfl,rfl⟩,rfl⟩
 have hlk:=aId (tr:=tr) (sp:=sp) h hD hlen hr;have hlt:wr=true->r.c<18446744073709551615:=fun e=>by have:=hr.c1;have:¬ r.c=18446744073709551615:=fun hc=>hE ⟨e,hc⟩;omega
 cases wb;all_goals
  try have hlt2:=hlt hw0
  (refine W.k ?_;repeat intro b_);refine aF hmy ?_;rintro _ Hx ⟨rfl,hx⟩;have hx:=hx.symm;subst hx;(refine W.k ?_;repeat intro b_);refine aF hlk ?_;rintro _ _ (⟨hdn,rfl,rfl⟩|⟨hdn,v1,cv,ev,Hb,rfl,oe,hB,rfl⟩)
  ·have e1:fF p t wr (C,r)=(8,(C,r)):=by unfold fF;rw [if_neg hE,if_pos hdn]
   have e3:iL p t wr C r=none:=by unfold iL;rw [e1,if_neg (by show ¬ (8:Int)=0;decide)]
   rw [e1,e3];(refine W.k ?_;repeat intro b_);refine Fin.to ((tr,cl (rtc d r) 100)::(Hd++[])) ?_;exact F.f2 ⟨_,Hd,[],rfl,hD,⟨rfl,rfl⟩,rfl⟩
  have hlo:=aEw (r:=r) hD.1 hdn hlen;have hB1:=hB.one;obtain⟨vs,Hv,Ht,hSv,hRv,rfl⟩:=hB;obtain⟨va,vl,vc,rfl,hvl⟩:=hSv.form;rw [Nat.mul_one,hRv.1,hlo.1] at hvl;subst hvl;by_cases h3:(eW p t C r).1=3
  ·have e1:fF p t wr (C,r)=(20,(C,r)):=by unfold fF;rw [if_neg hE,if_neg (by show ¬ C.down=true;rw [hdn];decide),if_pos h3]
   have e3:iL p t wr C r=none:=by unfold iL;rw [e1,if_neg (by show ¬ (20:Int)=0;decide)]
   rw [e1,e3,h3];(refine W.k ?_;repeat intro b_);refine Fin.to ((tr,cl (rtc d r) 100)::(Hd++[])) ?_;exact F.f2 ⟨_,Hd,[],rfl,hD,⟨rfl,rfl⟩,rfl⟩
  have e1:=pJ hE hdn h3;have e3:iL p t wr C r=if (pK p t wr (eW p t C r).2 (C,r)).1=0 then some ⟨nZ p (eW p t C r).2,gF (eW p t C r).2,wr,0⟩ else none:=by unfold iL;rw [e1]
  rw [e1,e3];clear e1 e3 hlk;have hkn:¬ (((eW p t C r).1:Nat):Int)=3:=oQ;generalize (eW p t C r).2=B at *;generalize (eW p t C r).1=kd at *;obtain⟨hBl,hb256⟩:=hlo;have hF:pK p t wr B (C,r)=(bX p t B).t.and (if wr=true then gA else fun C=>(0,C)) (C,r):=by unfold pK;rfl
  generalize hFF:pK p t wr B (C,r)=FF at *;have hwt:∀ x,(bX p t B).t (x,r)=((bX p t B x).1,(bX p t B x).2,r):=fun _=>rfl;(refine W.k ?_;repeat intro b_);refine aF (aDP h _ vs B hRv hBl hb256) ?_ (hpre:=fun w2 hs=>Rd.own (Hc:=Ht) hSv hs inferInstance);rintro v8 _ ⟨Hep,hSp,rfl⟩;have hSp1:=hSp.isOne;(refine W.j ?_;repeat intro b_);generalize b_=b6 at *;refine bP [1,2,6,8] Hd (fun _:Dv×Hp=>[]) (fun x=>x.2) (fun x=>gS d x.1 x.2/\putL (gB 0 B) C=(0,x.1)) ?_ ?_
  ·have hSv0:=hSv;rcases hSv with ⟨hz,hz2,-⟩|⟨bb,len,cap,junk,hz,hxl,hj,hlc2,rfl⟩
   ·simp only [Value.slice.injEq] at hz;obtain⟨-,hz,-⟩:=hz;omega
   simp only [Value.slice.injEq] at hz;obtain⟨rfl,rfl,rfl⟩:=hz;(refine W.k ?_;repeat intro b_);refine bE [1,2,6,8,41,42] (fun x:Nat×Dv×Hp=>[(43,.int .i64 (x.1:Int))]) (fun x=>x.2.2) (fun x=>B.length-x.1) (fun x=>x.1<=B.length/\gS d x.2.1 x.2.2/\putL (gB 0 (B.take x.1)) C=(0,x.2.1)) (0,C,Hd) ⟨Nat.zero_le _,hD,by rw [cU];rfl⟩ ?_;rintro⟨k,σ2,Hd2⟩ ⟨hk,hD2,hp⟩;dsimp only at hk hD2 hp |-;by_cases hkB:k<B.length
   ·have hbk:=aA hkB;obtain⟨u,hu1,hu2⟩:=hRv.2 k _ hbk;have hv:(vs++junk)[k]?=some u:=by rw [aJ (by rw [hRv.1];exact hkB)];exact hu1
    have huo:=hu2.one;have hbl2:=hb256 _ (dG hkB);have hwl2:σ2.ws.length=C.ws.length:=by have:=iZ (gB 0 (B.take k)) C;rw [hp] at this;exact this
    have hpt:=aBq (tr:=tr) (s:=sp) (p:=p) (t:=t) hD2 (by rw [hwl2];exact h8) k oQ u B[k] oQ;have htl:(B.take k).length=k:=by rw [aH];omega
    have hs1:putL (gB 0 (B.take (k+1))) C=if (fM k B[k] σ2).1=0 then (0,(fM k B[k] σ2).2) else fM k B[k] σ2:=by rw [aY,hbk,dI,xQ,qG,htl,fT];show DS.and _ ((fM k B[k]).and fun C=>(0,C)) C=_;unfold DS.and;rw [hp];simp
    have hs2:(fM k B[k] σ2).1≠0->putL (gB 0 B) C=fM k B[k] σ2:=fun hne=>by
     have e:gB 0 B=gB 0 (B.take (k+1))++gB (0+(B.take (k+1)).length) (B.drop (k+1)):=by rw [<-aCY,dF]
     rw [e,qG];unfold DS.and;rw [hs1,if_neg hne,if_neg hne]
    generalize B[k]=bk at *;(refine W.k ?_;repeat intro b_);refine aF hpt ?_ (hpre:=fun w2 hs=>hu2.rd (Hc:=Hd2) hs);rintro _ Hd3 ⟨rfl,hD3⟩;by_cases hz0:(fM k bk σ2).1=0
    ·rw [if_pos hz0] at hs1;(refine W.k ?_;repeat intro b_);refine aN.mk (k+1,(fM k bk σ2).2,Hd3) ?_;exact⟨hkB,hD3,hs1⟩
    have he:=hs2 hz0;have ewS:bX p t B C=fM k bk σ2:=by
     have e1:iP B C=fM k bk σ2:=by rw [<-he];exact DS.and_ne (by rw [he];exact hz0)
     rw [<-e1];exact DS.and_ne (by rw [e1];exact hz0)
    have eF:FF=((fM k bk σ2).1,(fM k bk σ2).2,r):=by rw [hF,TS.and_ne (by rw [hwt,ewS];exact hz0),hwt,ewS]
    rw [eF,if_neg hz0];(refine W.k ?_;repeat intro b_);refine Fin.to ((tr,cl (rtc d r) 100)::(Hd3++[])) ?_;exact F.f2 ⟨_,Hd3,[],rfl,hD3,⟨rfl,rfl⟩,rfl⟩
   have hkn:k=B.length:=oQ;rw [hkn,bO] at hp;subst hkn;(refine W.k ?_;repeat intro b_);refine bS.mk (σ2,Hd2) ?_;exact⟨hD2,hp⟩
  rintro⟨σ2,Hd2⟩ ⟨hD2,hp⟩;dsimp only at hD2 hp |-;have hwl2:σ2.ws.length=C.ws.length:=by have:=iZ (gB 0 B) C;rw [hp] at this;exact this
  have e1:iP B C=feS σ2:=DS.and_eq hp;have hfe:=wO hD2;have hfwl:σ2.fence.ws.length=σ2.ws.length:=wB σ2;by_cases hz0:(feS σ2).1=0
  ·have ef0:σ2.actR 0 0=0:=hz0;have e2:bX p t B C=fU (Gm.leaves p) (1+t) σ2.fence:=by unfold bX;rw [DS.and_eq (y:=σ2.fence) (by rw [e1];exact yJ hz0)]
   rw [ef0] at hfe;(refine W.k ?_;repeat intro b_);refine aF hfe ?_;rintro _ Hd3 ⟨rfl,hD3⟩;have hsc:=aC1 (tr:=tr) (s:=sp) h hD3 (by rw [hfwl,hwl2];exact h8) (1+t) oQ;rw [show ((1+t:Nat):Int)=1+(t:Int) by omega] at hsc;generalize hsq:fU (Gm.leaves p) (1+t) σ2.fence=SQ2 at *;obtain⟨es,σ3⟩:=SQ2;dsimp only at hsc;(refine W.k ?_;repeat intro b_);refine aF hsc ?_;rintro _ Hd4 ⟨rfl,hD4⟩;by_cases hz1:es=0
   ·subst hz1;have eF:FF=(if wr=true then gA else fun C=>(0,C)) (σ3,r):=by rw [hF,TS.and_eq (y:=(σ3,r)) (by rw [hwt,e2])]
    have hbf:∀ (a8:Option Addr) (l8 c8:Nat) (a9:Option Addr) (l9 c9:Nat),bV (fun i=>[(0,5),(5,1),(6,1),(7,1),(8,1)][i]?) (List.replicate 3 (.pointer none)++[.int .i64 0,.int .i64 0]++[.slice none 0 0,.slice none 0 0]++[.bool false]++[.int .i64 0]) [(0,qS d tr sp p t),(1,.slice a8 l8 c8),(2,.slice a9 l9 c9),(3,.bool wr)]=some [ptv d,ptv tr,ptv sp,.int .i64 (p:Int),.int .i64 (t:Int),.slice a8 l8 c8,.slice a9 l9 c9,.bool wr,.int .i64 0]:=fun _ _ _ _ _ _=>rfl;first
     | (
      subst hw0
      have eF2:FF=(0,σ3,r):=eF
      rw [eF2,if_pos rfl]
      have hlv:=xP (.slice va (Gm.leaves p) vc) vs B hRv oQ hb256
      (refine W.k ?_;repeat intro b_)
      (refine SW.l [7] [0,1,2,3,5] ?_;refine aX 4 ?_)
      refine aF hlv ?_ (hpre:=fun w2 hs=>Rd.own (Hc:=Ht) hSv hs inferInstance)
      rintro v9 _ ⟨H9,h9,rfl⟩
      have h91:=h9.isOne
      obtain⟨a9,l9,c9,rfl,-⟩:=h9.form
      obtain⟨a8,l8,c8,rfl,-⟩:=hSp.form
      have hbd:=hbf a8 l8 c8 a9 l9 c9
      (refine SL.l [6] ?_;refine bL 7 ?_;(refine W.i ?_;repeat intro b_);refine SG.l [8,9,10] ?_)
      (refine W.k ?_;repeat intro b_)
      refine Fin.to ((tr,cl (rtc d r) 100)::(Hd4++((b_,cl [ptv d,ptv tr,ptv sp,.int .i64 (p:Int),.int .i64 (t:Int),.slice a8 l8 c8,.slice a9 l9 c9,.bool false,.int .i64 0] 144)::(Hep++H9)))) ?_
      exact F.f2 ⟨_,Hd4,_,rfl,hD4,⟨b_,rfl,_,_,Hep,H9,rfl,hSp,h9⟩,rfl⟩)
     | (
      subst hw0
      have hbm:=aIg (tr:=tr) (s:=sp) (p:=p) (t:=t) hD4 hr (hlt rfl)
      have eF2:FF=gA (σ3,r):=eF
      rw [eF2]
      clear eF eF2 hF hFF
      generalize gA (σ3,r)=G at *
      obtain⟨eb,σ4,r4⟩:=G
      dsimp only at hbm |-
      (refine W.k ?_;repeat intro b_)
      refine aF hbm ?_
      rintro _ _ ⟨rfl,Hd5,hD5,rfl⟩
      by_cases hz2:eb=0
      ·subst hz2
       rw [if_pos rfl]
       have hlv:=xP (.slice va (Gm.leaves p) vc) vs B hRv oQ hb256
       (refine W.k ?_;repeat intro b_)
       (refine SW.l [7] [0,1,2,3,5] ?_;refine aX 4 ?_)
       refine aF hlv ?_ (hpre:=fun w2 hs=>Rd.own (Hc:=Ht) hSv hs inferInstance)
       rintro v9 _ ⟨H9,h9,rfl⟩
       have h91:=h9.isOne
       obtain⟨a9,l9,c9,rfl,-⟩:=h9.form
       obtain⟨a8,l8,c8,rfl,-⟩:=hSp.form
       have hbd:=hbf a8 l8 c8 a9 l9 c9
       (refine SL.l [6] ?_;refine bL 7 ?_;(refine W.i ?_;repeat intro b_);refine SG.l [8,9,10] ?_)
       (refine W.k ?_;repeat intro b_)
       refine Fin.to ((tr,cl (rtc d r4) 100)::(Hd5++((b_,cl [ptv d,ptv tr,ptv sp,.int .i64 (p:Int),.int .i64 (t:Int),.slice a8 l8 c8,.slice a9 l9 c9,.bool true,.int .i64 0] 144)::(Hep++H9)))) ?_
       exact F.f2 ⟨_,Hd5,_,rfl,hD5,⟨b_,rfl,_,_,Hep,H9,rfl,hSp,h9⟩,rfl⟩
      ·rw [if_neg hz2]
       (refine W.k ?_;repeat intro b_)
       refine Fin.to ((tr,cl (rtc d r4) 100)::(Hd5++[])) ?_
       exact F.f2 ⟨_,Hd5,[],rfl,hD5,⟨rfl,rfl⟩,rfl⟩)
   have eF:FF=(es,σ3,r):=by rw [hF,TS.and_ne (by rw [hwt,e2];exact hz1),hwt,e2]
   rw [eF,if_neg hz1];(refine W.k ?_;repeat intro b_);refine Fin.to ((tr,cl (rtc d r) 100)::(Hd4++[])) ?_;exact F.f2 ⟨_,Hd4,[],rfl,hD4,⟨rfl,rfl⟩,rfl⟩
  have e2:bX p t B C=feS σ2:=by rw [<-e1];exact DS.and_ne (by rw [e1];exact hz0)
  have eF:FF=((feS σ2).1,(feS σ2).2,r):=by rw [hF,TS.and_ne (by rw [hwt,e2];exact hz0),hwt,e2]
  rw [eF,if_neg hz0];have ef0:¬ σ2.actR 0 0=0:=hz0;(refine W.k ?_;repeat intro b_);refine aF hfe ?_;rintro _ Hd3 ⟨rfl,hD3⟩;(refine W.k ?_;repeat intro b_);refine Fin.to ((tr,cl (rtc d r) 100)::(Hd3++[])) ?_;exact F.f2 ⟨_,Hd3,[],rfl,hD3,⟨rfl,rfl⟩,rfl⟩
theorem aMJ{d tr sp p t:Nat}(h:Gm.Ok p t){C:Dv}{r:Rg}{Hd:Hp}(hD:gS d C Hd)(hlen:C.len=256*Gm.total p t)(hr:r.Ok)(wr:Bool) :
  Tri prog 50 [qS d tr sp p t,.bool wr] ((tr,cl (rtc d r) 100)::Hd) NT
  (fun v H=>∃ v1 Hd' Ho,v=.tuple #[v1,.int .i64 (fF p t wr (C,r)).1]/\gS d (fF p t wr (C,r)).2.1 Hd'/\aJM v1 d tr sp p t (iL p t wr C r) Ho /\
   H=(tr,cl (rtc d (fF p t wr (C,r)).2.2) 100)::(Hd'++Ho)):=aK0 h hD hlen hr wr wr rfl
theorem aEG{pp p t n N:Nat}{ws ws':LL}{C:Dv}{r:Rg}{sr:Sr}{D:Bk}{o:Option So}{H:Hp}(h:Gm.Ok p t)(hP:nC pp p t n N ws ws' C r sr D o H)(hlen:C.len=256*Gm.total p t)(hr:r.Ok)(wr:Bool):Tri prog 16 [ptv pp,.bool wr] H NT (fun v H'=>v=.bool true /\ nC pp p t n N ws ws' (fF p t wr (C,r)).2.1 (fF p t wr (C,r)).2.2 sr (sE p t wr C r D) (iL p t wr C r) H'):=by
 obtain⟨i,sv,rv,Hd,Hs,Hk,HD,HR,HS,HT,hD,hS,hB,hDR,hSR,hO,hOR,rfl⟩:=hP;refine Tri.mt func16 ntmps16 fun w hw=>?_;have hF:=aNK (tr:=i.tr) (s:=i.s) h hD hlen hr hB wr;have hG:=aMJ (tr:=i.rtr) (sp:=i.rs) h hDR hlen hr wr;have o1:=hO.one;have o2:=hOR.one;have hz:iL p t wr C r=if (fF p t wr (C,r)).1=0 then some ⟨nZ p (eW p t C r).2,gF (eW p t C r).2,wr,0⟩ else none:=rfl
 generalize iL p t wr C r=oo at *;generalize sE p t wr C r D=β2 at *;generalize fF p t wr (C,r)=FF at *;obtain⟨e,σ2,r2⟩:=FF;dsimp only at hF hG hz |-;refine W.k ?_;refine aF hF ?_;rintro _ _ ⟨v1,Hd2,Hk2,HS2,Hx,rfl,hD2,hB2,hO2,rfl⟩;have o3:=hO2.one;refine W.k ?_;refine aF hG ?_;rintro _ _ ⟨v2,HD2,HT2,rfl,hDR2,hOR2,rfl⟩;have o4:=hOR2.one;have hO3:=hO2;by_cases he:e=0
 ·rw [if_pos he] at hz;subst hz;subst he;obtain⟨sp,rfl,-⟩:=hO2;refine W.k ?_;rw [show ((vH i p t sv rv).set 6 (ptv sp)).set 12 v2=vH i p t (ptv sp) v2 from rfl];refine Fin.to ((pp,cl (vH i p t (ptv sp) v2) 52)::(i.tr,cl (trc i.d r2) 201)::(i.rtr,cl (rtc i.rd r2) 100)::(Hd2++(Hs++(Hk2++(HD2++(HR++(HS2++HT2))))))) ?_;exact F.f1 ⟨rfl,i,_,v2,Hd2,Hs,Hk2,HD2,HR,HS2,HT2,hD2,hS,hB2,hDR2,hSR,hO3,hOR2,rfl⟩
 rw [if_neg he] at hz;subst hz;obtain⟨rfl,-⟩:=hO2;refine W.k ?_;rw [show ((vH i p t sv rv).set 6 (.pointer none)).set 12 v2=vH i p t (.pointer none) v2 from rfl];refine Fin.to ((pp,cl (vH i p t (.pointer none) v2) 52)::(i.tr,cl (trc i.d r2) 201)::(i.rtr,cl (rtc i.rd r2) 100)::(Hd2++(Hs++(Hk2++(HD2++(HR++(HS2++HT2))))))) ?_;exact F.f1 ⟨rfl,i,_,v2,Hd2,Hs,Hk2,HD2,HR,HS2,HT2,hD2,hS,hB2,hDR2,hSR,hO3,hOR2,rfl⟩
theorem aKv{p t:Nat}{C:Dv}{r:Rg}{n:Nat}{B:LL}{R:LB}(h:C.Sta n (B.flatten++R))(hn:8*n=256*Gm.total p t)(hB:∀ b∈B,b.length=256)(hBl:B.length=Gm.leaves p)(hr:r.root=gE B)(hs:B.getD 0 []=iC p t):eW p t C r=(1,B):=by have htot:Gm.total p t=Gm.leaves p+(1+t):=rfl;have hbk:=h.blks hB oQ;rw [hBl] at hbk;unfold eW;rw [hbk];exact pF (by unfold lC;rw [hr,hs];simp)
theorem aJz{p t:Nat}{C:Dv}{n:Nat}{M:LB}{B:LL}(h1:C.Sta n M)(hn:8*n=256*Gm.total p t)(h256:∀ b∈B,b.length=256)(hbl:B.length=Gm.leaves p):(bX p t B C).1=0/\(bX p t B C).2.Sta n (B.flatten++List.replicate (256*(1+t)) 0):=by
 have htot:Gm.total p t=Gm.leaves p+(1+t):=rfl;have hfl:B.flatten.length=256*B.length:=by
  clear hbl;induction B with
  | nil=>rfl
  | cons x r ih=>rw [eU,aB,h256 x (by simp),ih (fun y hy=>h256 y (by simp [hy])),aW];omega
 have hM:=h1.ml;have hD:(bX p t B C).1=0/\(bX p t B C).2.Sta n (spl (spl M (256*0) B.flatten) (256*Gm.leaves p) (List.replicate (256*(1+t)) 0)):=by refine DS.and_sta (DS.and_sta (Dv.Sta.putL B h1 0 h256 (by rw [hbl];omega)) fun E ht=>ht.fence) fun E ht=>?_;refine DS.and_sta (a:=fM (Gm.leaves p) (List.replicate (256*(1+t)) 0)) (ht.put (by rw [bA];omega)) fun τ' ht'=>ht'.fence
 have es:spl (spl M (256*0) B.flatten) (256*Gm.leaves p) (List.replicate (256*(1+t)) 0)=B.flatten++List.replicate (256*(1+t)) 0:=by rw [show 256*Gm.leaves p=256*0+B.flatten.length by rw [hfl,hbl];omega,aE1 _ _ _ _ (by rw [hfl,hbl,bA];omega)];unfold spl;rw [show 256*0=0 from rfl,cU,List.nil_append,cQ (by rw [aB,hfl,hbl,bA];omega),aG]
 rwa [es] at hD
theorem aKG{p t:Nat}{C:Dv}{r:Rg}{n:Nat}{B:LL}{R:LB}(h:C.Sta n (B.flatten++R))(hn:8*n=256*Gm.total p t)(hB:∀ b∈B,b.length=256)(hBl:B.length=Gm.leaves p)(hr:r.root=gE B)(hs:B.getD 0 []=iC p t)(hc:r.c<18446744073709551615):∃ σ',fF p t true (C,r)=(0,(σ',{ r with c:=r.c+1 }))/\σ'.Sta n (B.flatten++List.replicate (256*(1+t)) 0):=by have hl:=aKv h hn hB hBl hr hs;rw [pJ (fun hh=>by have:=hh.2;omega) h.l.d (by rw [hl];show 1≠3;decide),hl];obtain⟨e2,h2⟩:=aJz (p:=p) (t:=t) h hn hB hBl;obtain⟨σ3,e3,h3⟩:=aCj (r:=r) h2 { r with c:=r.c+1 } (by show r.c<r.c+1;omega);refine⟨σ3,?_,h3⟩;unfold pK;rw [TS.and_eq (y:=((bX p t B C).2,r)) (by unfold DS.t;dsimp only;rw [e2]),if_pos rfl];exact e3
theorem xS:Tri prog 8 [] [] NT (fun v H=>v=kM 3 4/\H=[]):=by refine Tri.mt func8 ntmps8 fun w hw=>?_;refine W.k fun b_=>?_;exact F.c0 (yY 3 4) ⟨rfl,rfl⟩
theorem aAU:Tri prog 11 [] [] NT (fun v H=>v=.bool true/\H=[]):=by
 refine Tri.mt func11 ntmps11 fun w hw=>?_;have hk:zB.length=16:=rfl;have hbk:bV (fun i=>some (i*1,1)) (List.replicate 16 (.int .u8 0)) [(0,.int .u8 1)]=some (cbs zB):=rfl;obtain⟨σ',hF,hSta⟩:=aMi aCL (E:=Aes.enc (Aes.sched zB) 10) (fun x=>Aes.enc_len ..) (cnt:=0) dQ dQ dQ;have hB:=rL (p:=3) (t:=4) (E:=Aes.enc (Aes.sched zB) 10) (fun x=>Aes.enc_len ..) (UInt64.ofNat ((0:Int)+2).toNat);have hBl:=pE 3 4 (dY (Aes.enc (Aes.sched zB) 10)) (UInt64.ofNat ((0:Int)+2).toNat);have hB0:(iI 3 4 (dY (Aes.enc (Aes.sched zB) 10)) (UInt64.ofNat ((0:Int)+2).toNat)).getD 0 []=iC 3 4:=rfl;have hX:=aEe zB hk;have hK:=wW zB hk;have hK':=xR zB hk;have hbeg:=zY aCL zB hk (cnt:=0) dQ dQ;have hpf:=fun pp H hP=>aBf (pp:=pp) (H:=H) (o:=none) (N:=0) (sr:=Sr.new) (D:=Bk.new) (C:=Dv.new (4*Gm.total 3 4:Nat)) (r:=rg0 0) aCL hP (by have:=(aAp (4*Gm.total 3 4) dQ).len;omega) (aBn dQ dQ) hK hK' oQ hX;rw [hF] at hpf;generalize oP 3 (Dv.new (4*Gm.total 3 4:Nat)) (rg0 0) Sr.new=sr at *;generalize aA1 3 4 10 (Aes.sched zB) (Dv.new (4*Gm.total 3 4:Nat)) (rg0 0) Bk.new=D at *;generalize iI 3 4 (dY (Aes.enc (Aes.sched zB) 10)) (UInt64.ofNat ((0:Int)+2).toNat)=B at *;generalize Aes.sched zB=ws at *;generalize Rg.sched zB=ws' at *;generalize zB=k1 at *;clear hF hX hK hK';have hrl:(gE B).length=32:=Sha.sum_len _;have hlen:σ'.len=256*Gm.total 3 4:=by rw [hSta.len];rfl
 generalize hrr:({ c:=0+2,root:=gE B }:Rg)=r2 at *;have hr2:r2.Ok:=by rw [<-hrr];exact⟨hrl,by show (0:Int)<=0+2;decide,by show (0:Int)+2<=_;decide⟩
 obtain⟨σ3,hO,-⟩:=aKG (r:=r2) hSta (by rfl) hB hBl (by rw [<-hrr]) hB0 (by rw [<-hrr];show (0:Int)+2<_;decide);have hpo:=fun pp H hP=>aEG (pp:=pp) (H:=H) (n:=10) (N:=0+200) (ws:=ws) (ws':=ws') (sr:=sr) (D:=D) (o:=none) (C:=σ') (r:=r2) aCL hP hlen hr2 true;have hoo:iL 3 4 true σ' r2=some ⟨nZ 3 (eW 3 4 σ' r2).2,gF (eW 3 4 σ' r2).2,true,0⟩:=by unfold iL;rw [hO,if_pos rfl]
 rw [hO,hoo] at hpo;generalize sE 3 4 true σ' r2 D=β2 at *;generalize (⟨nZ 3 (eW 3 4 σ' r2).2,gF (eW 3 4 σ' r2).2,true,0⟩:So)=so at *;have hr3:({ r2 with c:=r2.c+1 }:Rg).Ok:=by rw [<-hrr];exact⟨hrl,by show (0:Int)<=0+2+1;decide,by show (0:Int)+2+1<=_;decide⟩
 have hc3:({ r2 with c:=r2.c+1 }:Rg).c=3:=by rw [<-hrr];rfl
 dsimp only at hpo hpf;generalize ({ r2 with c:=r2.c+1 }:Rg)=r3 at *;have hrg:rgc r3=.int .u64 3::r3.root.map bv:=by unfold rgc;rw [hc3]
 refine W.k ?_;refine W.cw xS ?_;refine aF hbeg ?_;rintro _ H1 ⟨pp,rfl,hP⟩;refine W.k ?_;refine aF (hpf pp H1 hP) ?_;rintro _ H2 ⟨rfl,hP2⟩;clear hpf hbeg hP;refine W.k ?_;refine aF (hpo pp H2 hP2) ?_;rintro _ H3 ⟨rfl,hP3⟩;clear hpo hP2;obtain⟨i,sv,rv,Hd,Hs,Hk,HD,HR,HS,HT,hD,hS,hBk,hDR,hSR,⟨sp,rfl,-⟩,hOR,rfl⟩:=hP3;have o2:=hOR.one;have hrd:=uR i.tr i.d r3 hr3;refine W.k ?_;refine W.cq hrd ?_;rw [hrg];refine W.k ?_;exact F.n
end
section
attribute [local irreducible] SW SL SQ SH SA SS Pu Fin bS aN
end
end Go.Proofs.YtdfclocfackkmaaGreat
