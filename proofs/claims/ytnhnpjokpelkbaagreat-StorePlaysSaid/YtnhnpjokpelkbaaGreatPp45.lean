/- A store that was begun; entries; the example of the store's statements. -/
import Derived.Test.YtnhnpjokpelkbaaGreatPp44
set_option linter.unusedVariables false
set_option linter.unusedSimpArgs false
set_option linter.unusedSectionVars false
set_option maxHeartbeats 8000000
namespace Go.Proofs.YtnhnpjokpelkbaaGreat
open Go Go.Proofs.Tryz
section
attribute [local irreducible] SW SL SQ SH SA SS Pu Fin bT aQ
theorem aIZ{p t:Nat}{B B':List (List UInt8)}(h:B.length=B'.length)(h1:∀ b∈B,b.length=256)(h2:∀ b∈B',b.length=256):vF p t B=vF p t B':=by
 unfold vF
 rw [aAw (a:=fR 0 B) (b:=fR 0 B')]
 apply cB
 intro i
 unfold fR
 simp only [aJ,dC]
 by_cases hi:i<B.length
 ·rw [aA hi,aA (show i<B'.length by omega)]
  simp only [Option.map_some]
  rw [h1 _ (cE hi),h2 _ (cE (show i<B'.length by omega))]
 ·rw [bB oQ,bB oQ]
abbrev zB7:List (List UInt8):=List.replicate 7 (List.replicate 256 0)
def aIb:Acs:=mU (mU [] ([(4,0,0)]++vF 3 4 zB7++[(4,0,0)])) (vF 3 4 zB7++[(4,0,0)])
abbrev n34:Nat:=8*(4*Gm.total 3 4)
theorem aLF(k:List UInt8)(hk:k.length=16):∃ (σ1 σ3:Dv) (r1 r3:Rg) (sr:Sr) (β1:Bk) (x:So) (B:List (List UInt8)) (R:List UInt8),
  (∀ pp H,nL pp 3 4 10 0 (Aes.sched k) (Rg.sched k) (Dv.new (4*Gm.total 3 4:Nat)) (rg0 0) Sr.new Bk.new none H→Tri prog 64 [ptv pp] H (fun _=>True) (fun v H'=>v=.bool true∧nL pp 3 4 10 (0+200) (Aes.sched k) (Rg.sched k) σ1 r1 sr β1 none H')) ∧
  (∀ pp H,nL pp 3 4 10 (0+200) (Aes.sched k) (Rg.sched k) σ1 r1 sr β1 none H→Tri prog 65 [ptv pp,.bool true] H (fun _=>True) (fun v H'=>v=.bool true∧nL pp 3 4 10 (0+200) (Aes.sched k) (Rg.sched k) σ3 r3 sr (pD 3 4 true σ1 r1 β1) (some x) H')) ∧
  r3.Ok∧r3.c=3∧x.Ok 3∧aAJ 3 4 n34 (dM (Aes.enc (Aes.sched k) 10)) σ3 x (fun _=>List.replicate 256 0) B R∧(σ3.acts=aIb∧True)∧pD 3 4 true σ1 r1 β1=rC β1 B∧(β1=Bk.new∨∃ B':List (List UInt8),B'.length=7∧β1=rC Bk.new B'):=by
 obtain⟨σ',hF,hSta⟩:=aLD aA1 (E:=Aes.enc (Aes.sched k) 10) (fun x=>Aes.enc_len ..) (cnt:=0) dQ dQ dQ
 have hB:=pN (p:=3) (t:=4) (E:=Aes.enc (Aes.sched k) 10) (fun x=>Aes.enc_len ..) (UInt64.ofNat ((0:Int)+2).toNat)
 have hBl:=nT 3 4 (dM (Aes.enc (Aes.sched k) 10)) (UInt64.ofNat ((0:Int)+2).toNat)
 have hB0:(fG 3 4 (dM (Aes.enc (Aes.sched k) 10)) (UInt64.ofNat ((0:Int)+2).toNat)).getD 0 []=iE 3 4:=rfl
 have hX:=aGl k hk
 have hK:=uG k hk
 have hK':=aBe k hk
 have hFA:σ'.acts=mU [] ([(4,0,0)]++vF 3 4 (fG 3 4 (dM (Aes.enc (Aes.sched k) 10)) (UInt64.ofNat ((0:Int)+2).toNat))++[(4,0,0)]):=by
  have:=aJM (p:=3) (t:=4) (X:=dM (Aes.enc (Aes.sched k) 10)) (r:=rg0 0) (aBJ (4*Gm.total 3 4) dQ) (by rfl) dQ hB hBl
  rw [hF] at this
  exact this
 have hpf:=fun pp H hP=>aA3 (pp:=pp) (H:=H) (o:=none) (N:=0) (sr:=Sr.new) (β:=Bk.new) (σ:=Dv.new (4*Gm.total 3 4:Nat)) (r:=rg0 0) aA1 hP (by have:=(aBJ (4*Gm.total 3 4) dQ).len;omega) (aGM dQ dQ) hK hK' oQ hX
 rw [hF] at hpf
 have hfr:=fun (τ:Dv) (R:List UInt8) (h:τ.Sta n34 ((fG 3 4 (dM (Aes.enc (Aes.sched k) 10)) (UInt64.ofNat ((0:Int)+2).toNat)).flatten++R))=>aAJ.fresh (e:=UInt64.ofNat ((0:Int)+2).toNat) rfl (E:=Aes.enc (Aes.sched k) 10) (fun x=>Aes.enc_len ..) h
 have hfk:xY 3 4 10 (Aes.sched k) (Dv.new (4*Gm.total 3 4:Nat)) (rg0 0) Bk.new=Bk.new∨∃ B':List (List UInt8),B'.length=7∧xY 3 4 10 (Aes.sched k) (Dv.new (4*Gm.total 3 4:Nat)) (rg0 0) Bk.new=rC Bk.new B':=by
  unfold xY
  split
  ·exact .inl rfl
  ·split
   ·exact .inr ⟨_,nT _ _ _ _,rfl⟩
   ·exact .inl rfl
 generalize pC 3 (Dv.new (4*Gm.total 3 4:Nat)) (rg0 0) Sr.new=sr at *
 generalize xY 3 4 10 (Aes.sched k) (Dv.new (4*Gm.total 3 4:Nat)) (rg0 0) Bk.new=β at *
 generalize hXX:dM (Aes.enc (Aes.sched k) 10)=X at *
 generalize fG 3 4 X (UInt64.ofNat ((0:Int)+2).toNat)=B at *
 have hrl:(fQ B).length=32:=Sha.sum_len _
 have hlen:σ'.len=256*Gm.total 3 4:=by rw [hSta.len];rfl
 generalize hrr:({ c:=0+2,root:=fQ B }:Rg)=r2 at *
 have hr2:r2.Ok:=by rw [← hrr];exact⟨hrl,by show (0:Int)≤0+2;decide,by show (0:Int)+2≤_;decide⟩
 have hrc2:r2.c=2:=by rw [← hrr];rfl
 obtain⟨σ3,hO,hS3⟩:=aJ6 (r:=r2) hSta (by rfl) hB hBl (by rw [← hrr]) hB0 (by rw [hrc2];decide)
 have hOA:=aIA (r:=r2) hSta (by rfl) hB hBl (by rw [← hrr]) hB0 (by rw [hrc2];decide)
 rw [hO] at hOA
 have hlk:gI 3 4 σ' r2=(1,B):=aCp hSta (by rfl) hB hBl (by rw [← hrr]) hB0
 have hpo:=fun pp H hP=>aEf (pp:=pp) (H:=H) (n:=10) (N:=0+200) (ws:=Aes.sched k) (ws':=Rg.sched k) (sr:=sr) (β:=β) (o:=none) (σ:=σ') (r:=r2) aA1 hP hlen hr2 true
 have hoo:iX 3 4 true σ' r2=some ⟨nB 3 B,eX B,true,0⟩:=by unfold iX;rw [hO,if_pos rfl,hlk]
 rw [hO,hoo] at hpo
 have hok:pD 3 4 true σ' r2 β=rC β B:=by
  unfold pD
  rw [if_neg (fun hh=>by have:=hh.2;omega),if_neg (by rw [hSta.l.d];decide)]
  have hbk:σ'.blks 0 (Gm.leaves 3)=B:=by rw [← hBl];exact hSta.blks hB (by rw [hBl];decide)
  unfold tT
  rw [hbk,if_pos (by unfold lI;rw [hB0,← hrr];simp)]
 have hwA:=aIZ (p:=3) (t:=4) (B:=B) (B':=zB7) (by rw [hBl];rfl) hB (fun b hb=>by rw [nK hb];exact aS)
 refine⟨σ',σ3,r2,{ r2 with c:=r2.c+1 },sr,β,_,B,_,hpf,hpo,⟨hr2.len,by show 0≤r2.c+1;omega,by show r2.c+1≤_;omega⟩,by show r2.c+1=3;omega,⟨by dsimp only;unfold nB;simp,by dsimp only;rw [jL,hBl],nP _⟩,hfr σ3 _ hS3,⟨?_,trivial⟩,hok,hfk⟩
 rw [hOA,hFA,hwA]
 rfl
theorem aDJ:Tri prog 11 [] [] (fun _=>True) (fun v H=>v=kF 3 4∧H=[]):=by
 refine Tri.mk func11 rfl ntmps11 rfl fun w hw=>?_
 refine W.k fun b_=>?_
 exact F.c0 (yX 3 4) ⟨rfl,rfl⟩
theorem aIj(v:Value)(us:List Value)(l:List Ent){Ht:Hp}(hR:RB Ht us (l.map Prod.snd))(hn:l.length≤1000)(h2:∀ x∈l,x.2.length≤1000000) :
  Tri prog 23 [v] Ht (fun w=>Rd (Ht.map Prod.fst) w 2 v (eD us l))
  (fun r H=>∃ us' HE HQ,Sl 136 2 r (eD us' l) HE∧RB HQ us' (l.map Prod.snd)∧H=(HE++HQ)++Ht):=by
 refine Tri.mk func23 rfl ntmps23 rfl fun w hw=>?_
 have hL:=hR.le
 have hul:=hL.1
 have hw2:=hw
 unfold eD at hw2
 obtain⟨a,ca,rfl,hcap,hg⟩:=hw2.rows dQ (mW us l)
 have hzl:(List.zipWith (fun u (x:Ent)=>[Value.int .i64 x.1,u]) us l).length=l.length:=by rw [fL,hL.1,iN]
 rw [hzl] at hcap hw ⊢
 refine W.j ?_
 refine bQ [] [] (fun y:Value×List Value×Hp×Hp=>[(3,y.1)]) (fun y=>y.2.2.1++y.2.2.2) (fun y=>Sl 136 2 y.1 (eD y.2.1 l) y.2.2.1∧RB y.2.2.2 y.2.1 (l.map Prod.snd)) ?_ ?_
 ·refine W.k ?_
  refine bF [6,7] (fun y:Nat×Value×List Value×Hp×Hp=>[(3,y.2.1),(8,.int .i64 (y.1:Int))]) (fun y=>y.2.2.2.1++y.2.2.2.2) (fun y=>l.length-y.1) (fun y=>y.1≤l.length∧Sl 136 2 y.2.1 (eD y.2.2.1 (l.take y.1)) y.2.2.2.1∧RB y.2.2.2.2 y.2.2.1 ((l.take y.1).map Prod.snd)) (0,.slice none 0 0,[],[],[]) ⟨Nat.zero_le _,Sl.nil _ _,RB.nil _⟩ ?_
  rintro⟨k,ov,us2,HO,HQ2⟩ ⟨hk,hO,hR2⟩
  dsimp only at hk hO hR2 ⊢
  have oO:=hO.isOne
  by_cases hkn:k<l.length
  ·have hx0:=aA hkn
   obtain⟨u,huk,hru⟩:=hR.2 k l[k].2 (by rw [aJ,hx0];rfl)
   have hx3:=h2 _ (cE hkn)
   obtain⟨pb,po,lv,T,fz,rfl,hb,hbk,hv⟩:=hg k [.int .i64 l[k].1,u] (by rw [eK,huk,hx0])
   have htk:l.take (k+1)=l.take k++[l[k]]:=by rw [aZ,hx0];rfl
   have htkl:(l.take k).length=k:=by rw [aG];omega
   have hul2:us2.length=(l.take k).length:=by rw [hR2.1,aD]
   have hecl:=fI us2 _ hul2
   have huo:=hru.one
   have hLs:=fun v=>kA hul2 v l[k]
   rw [← htk] at hLs
   generalize l[k]=z at *
   refine W.k fun b_=>?_
   generalize b_=eb2
   (refine SW.l [8,9] [0,1,2,4,5] ?_;refine bA 3 ?_)
   refine aJi fun b0=>?_
   (refine bC [] ?_;refine bA 6 ?_)
   have h0:Sl 5 1 (.slice (some ⟨b0,0,none⟩) 0 0) [] [(b0,cl ([]:List Value) 5)]:=Sl.mk (xs:=[]) (junk:=[]) (len:=0) (cap:=0) rfl rfl (Nat.le_refl _)
   refine W.ap h0 (ys:=cbs z.2) (mm:=z.2.length) (fun w2 hs=>by
    obtain⟨m,h1,h2⟩:=(hru.rd (Hc:=[]) hs).src
    rw [aI,Nat.mul_one] at h2
    rw [h2];exact h1) (fun v1 H1 h1=>?_) (hys:=by rw [aI,Nat.mul_one]) (hbytes:=by rw [aI];simp;omega)
   have h11:=h1.isOne
   rw [List.nil_append] at h1
   have hRd:=RdH.of h1
   obtain⟨a1,n1,c1,rfl,-⟩:=h1.form
   (refine SL.l [7] ?_;refine bO 8 ?_)
   refine iS (fun b7=>?_) (hr:=aB3 ..)
   (refine bC [] ?_;refine bO 9 ?_)
   refine W.ap (ys:=[.int .i64 z.1,.slice a1 n1 c1]) (mm:=1) hO (fun w2 hs=>(Sl.own 136 2 b7 (len:=1) (xs:=[.int .i64 z.1,.slice a1 n1 c1]) rfl).srcAt hs inferInstance) (fun ov2 HO2 hO2=>?_) (hys:=rfl) (hbytes:=by rw [hecl,htkl];simp;omega)
   have oO2:=hO2.isOne
   rw [← hLs] at hO2
   have hR3:RB (HQ2++H1) (us2++[.slice a1 n1 c1]) ((l.take (k+1)).map Prod.snd):=by
    rw [htk,aV]
    exact (hR2.mono fun y hy=>aO _ hy).snoc (hRd.mono fun y hy=>aN _ hy)
   (refine SL.l [10,11] ?_)
   refine W.k ?_
   refine aQ.mk (k+1,ov2,us2++[.slice a1 n1 c1],HO2,HQ2++H1) ?_
   exact⟨hkn,hO2,hR3⟩
  ·have hkl:k=l.length:=oQ
   rw [hkl,bN] at hO hR2
   subst hkl
   refine W.k ?_
   refine bT.mk (ov,us2,HO,HQ2) ?_
   exact⟨hO,hR2⟩
 rintro⟨ov,us2,HO,HQ2⟩ ⟨hO,hR2⟩
 dsimp only at hO hR2 ⊢
 have oO:=hO.isOne
 refine W.k ?_
 refine Fin.to ((HO++HQ2)++Ht) ?_
 exact F.f1 ⟨us2,HO,HQ2,hO,hR2,rfl⟩
def aJA(ns:List Int):Acs:=aCc 3 0 [] (ns.map fun n=>(n,List.replicate 256 0))
def StS(k:List UInt8)(i:Pid)(sp:Nat)(c:Int)(A:Acs)(now:Nat→List UInt8)(H:Hp):Prop:=
 ∃ (σ:Dv) (r:Rg) (x:So) (sr:Sr) (β:Bk) (B:List (List UInt8)) (R:List UInt8) (Hd Hs Hk HS:Hp),fD i.d σ Hd∧lU i.s i.c i.b 10 (Aes.sched k) sr Hs∧eV i.bk i.tb β Hk∧qS sp i.d i.tr i.s i.bk 3 4 x HS ∧
  r.Ok∧r.c=c∧x.Ok 3∧aAJ 3 4 n34 (dM (Aes.enc (Aes.sched k) 10)) σ x now B R∧σ.acts=A∧H=(i.tr,cl (trc i.d r) 201)::(Hd++(Hs++(Hk++HS)))
theorem aAJ.xok{p t n:Nat}{X:UInt64→Nat→List UInt8→List UInt8}{σ:Dv}{s:So}{now:Nat→List UInt8}{B:List (List UInt8)}{R:List UInt8}(h:aAJ p t n X σ s now B R):s.Ok p:=⟨h.es,by rw [h.lv,jL];exact h.bl,by rw [h.lv];exact nP _⟩
theorem StS.commit{k:List UInt8}(hk:k.length=16){i:Pid}{sp:Nat}{c:Int}{A:Acs}{now:Nat→List UInt8}{H HE HQ:Hp}(hS:StS k i sp c A now H)(hc:c<18446744073709551615){lv:Value}{us:List Value}{l:List Ent}(hL:Sl 136 2 lv (eD us l) HE)(hR:RB HQ us (l.map Prod.snd))(hn:l.length≤1000000) :
  Tri prog 15 [ptv sp,lv] (H++(HE++HQ)) (fun _=>True)
  (fun v H'=>∃ e H2,v=.int .i64 e∧H'=H2++(HE++HQ)∧(e=0↔l=[]∨gH 3 4 l=true)∧((gH 3 4 l=true∧StS k i sp (c+1) (mU A (aJA (l.map Prod.fst))) (aLO now l) H2)∨(gH 3 4 l=false∧StS k i sp c A now H2))):=by
 obtain⟨σ,r,x,sr,β,B,R,Hd,Hs,Hk,HS,hD,hSe,hBk,hSt,hr,rfl,hx,hKt,hA,rfl⟩:=hS
 have hX:=fun e j b=>aCb (E:=Aes.enc (Aes.sched k) 10) (fun y=>Aes.enc_len ..) e j b
 have hXl:=fun e j b=>mQ (E:=Aes.enc (Aes.sched k) 10) (fun y=>Aes.enc_len ..) e j b
 have hKo:=uG k hk
 have h8:σ.ws.length%8=0:=by rw [hKt.sta.n];decide
 have hCo:=aDE (tr:=i.tr) aA1 hx hr hD h8 hSt hBk hSe hKo hL hR hn rfl
 generalize hXX:dM (Aes.enc (Aes.sched k) 10)=X at *
 refine Tri.perm' (Hd:=(i.tr,cl (trc i.d r) 201)::(HS++(Hd++(Hs++(Hk++(HE++HQ)))))) ?_
 by_cases hm:gH 3 4 l=true
 ·obtain⟨σ',s',B',R',e1,hK',hA'⟩:=hKt.commit hX hXl aA1 (by rfl) hr.c0 hc hm
  rw [e1] at hCo
  refine Tri.to hCo ?_
  rintro v H ⟨Hd',HS',Hs',Hk',β',rfl,hD',hSt',hBk',hSe',rfl⟩
  refine⟨((i.tr,cl (trc i.d ⟨r.c+1,fQ B'⟩) 201)::(Hd'++(Hs'++(Hk'++HS'))))++(HE++HQ),[],?_,0,_,rfl,rfl,⟨fun _=>.inr hm,fun _=>rfl⟩,.inl ⟨hm,σ',_,s',_,β',B',R',Hd',Hs',Hk',HS',hD',hSe',hBk',hSt',⟨Sha.sum_len _,?_,?_⟩,rfl,hK'.xok,by rw [hXX];exact hK',?_,rfl⟩⟩
  ·rw [aH]
   exact fY
  ·show 0≤r.c+1
   have:=hr.c0
   omega
  ·show r.c+1≤_
   omega
  ·rw [hA',hA]
   congr 1
   refine aJz ?_ (fun y hy=>?_) (fun y hy=>?_)
   ·unfold dH
    rw [gQ,gQ,gQ]
    rfl
   ·obtain⟨z,hz,rfl⟩:=bH.1 hy
    obtain⟨j,hj⟩:=cC.1 hz
    rw [hXl]
    exact rW hm j z hj
   ·obtain⟨z,-,rfl⟩:=bH.1 hy
    exact aS
 ·have hm':gH 3 4 l=false:=by simpa using hm
  by_cases hl:l=[]
  ·have e1:cmS 3 4 X l (σ,r,x)=(0,(σ,r,x)):=by
    subst hl
    unfold cmS
    dsimp only
    have h0:lQ 3 4 r x []=0:=by
     unfold lQ
     rw [if_neg (fun hh=>hh hKt.st),if_neg (by rw [hKt.w];decide),if_neg oQ,if_neg (by simp),if_neg (fun hh=>hh.1 rfl)]
    rw [if_neg (fun hh=>hh h0),if_pos rfl]
   rw [e1] at hCo
   refine Tri.to hCo ?_
   rintro v H ⟨Hd',HS',Hs',Hk',β',rfl,hD',hSt',hBk',hSe',rfl⟩
   refine⟨((i.tr,cl (trc i.d r) 201)::(Hd'++(Hs'++(Hk'++HS'))))++(HE++HQ),[],?_,0,_,rfl,rfl,⟨fun _=>.inl hl,fun _=>rfl⟩,.inr ⟨hm',σ,r,x,_,β',B,R,Hd',Hs',Hk',HS',hD',hSe',hBk',hSt',hr,rfl,hx,by rw [hXX];exact hKt,hA,rfl⟩⟩
   rw [aH]
   exact fY
  ·have hno:=aLL (r:=r) hKt.st hKt.w oQ hl hm'
   have e1:cmS 3 4 X l (σ,r,x)=(lQ 3 4 r x l,(σ,r,x)):=by
    unfold cmS
    dsimp only
    rw [if_pos hno]
   rw [e1] at hCo
   refine Tri.to hCo ?_
   rintro v H ⟨Hd',HS',Hs',Hk',β',rfl,hD',hSt',hBk',hSe',rfl⟩
   refine⟨((i.tr,cl (trc i.d r) 201)::(Hd'++(Hs'++(Hk'++HS'))))++(HE++HQ),[],?_,lQ 3 4 r x l,_,rfl,rfl,⟨fun e=>absurd e hno,fun hh=>by rcases hh with hh|hh;exact absurd hh hl;exact absurd hh hm⟩,.inr ⟨hm',σ,r,x,_,β',B,R,Hd',Hs',Hk',HS',hD',hSe',hBk',hSt',hr,rfl,hx,by rw [hXX];exact hKt,hA,rfl⟩⟩
   rw [aH]
   exact fY
theorem StS.read{k:List UInt8}(hk:k.length=16){i:Pid}{sp:Nat}{c:Int}{A:Acs}{now:Nat→List UInt8}{H:Hp}(hS:StS k i sp c A now H){j:Nat}(hj:j<5) :
  Tri prog 9 [ptv sp,.int .i64 (j:Int)] H (fun _=>True)
  (fun v H'=>∃ v1 Hr H2,v=.tuple #[v1,.int .i64 0]∧Sl 5 1 v1 (cbs (now j)) Hr∧StS k i sp c A now H2∧H'=H2++Hr):=by
 obtain⟨σ,r,x,sr,β,B,R,Hd,Hs,Hk,HS,hD,hSe,hBk,hSt,hr,rfl,hx,hKt,hA,rfl⟩:=hS
 have hrd:=hKt.read (by rfl) (j:=j) hj
 have hlen:σ.len=256*Gm.total 3 4:=by rw [hKt.sta.len];rfl
 have hRd:=aHP (tr:=i.tr) aA1 hx hD hlen hSt hBk hSe (uG k hk) (j:Int)
 generalize hXX:dM (Aes.enc (Aes.sched k) 10)=X at *
 rw [hrd] at hRd
 refine Tri.to (hRd.frame (r:=[(i.tr,cl (trc i.d r) 201)]) (Pre':=fun _=>True) fY (fun _ _ _=>trivial)) ?_
 rintro v H ⟨H1,rfl,v1,Hr,HS',Hk',rfl,h1,hSt',hBk',rfl⟩
 refine⟨((i.tr,cl (trc i.d r) 201)::(Hd++(Hs++(Hk'++HS'))))++Hr,[],?_,v1,Hr,_,rfl,h1,⟨σ,r,x,sr,_,B,R,Hd,Hs,Hk',HS',hD,hSe,hBk',hSt',hr,rfl,hx,by rw [hXX];exact hKt,hA,rfl⟩,rfl⟩
 rw [aH]
 exact fY
theorem StS.acts{k:List UInt8}{i:Pid}{sp:Nat}{c:Int}{A:Acs}{now:Nat→List UInt8}{H:Hp}(hS:StS k i sp c A now H) :
  Tri prog 25 [ptv i.d] H (fun _=>True) (fun v H'=>∃ Ha,Sl 81 3 v (A.flatMap ac) Ha∧H'=Ha++H):=by
 obtain⟨σ,r,x,sr,β,B,R,Hd,Hs,Hk,HS,hD,hSe,hBk,hSt,hr,rfl,hx,hKt,rfl,rfl⟩:=hS
 refine Tri.to ((aJl hD).frame (r:=(i.tr,cl (trc i.d r) 201)::(Hs++(Hk++HS))) (Pre':=fun _=>True) fY (fun _ _ _=>trivial)) ?_
 rintro v H ⟨H1,rfl,Ha,rfl,h1⟩
 refine⟨Ha++((i.tr,cl (trc i.d r) 201)::(Hd++(Hs++(Hk++HS)))),[],?_,Ha,h1,rfl⟩
 rw [aH]
 exact fY
theorem aH8:Tri prog 20 [] [] (fun _=>True) (fun v H=>v=.bool true∧H=[]):=by
 have hk:aJT.length=16:=rfl
 obtain⟨σ1,σ3,r1,r3,sr,β1,x,B,R,hpf,hpo,hr,hc,hx,hKt,hA,hok,hβ⟩:=aLF aJT hk
 rw [hok] at hpo
 have hbeg:=aE7 aA1 aJT hk (cnt:=0) dQ dQ
 have hAb:aIb.length≤16384:=by decide +kernel
 obtain⟨D2,hal,hD2⟩:∃ D2:Acs,(mU aIb D2).length=aIb.length+14∧∀ l:List Ent,l.map Prod.fst=[2]→aJA (l.map Prod.fst)=D2:=⟨aJA [2],by decide +kernel,fun l h=>by rw [h]⟩
 refine Tri.mk func20 rfl ntmps20 rfl fun w hw=>?_
 have hbk:bX (fun i=>some (i*1,1)) (List.replicate 16 (.int .u8 0)) [(0,.int .u8 1)]=some (cbs aJT):=rfl
 generalize aJT=k1 at *
 generalize hz:List.replicate 256 (0:UInt8)=z at *
 have hz256:z.length=256:=by rw [← hz];exact aS
 refine W.k ?_
 refine W.cw aDJ ?_
 refine aF hbeg ?_
 rintro _ H1 ⟨pp,rfl,hP⟩
 refine W.k ?_
 refine aF (hpf pp H1 hP) ?_
 rintro _ H2 ⟨rfl,hP2⟩
 refine W.k ?_
 refine aF (hpo pp H2 hP2) ?_
 rintro _ H3 ⟨rfl,hP3⟩
 clear hpf hpo hbeg hP hP2
 obtain⟨i,sv,rv,Hd,Hs,Hk,HD,HR,HS,HT,hD,hS,hBk,hDR,hSR,⟨sp,rfl,hSt⟩,⟨rsp,rfl,hRt⟩,rfl⟩:=hP3
 have hSS:StS k1 i sp 3 aIb (fun _=>z) ((i.tr,cl (trc i.d r3) 201)::(Hd++(Hs++(Hk++HS)))):=⟨σ3,r3,x,sr,_,B,R,Hd,Hs,Hk,HS,hD,hS,hBk,hSt,hr,hc,hx,hKt,hA.1,rfl⟩
 clear hKt hA hr hc hx hDR hSR hRt
 generalize aIb=A0 at *
 refine W.k ?_
 refine aF hSS.acts ?_
 rintro va _ ⟨Ha,hSa,rfl⟩
 obtain⟨aa,al,ac1,rfl,hal0⟩:=hSa.form
 have hfl:(A0.flatMap ac).length=A0.length*3:=mE ac 3 _ (fun x _=>rfl)
 obtain rfl:al=A0.length:=by omega
 refine W.k ?_
 (refine SW.l [8] [0,1,2,3] ?_;refine bA 4 ?_)
 refine W.ma fun bz=>?_
 rw [lH,aBK,hz]
 have hq:Sl 5 1 (.slice (some ⟨bz,0,none⟩) 256 256) (cbs z) [(bz,cl (cbs z) 5)]:=Sl.own _ _ _ (len:=256) (by rw [aI];exact hz256)
 have hRq:RB [(bz,cl (cbs z) 5)] [.slice (some ⟨bz,0,none⟩) 256 256] ([((2:Int),z)].map Prod.snd):=(RB.nil _).snoc (RdH.of hq)
 (refine SL.l [5] ?_;refine bA 6 ?_)
 refine iS (fun be=>?_) (hr:=aB3 ..)
 have hen:=aIj (.slice (some ⟨be,0,none⟩) 1 1) _ [((2:Int),z)] hRq (by show 1≤1000;decide) (by intro x hx;rw [bU] at hx;subst hx;dsimp only;omega)
 (refine bC [] ?_;refine bA 7 ?_)
 refine aF hen ?_ (hpre:=fun w2 hs=>Rd.own (Hc:=[(bz,cl (cbs z) 5)]) (Sl.own 72 2 be (len:=1) (xs:=[.int .i64 2,.slice (some ⟨bz,0,none⟩) 256 256]) rfl) hs inferInstance)
 rintro ev _ ⟨us',HE,HQ,hL,hR,rfl⟩
 have oL:=hL.isOne
 (refine bC [] ?_;refine bO 8 ?_)
 refine aF (hSS.commit hk dQ hL hR (by show 1≤1000000;decide)) ?_
 rintro _ _ ⟨e,H5,rfl,rfl,he,hC⟩
 have hm:gH 3 4 [((2:Int),z)]=true:=by unfold gH mR mR;rw [hz256];rfl
 obtain rfl:e=0:=he.2 (.inr hm)
 rcases hC with ⟨-,hS5⟩|⟨hno,-⟩
 rotate_left
 ·rw [hm] at hno;cases hno
 rw [hD2 _ rfl] at hS5
 have hrd5:=hS5.read hk (j:=2) dQ
 rw [show aLO (fun _=>z) [((2:Int),z)] 2=z from rfl] at hrd5
 (refine SL.l [9,10] ?_)
 refine W.k ?_
 refine aF hrd5 ?_
 rintro _ _ ⟨v5,Hr,H6,rfl,h5,hS6,rfl⟩
 obtain⟨a5,l5,c5,rfl,hl5⟩:=h5.form
 rw [aI,hz256] at hl5
 obtain rfl:l5=256:=by omega
 refine W.k ?_
 refine aF hS6.acts ?_
 rintro va _ ⟨Ha6,hSa6,rfl⟩
 obtain⟨aa6,al6,ac6,rfl,hal6⟩:=hSa6.form
 have hfl6:((mU A0 D2).flatMap ac).length=(mU A0 D2).length*3:=mE ac 3 _ (fun x _=>rfl)
 obtain rfl:al6=A0.length+14:=by omega
 refine W.k ?_
 exact F.n
abbrev P34(k:List UInt8)(pp N:Nat)(σ:Dv)(r:Rg)(sr:Sr)(β:Bk)(o:Option So)(H:Hp):Prop:=nL pp 3 4 10 N (Aes.sched k) (Rg.sched k) σ r sr β o H
theorem aJp(k:List UInt8)(hk:k.length=16){cnt:Int}(h0:0≤cnt)(h1:cnt≤18446744073709551615):Tri prog 21 [.agg (cbs k).toArray,.int .u64 cnt] [] (fun _=>True)
  (fun v H=>∃ pp σ r sr β o,v=.tuple #[ptv pp,.bool true]∧P34 k pp 200 σ r sr β o H∧Inv 3 4 σ r o∧aCX r sr o):=by
 have hbeg:=aE7 aA1 k hk (cnt:=cnt) h0 h1
 have hX:=aGl k hk
 have hK:=uG k hk
 have hK':=aBe k hk
 have hI0:Inv 3 4 (Dv.new (4*Gm.total 3 4:Nat)) (rg0 cnt) none:=⟨by have:=(aBJ (4*Gm.total 3 4) dQ).len;omega,aGM h0 h1,by simp⟩
 have hH0:aCX (rg0 cnt) Sr.new none:=⟨rfl,by simp [Sr.new],by simp⟩
 have hif:=hI0.format (X:=dM (Aes.enc (Aes.sched k) 10))
 have hpf:=fun pp H hP=>aA3 (pp:=pp) (H:=H) (o:=none) (N:=0) (sr:=Sr.new) (β:=Bk.new) (σ:=Dv.new (4*Gm.total 3 4:Nat)) (r:=rg0 cnt) aA1 hP hI0.len hI0.r hK hK' oQ hX
 have hh1:=hif.2 Sr.new hH0
 have hi1:=hif.1
 clear hif
 generalize pC 3 (Dv.new (4*Gm.total 3 4:Nat)) (rg0 cnt) Sr.new=sr1 at *
 generalize xY 3 4 10 (Aes.sched k) (Dv.new (4*Gm.total 3 4:Nat)) (rg0 cnt) Bk.new=β1 at *
 generalize lD 3 4 (dM (Aes.enc (Aes.sched k) 10)) (Dv.new (4*Gm.total 3 4:Nat),rg0 cnt)=FF at *
 obtain⟨e1,σ1,r1⟩:=FF
 dsimp only at hpf hi1 hh1
 have hpo:=fun pp H hP=>aEf (pp:=pp) (H:=H) (n:=10) (N:=0+200) (ws:=Aes.sched k) (ws':=Rg.sched k) (sr:=sr1) (β:=β1) (o:=none) (σ:=σ1) (r:=r1) aA1 hP hi1.len hi1.r true
 have hio:=hi1.open true
 have hh2:=hio.2 sr1 hh1
 have hi2:=hio.1
 clear hio
 generalize iX 3 4 true σ1 r1=o2 at *
 generalize pD 3 4 true σ1 r1 β1=β2 at *
 generalize gV 3 4 true (σ1,r1)=F2 at *
 obtain⟨e2,σ2,r2⟩:=F2
 dsimp only at hpo hi2 hh2
 clear hI0 hH0 hi1 hh1 hX hK hK'
 refine Tri.mk func21 rfl ntmps21 rfl fun w hw=>?_
 have hk0:(cbs k).length=16:=by rw [aI];exact hk
 refine W.k fun b_=>?_
 (refine SW.l [3] [1,2] ?_;refine bA 0 ?_)
 refine W.cq aDJ ?_
 (refine bC [] ?_;refine bO 3 ?_)
 refine aF hbeg ?_
 rintro _ H1 ⟨pp,rfl,hP⟩
 (refine SL.l [4,5] ?_)
 refine W.k ?_
 refine aF (hpf pp H1 hP) ?_
 rintro _ H2 ⟨rfl,hP2⟩
 refine W.k ?_
 refine aF (hpo pp H2 hP2) ?_
 rintro _ H3 ⟨rfl,hP3⟩
 refine W.k ?_
 refine Fin.to H3 ?_
 exact F.f2 ⟨pp,σ2,r2,sr1,β2,o2,rfl,hP3,hi2,hh2⟩
theorem aI0.k{w:World}{a:oG}(h:aI0 w a):∃ us l,aBQ [] w a us l∧l.length≤maxLen:=by
 obtain⟨us,l,h1,h2,-⟩:=h.l
 exact⟨us,l,⟨h1,h.b,h.p⟩,h2⟩
theorem aBQ.ro{K:List Nat}{w0 w:World}{H Hc r:Hp}{a:oG}{us:List Value}{l:List Ent}(h:aBQ K w0 a us l)(hs:St K w0 H w) [hp:fA H Hc r]:aBQ (Hc.map Prod.fst) w a us l:=
 ⟨h.1.ro hs,h.2.1.elim fun b hb=>⟨b,hb.ro hs⟩,h.2.2.elim fun b hb=>⟨b,hb.ro hs⟩⟩
structure PlS where
 i:Nat
 N:Nat
 σ:Dv
 r:Rg
 sr:Sr
 β:Bk
 o:Option So
 H:Hp
theorem aMa{l ys:List Value}{ob len i:Nat}(h:(l.drop ob).take (len*9)=ys)(hi:i<len):(l.drop (ob+i*9)).take 9=(ys.drop (i*9)).take 9:=by
 rw [← h,jW,fP,cJ,cR oQ]
theorem aCQ(k:List UInt8)(hk:k.length=16){cnt:Int}(h0:0≤cnt)(h1:cnt≤18446744073709551615)(a:Option Addr)(len cap:Nat)(ys:List Value)(hml0:len≤maxLen) :
  Tri prog 7 [.agg (cbs k).toArray,.int .u64 cnt,.slice a len cap] [] (fun w=>aMs w a len cap ys) (fun v H=>v=.bool true):=by
 have hX:=aGl k hk
 have hK:=uG k hk
 have hK':=aBe k hk
 have hbg:=aJp k hk h0 h1
 have hstep:=fun (pp N:Nat) (σ:Dv) (r:Rg) (sr:Sr) (β:Bk) (o:Option So) (H:Hp) (hN:N≤1000000) (hP:P34 k pp N σ r sr β o H) (hI:Inv 3 4 σ r o) (a:oG) us l hl ha=>aNc (pp:=pp) (N:=N) aA1 hP hI hK hK' hN hX a us l hl ha
 refine Tri.mk func7 rfl ntmps7 rfl fun w hw=>?_
 obtain⟨hrd0,hops⟩:=hw
 obtain⟨a',len',cap',he,hyl,hcap,hrd⟩:=hrd0.get
 cases he
 have hml:len≤9223372036854775807:=fN hml0 dQ
 have hk0:(cbs k).length=16:=by rw [aI];exact hk
 refine W.k fun b_=>?_
 refine aF hbg ?_
 rintro _ H0 ⟨pp,σ,r,sr,β,o,rfl,hP,hI,-⟩
 have hsm:=aJf aA1 hP hI
 refine W.k ?_
 refine aF hsm ?_
 rintro _ H1 ⟨rfl,β1,hP1⟩
 clear hsm hbg hP
 refine W.j ?_
 refine bQ [] H1 (fun _:Hp=>[]) (fun y=>y) (fun _=>True) ?_ ?_
 ·refine W.k ?_
  refine bF [7,24,25] (fun y:PlS=>[(26,.int .i64 (y.i:Int))]) (fun y=>y.H) (fun y=>len-y.i) (fun y=>y.i≤len∧y.i≤20∧y.N=200+1000*y.i∧P34 k pp y.N y.σ y.r y.sr y.β y.o y.H∧Inv 3 4 y.σ y.r y.o) ⟨0,200,σ,r,sr,β1,o,H1⟩ ⟨Nat.zero_le _,Nat.zero_le _,rfl,hP1,hI⟩ ?_
  clear hP1 hI
  rintro⟨ii,N,σ,r,sr,β,o,H⟩ ⟨hi,hi20,hN,hP,hI⟩
  dsimp only at hi hi20 hN hP hI ⊢
  by_cases hil:ii<len
  ·obtain⟨ad,ho,hrow⟩:=hops ii hil
   obtain⟨blk0,ob,lr,T,fz,rfl,hb,hbk,hys⟩:=hrd oQ
   have hrow2:=(aMa hys hil).trans hrow
   have hol:ad.c.length=9:=rfl
   obtain⟨us,l,hA,hl⟩:=ho.k
   have hoc:OC ad.c:=hA.one
   by_cases c20:20≤ii
   ·refine W.k fun b_=>?_
    refine bT.mk H ?_
    exact trivial
   ·have hst:=hstep pp N σ r sr β o H oQ hP hI ad us l hl (by have:=ho.i;exact⟨this.1,this.2⟩)
    refine W.k fun b_=>?_
    refine aF hst ?_ (hpre:=fun w2 hs=>hA.ro (Hc:=H) hs)
    rintro _ H2 ⟨rfl,σ2,r2,sr2,β2,o2,hP2,hI2,-⟩
    have hsm:=aJf aA1 hP2 hI2
    refine W.k ?_
    refine aF hsm ?_
    rintro _ H3 ⟨rfl,β3,hP3⟩
    refine W.k ?_
    refine aQ.mk ⟨ii+1,N+1000,σ2,r2,sr2,β3,o2,H3⟩ ?_
    exact⟨hil,by dsimp only;omega,by dsimp only;omega,hP3,hI2⟩
  ·refine W.k ?_
   refine bT.mk H ?_
   exact trivial
 rintro H3 -
 refine W.k ?_
 refine W.cw aH8 ?_
 refine Fin.to [] ?_
 exact F.f1 rfl
end
end Go.Proofs.YtnhnpjokpelkbaaGreat
