/- A store that was begun; entries; the example of the store's statements. -/
import Derived.Test.YtnhnpjokpelkbaaGreatPs36
import Derived.Test.YtnhnpjokpelkbaaGreatPs39
import Derived.Test.YtnhnpjokpelkbaaGreatPs29
import Derived.Test.YtnhnpjokpelkbaaGreatPs30
import Derived.Test.YtnhnpjokpelkbaaGreatPs10
import Derived.Test.YtnhnpjokpelkbaaGreatPs37
import Derived.Test.YtnhnpjokpelkbaaGreatPs14
import Derived.Test.YtnhnpjokpelkbaaGreatPs34
set_option linter.unusedVariables false
set_option linter.unusedSimpArgs false
set_option linter.unusedSectionVars false
set_option maxHeartbeats 4000000
namespace Go.Proofs.YtnhnpjokpelkbaaGreat
open Go Go.Proofs.Tryz
section
attribute [local irreducible] SW SL SQ SH SA SS Pu Fin bZ aQ
theorem aJd{p t:Nat}{B B':List (List UInt8)}(h:B.length=B'.length)(h1:∀ b∈B,b.length=256)(h2:∀ b∈B',b.length=256):vR p t B=vR p t B':=by
 unfold vR
 rw [aAJ (a:=fM 0 B) (b:=fM 0 B')]
 apply cC
 intro i
 unfold fM
 simp only [aH,dB]
 by_cases hi:i<B.length
 ·rw [aA hi,aA (show i<B'.length by omega)]
  simp only [Option.map_some]
  rw [h1 _ (cP hi),h2 _ (cP (show i<B'.length by omega))]
 ·rw [aZ oQ,aZ oQ]
abbrev zB7:List (List UInt8):=List.replicate 7 (List.replicate 256 0)
def aBO:Acs:=mG (mG [] ([(4,0,0)]++vR 3 4 zB7++[(4,0,0)])) (vR 3 4 zB7++[(4,0,0)])
abbrev n34:Nat:=8*(4*Gm.total 3 4)
theorem aHt(k:List UInt8)(hk:k.length=16):∃ (σ1 σ3:Dv) (r1 r3:Rg) (sr:Sr) (β1:Bk) (x:So) (B:List (List UInt8)) (R:List UInt8),
  (∀ pp H,aAe pp 3 4 10 0 (Aes.sched k) (Rg.sched k) (Dv.new (4*Gm.total 3 4:Nat)) (rg0 0) Sr.new Bk.new none H→Tri prog 64 [ptv pp] H (fun _=>True) (fun v H'=>v=.bool true∧aAe pp 3 4 10 (0+200) (Aes.sched k) (Rg.sched k) σ1 r1 sr β1 none H')) ∧
  (∀ pp H,aAe pp 3 4 10 (0+200) (Aes.sched k) (Rg.sched k) σ1 r1 sr β1 none H→Tri prog 65 [ptv pp,.bool true] H (fun _=>True) (fun v H'=>v=.bool true∧aAe pp 3 4 10 (0+200) (Aes.sched k) (Rg.sched k) σ3 r3 sr (qM 3 4 true σ1 r1 β1) (some x) H')) ∧
  r3.Ok∧r3.c=3∧x.Ok 3∧aAb 3 4 n34 (dT (Aes.enc (Aes.sched k) 10)) σ3 x (fun _=>List.replicate 256 0) B R∧(σ3.acts=aBO∧lC σ3.ws=kV σ3.ws)∧qM 3 4 true σ1 r1 β1=lF β1 B∧(β1=Bk.new∨∃ B':List (List UInt8),B'.length=7∧β1=lF Bk.new B'):=by
 obtain⟨σ',hF,hSta⟩:=aLR yK (E:=Aes.enc (Aes.sched k) 10) (fun x=>Aes.enc_len ..) (cnt:=0) dQ dQ dQ
 have hB:=pK (p:=3) (t:=4) (E:=Aes.enc (Aes.sched k) 10) (fun x=>Aes.enc_len ..) (UInt64.ofNat ((0:Int)+2).toNat)
 have hBl:=nU 3 4 (dT (Aes.enc (Aes.sched k) 10)) (UInt64.ofNat ((0:Int)+2).toNat)
 have hB0:(fK 3 4 (dT (Aes.enc (Aes.sched k) 10)) (UInt64.ofNat ((0:Int)+2).toNat)).getD 0 []=iB 3 4:=rfl
 have hX:=aNw k hk
 have hK:=xK k hk
 have hK':=aIY k hk
 have hFA:σ'.acts=mG [] ([(4,0,0)]++vR 3 4 (fK 3 4 (dT (Aes.enc (Aes.sched k) 10)) (UInt64.ofNat ((0:Int)+2).toNat))++[(4,0,0)]):=by
  have:=aJQ (p:=3) (t:=4) (X:=dT (Aes.enc (Aes.sched k) 10)) (r:=rg0 0) (aB3 (4*Gm.total 3 4) dQ) (by rfl) dQ hB hBl
  rw [hF] at this
  exact this
 have hFM:sX σ'.ws:=by
  have:=aNU (p:=3) (t:=4) (X:=dT (Aes.enc (Aes.sched k) 10)) (r:=rg0 0) (aB3 (4*Gm.total 3 4) dQ) (aN7 _) (by rfl) dQ hB hBl
  rw [hF] at this
  exact this
 have hpf:=fun pp H hP=>aIJ (pp:=pp) (H:=H) (o:=none) (N:=0) (sr:=Sr.new) (β:=Bk.new) (σ:=Dv.new (4*Gm.total 3 4:Nat)) (r:=rg0 0) yK hP (by have:=(aB3 (4*Gm.total 3 4) dQ).len;omega) (aKE dQ dQ) hK hK' oQ hX
 rw [hF] at hpf
 have hfr:=fun (τ:Dv) (R:List UInt8) (h:τ.Sta n34 ((fK 3 4 (dT (Aes.enc (Aes.sched k) 10)) (UInt64.ofNat ((0:Int)+2).toNat)).flatten++R))=>aAb.fresh (e:=UInt64.ofNat ((0:Int)+2).toNat) rfl (E:=Aes.enc (Aes.sched k) 10) (fun x=>Aes.enc_len ..) h
 have hfk:zJ 3 4 10 (Aes.sched k) (Dv.new (4*Gm.total 3 4:Nat)) (rg0 0) Bk.new=Bk.new∨∃ B':List (List UInt8),B'.length=7∧zJ 3 4 10 (Aes.sched k) (Dv.new (4*Gm.total 3 4:Nat)) (rg0 0) Bk.new=lF Bk.new B':=by
  unfold zJ
  split
  ·exact .inl rfl
  ·split
   ·exact .inr ⟨_,nU _ _ _ _,rfl⟩
   ·exact .inl rfl
 generalize wA 3 (Dv.new (4*Gm.total 3 4:Nat)) (rg0 0) Sr.new=sr at *
 generalize zJ 3 4 10 (Aes.sched k) (Dv.new (4*Gm.total 3 4:Nat)) (rg0 0) Bk.new=β at *
 generalize hXX:dT (Aes.enc (Aes.sched k) 10)=X at *
 generalize fK 3 4 X (UInt64.ofNat ((0:Int)+2).toNat)=B at *
 have hrl:(fW B).length=32:=Sha.sum_len _
 have hlen:σ'.len=256*Gm.total 3 4:=by rw [hSta.len];rfl
 generalize hrr:({ c:=0+2,root:=fW B }:Rg)=r2 at *
 have hr2:r2.Ok:=by rw [← hrr];exact⟨hrl,by show (0:Int)≤0+2;decide,by show (0:Int)+2≤_;decide⟩
 have hrc2:r2.c=2:=by rw [← hrr];rfl
 obtain⟨σ3,hO,hS3⟩:=aKe (r:=r2) hSta (by rfl) hB hBl (by rw [← hrr]) hB0 (by rw [hrc2];decide)
 have hOA:=aIH (r:=r2) hSta (by rfl) hB hBl (by rw [← hrr]) hB0 (by rw [hrc2];decide)
 rw [hO] at hOA
 have hOM:=aL4 (r:=r2) hSta hFM (by rfl) hB hBl (by rw [← hrr]) hB0 (by rw [hrc2];decide)
 rw [hO] at hOM
 have hlk:gK 3 4 σ' r2=(1,B):=aAt hSta (by rfl) hB hBl (by rw [← hrr]) hB0
 have hpo:=fun pp H hP=>aL5 (pp:=pp) (H:=H) (n:=10) (N:=0+200) (ws:=Aes.sched k) (ws':=Rg.sched k) (sr:=sr) (β:=β) (o:=none) (σ:=σ') (r:=r2) yK hP hlen hr2 true
 have hoo:jJ 3 4 true σ' r2=some ⟨nD 3 B,eG B,true,0⟩:=by unfold jJ;rw [hO,if_pos rfl,hlk]
 rw [hO,hoo] at hpo
 have hok:qM 3 4 true σ' r2 β=lF β B:=by
  unfold qM
  rw [if_neg (fun hh=>by have:=hh.2;omega),if_neg (by rw [hSta.l.d];decide)]
  have hbk:σ'.blks 0 (Gm.leaves 3)=B:=by rw [← hBl];exact hSta.blks hB (by rw [hBl];decide)
  unfold uE
  rw [hbk,if_pos (by unfold lU;rw [hB0,← hrr];simp)]
 have hwA:=aJd (p:=3) (t:=4) (B:=B) (B':=zB7) (by rw [hBl];rfl) hB (fun b hb=>by rw [kM hb];exact aP)
 refine⟨σ',σ3,r2,{ r2 with c:=r2.c+1 },sr,β,_,B,_,hpf,hpo,⟨hr2.len,by show 0≤r2.c+1;omega,by show r2.c+1≤_;omega⟩,by show r2.c+1=3;omega,⟨by dsimp only;unfold nD;simp,by dsimp only;rw [iZ,hBl],pC _⟩,hfr σ3 _ hS3,⟨?_,hOM⟩,hok,hfk⟩
 rw [hOA,hFA,hwA]
 rfl
theorem uU:Tri prog 11 [] [] (fun _=>True) (fun v H=>v=kP 3 4∧H=[]):=by
 refine Tri.mk func11 rfl ntmps11 rfl fun w hw=>?_
 (refine W.k ?_;repeat intro b_)
 exact F.c0 (zK 3 4) ⟨rfl,rfl⟩
theorem xR(v:Value)(us:List Value)(l:List Ent){Ht:Hp}(hR:RB Ht us (l.map Prod.snd))(hn:l.length≤1000)(h2:∀ x∈l,x.2.length≤1000000) :
  Tri prog 23 [v] Ht (fun w=>Rd (Ht.map Prod.fst) w 2 v (eW us l))
  (fun r H=>∃ us' HE HQ,Sl 136 2 r (eW us' l) HE∧RB HQ us' (l.map Prod.snd)∧H=(HE++HQ)++Ht):=by
 refine Tri.mk func23 rfl ntmps23 rfl fun w hw=>?_
 have hL:=hR.le
 have hul:=hL.1
 have hw2:=hw
 unfold eW at hw2
 obtain⟨a,ca,rfl,hcap,hg⟩:=hw2.rows dQ (nM us l)
 have hzl:(List.zipWith (fun u (x:Ent)=>[Value.int .i64 x.1,u]) us l).length=l.length:=by rw [gF,hL.1,jB]
 rw [hzl] at hcap hw ⊢
 (refine W.j ?_;repeat intro b_)
 refine bW [] [] (fun y:Value×List Value×Hp×Hp=>[(3,y.1)]) (fun y=>y.2.2.1++y.2.2.2) (fun y=>Sl 136 2 y.1 (eW y.2.1 l) y.2.2.1∧RB y.2.2.2 y.2.1 (l.map Prod.snd)) ?_ ?_
 ·(refine W.k ?_;repeat intro b_)
  refine bF [6,7] (fun y:Nat×Value×List Value×Hp×Hp=>[(3,y.2.1),(8,.int .i64 (y.1:Int))]) (fun y=>y.2.2.2.1++y.2.2.2.2) (fun y=>l.length-y.1) (fun y=>y.1≤l.length∧Sl 136 2 y.2.1 (eW y.2.2.1 (l.take y.1)) y.2.2.2.1∧RB y.2.2.2.2 y.2.2.1 ((l.take y.1).map Prod.snd)) (0,.slice none 0 0,[],[],[]) ⟨Nat.zero_le _,Sl.nil _ _,RB.nil _⟩ ?_
  rintro⟨k,ov,us2,HO,HQ2⟩ ⟨hk,hO,hR2⟩
  dsimp only at hk hO hR2 ⊢
  have oO:=hO.isOne
  by_cases hkn:k<l.length
  ·have hx0:=aA hkn
   obtain⟨u,huk,hru⟩:=hR.2 k l[k].2 (by rw [aH,hx0];rfl)
   have hx3:=h2 _ (cP hkn)
   obtain⟨pb,po,lv,T,fz,rfl,hb,hbk,hv⟩:=hg k [.int .i64 l[k].1,u] (by rw [eZ,huk,hx0])
   have htk:l.take (k+1)=l.take k++[l[k]]:=by rw [bA,hx0];rfl
   have htkl:(l.take k).length=k:=by rw [aK];omega
   have hul2:us2.length=(l.take k).length:=by rw [hR2.1,aD]
   have hecl:=gE us2 _ hul2
   have huo:=hru.one
   have hLs:=fun v=>iD hul2 v l[k]
   rw [← htk] at hLs
   generalize l[k]=z at *
   (refine W.k ?_;repeat intro b_)
   generalize b_=eb2
   (refine SW.l [8,9] [0,1,2,4,5] ?_;refine aX 3 ?_)
   refine aMO fun b0=>?_
   (refine bK [] ?_;refine aX 6 ?_)
   have h0:Sl 5 1 (.slice (some ⟨b0,0,none⟩) 0 0) [] [(b0,cl ([]:List Value) 5)]:=Sl.mk (xs:=[]) (junk:=[]) (len:=0) (cap:=0) rfl rfl (Nat.le_refl _)
   refine W.ap h0 (ys:=cbs z.2) (mm:=z.2.length) (fun w2 hs=>by
    obtain⟨m,h1,h2⟩:=(hru.rd (Hc:=[]) hs).src
    rw [aI,Nat.mul_one] at h2
    rw [h2];exact h1) (fun v1 H1 h1=>?_) (hys:=by rw [aI,Nat.mul_one]) (hbytes:=by rw [aI];simp;omega)
   have h11:=h1.isOne
   rw [List.nil_append] at h1
   have hRd:=RdH.of h1
   obtain⟨a1,n1,c1,rfl,-⟩:=h1.form
   (refine SL.l [7] ?_;refine bV 8 ?_)
   refine iQ (fun b7=>?_) (hr:=aA7 ..)
   (refine bK [] ?_;refine bV 9 ?_)
   refine W.ap (ys:=[.int .i64 z.1,.slice a1 n1 c1]) (mm:=1) hO (fun w2 hs=>(Sl.own 136 2 b7 (len:=1) (xs:=[.int .i64 z.1,.slice a1 n1 c1]) rfl).srcAt hs inferInstance) (fun ov2 HO2 hO2=>?_) (hys:=rfl) (hbytes:=by rw [hecl,htkl];simp;omega)
   have oO2:=hO2.isOne
   rw [← hLs] at hO2
   have hR3:RB (HQ2++H1) (us2++[.slice a1 n1 c1]) ((l.take (k+1)).map Prod.snd):=by
    rw [htk,aL]
    exact (hR2.mono fun y hy=>aN _ hy).snoc (hRd.mono fun y hy=>aM _ hy)
   (refine SL.l [10,11] ?_)
   (refine W.k ?_;repeat intro b_)
   refine aQ.mk (k+1,ov2,us2++[.slice a1 n1 c1],HO2,HQ2++H1) ?_
   exact⟨hkn,hO2,hR3⟩
  ·have hkl:k=l.length:=oQ
   rw [hkl,bP] at hO hR2
   subst hkl
   (refine W.k ?_;repeat intro b_)
   refine bZ.mk (ov,us2,HO,HQ2) ?_
   exact⟨hO,hR2⟩
 rintro⟨ov,us2,HO,HQ2⟩ ⟨hO,hR2⟩
 dsimp only at hO hR2 ⊢
 have oO:=hO.isOne
 (refine W.k ?_;repeat intro b_)
 refine Fin.to ((HO++HQ2)++Ht) ?_
 exact F.f1 ⟨us2,HO,HQ2,hO,hR2,rfl⟩
def aHo(ns:List Int):Acs:=aCn 3 0 [] (ns.map fun n=>(n,List.replicate 256 0))
def StS(k:List UInt8)(i:Pid)(sp:Nat)(c:Int)(A:Acs)(now:Nat→List UInt8)(H:Hp):Prop:=
 ∃ (σ:Dv) (r:Rg) (x:So) (sr:Sr) (β:Bk) (B:List (List UInt8)) (R:List UInt8) (Hd Hs Hk HS:Hp),fS i.d σ Hd∧lI i.s i.c i.b 10 (Aes.sched k) sr Hs∧eR i.bk i.tb β Hk∧tI sp i.d i.tr i.s i.bk 3 4 x HS ∧
  r.Ok∧r.c=c∧x.Ok 3∧aAb 3 4 n34 (dT (Aes.enc (Aes.sched k) 10)) σ x now B R∧σ.acts=A∧H=(i.tr,cl (trc i.d r) 201)::(Hd++(Hs++(Hk++HS)))
theorem aAb.xok{p t n:Nat}{X:UInt64→Nat→List UInt8→List UInt8}{σ:Dv}{s:So}{now:Nat→List UInt8}{B:List (List UInt8)}{R:List UInt8}(h:aAb p t n X σ s now B R):s.Ok p:=⟨h.es,by rw [h.lv,iZ];exact h.bl,by rw [h.lv];exact pC _⟩
theorem StS.commit{k:List UInt8}(hk:k.length=16){i:Pid}{sp:Nat}{c:Int}{A:Acs}{now:Nat→List UInt8}{H HE HQ:Hp}(hS:StS k i sp c A now H)(hc:c<18446744073709551615){lv:Value}{us:List Value}{l:List Ent}(hL:Sl 136 2 lv (eW us l) HE)(hR:RB HQ us (l.map Prod.snd))(hn:l.length≤1000000) :
  Tri prog 15 [ptv sp,lv] (H++(HE++HQ)) (fun _=>True)
  (fun v H'=>∃ e H2,v=.int .i64 e∧H'=H2++(HE++HQ)∧(e=0↔l=[]∨gV 3 4 l=true)∧((gV 3 4 l=true∧StS k i sp (c+1) (mG A (aHo (l.map Prod.fst))) (yJ now l) H2)∨(gV 3 4 l=false∧StS k i sp c A now H2))):=by
 obtain⟨σ,r,x,sr,β,B,R,Hd,Hs,Hk,HS,hD,hSe,hBk,hSt,hr,rfl,hx,hKt,hA,rfl⟩:=hS
 have hX:=fun e j b=>aCm (E:=Aes.enc (Aes.sched k) 10) (fun y=>Aes.enc_len ..) e j b
 have hXl:=fun e j b=>oS (E:=Aes.enc (Aes.sched k) 10) (fun y=>Aes.enc_len ..) e j b
 have hKo:=xK k hk
 have h8:σ.ws.length%8=0:=by rw [hKt.sta.n];decide
 have hCo:=aBx (tr:=i.tr) yK hx hr hD h8 hSt hBk hSe hKo hL hR hn rfl
 generalize hXX:dT (Aes.enc (Aes.sched k) 10)=X at *
 refine Tri.perm' (Hd:=(i.tr,cl (trc i.d r) 201)::(HS++(Hd++(Hs++(Hk++(HE++HQ)))))) ?_
 by_cases hm:gV 3 4 l=true
 ·obtain⟨σ',s',B',R',e1,hK',hA'⟩:=hKt.commit hX hXl yK (by rfl) hr.c0 hc hm
  rw [e1] at hCo
  refine Tri.to hCo ?_
  rintro v H ⟨Hd',HS',Hs',Hk',β',rfl,hD',hSt',hBk',hSe',rfl⟩
  refine⟨((i.tr,cl (trc i.d ⟨r.c+1,fW B'⟩) 201)::(Hd'++(Hs'++(Hk'++HS'))))++(HE++HQ),[],?_,0,_,rfl,rfl,⟨fun _=>.inr hm,fun _=>rfl⟩,.inl ⟨hm,σ',_,s',_,β',B',R',Hd',Hs',Hk',HS',hD',hSe',hBk',hSt',⟨Sha.sum_len _,?_,?_⟩,rfl,hK'.xok,by rw [hXX];exact hK',?_,rfl⟩⟩
  ·rw [aF]
   exact gA
  ·show 0≤r.c+1
   have:=hr.c0
   omega
  ·show r.c+1≤_
   omega
  ·rw [hA',hA]
   congr 1
   refine aJJ ?_ (fun y hy=>?_) (fun y hy=>?_)
   ·unfold fL
    rw [gS,gS,gS]
    rfl
   ·obtain⟨z,hz,rfl⟩:=bJ.1 hy
    obtain⟨j,hj⟩:=cT.1 hz
    rw [hXl]
    exact uF hm j z hj
   ·obtain⟨z,-,rfl⟩:=bJ.1 hy
    exact aP
 ·have hm':gV 3 4 l=false:=by simpa using hm
  by_cases hl:l=[]
  ·have e1:cmS 3 4 X l (σ,r,x)=(0,(σ,r,x)):=by
    subst hl
    unfold cmS
    dsimp only
    have h0:nI 3 4 r x []=0:=by
     unfold nI
     rw [if_neg (fun hh=>hh hKt.st),if_neg (by rw [hKt.w];decide),if_neg oQ,if_neg (by simp),if_neg (fun hh=>hh.1 rfl)]
    rw [if_neg (fun hh=>hh h0),if_pos rfl]
   rw [e1] at hCo
   refine Tri.to hCo ?_
   rintro v H ⟨Hd',HS',Hs',Hk',β',rfl,hD',hSt',hBk',hSe',rfl⟩
   refine⟨((i.tr,cl (trc i.d r) 201)::(Hd'++(Hs'++(Hk'++HS'))))++(HE++HQ),[],?_,0,_,rfl,rfl,⟨fun _=>.inl hl,fun _=>rfl⟩,.inr ⟨hm',σ,r,x,_,β',B,R,Hd',Hs',Hk',HS',hD',hSe',hBk',hSt',hr,rfl,hx,by rw [hXX];exact hKt,hA,rfl⟩⟩
   rw [aF]
   exact gA
  ·have hno:=aL0 (r:=r) hKt.st hKt.w oQ hl hm'
   have e1:cmS 3 4 X l (σ,r,x)=(nI 3 4 r x l,(σ,r,x)):=by
    unfold cmS
    dsimp only
    rw [if_pos hno]
   rw [e1] at hCo
   refine Tri.to hCo ?_
   rintro v H ⟨Hd',HS',Hs',Hk',β',rfl,hD',hSt',hBk',hSe',rfl⟩
   refine⟨((i.tr,cl (trc i.d r) 201)::(Hd'++(Hs'++(Hk'++HS'))))++(HE++HQ),[],?_,nI 3 4 r x l,_,rfl,rfl,⟨fun e=>absurd e hno,fun hh=>by rcases hh with hh|hh;exact absurd hh hl;exact absurd hh hm⟩,.inr ⟨hm',σ,r,x,_,β',B,R,Hd',Hs',Hk',HS',hD',hSe',hBk',hSt',hr,rfl,hx,by rw [hXX];exact hKt,hA,rfl⟩⟩
   rw [aF]
   exact gA
theorem StS.read{k:List UInt8}(hk:k.length=16){i:Pid}{sp:Nat}{c:Int}{A:Acs}{now:Nat→List UInt8}{H:Hp}(hS:StS k i sp c A now H){j:Nat}(hj:j<5) :
  Tri prog 9 [ptv sp,.int .i64 (j:Int)] H (fun _=>True)
  (fun v H'=>∃ v1 Hr H2,v=.tuple #[v1,.int .i64 0]∧Sl 5 1 v1 (cbs (now j)) Hr∧StS k i sp c A now H2∧H'=H2++Hr):=by
 obtain⟨σ,r,x,sr,β,B,R,Hd,Hs,Hk,HS,hD,hSe,hBk,hSt,hr,rfl,hx,hKt,hA,rfl⟩:=hS
 have hrd:=hKt.read (by rfl) (j:=j) hj
 have hlen:σ.len=256*Gm.total 3 4:=by rw [hKt.sta.len];rfl
 have hRd:=aAO (tr:=i.tr) yK hx hD hlen hSt hBk hSe (xK k hk) (j:Int)
 generalize hXX:dT (Aes.enc (Aes.sched k) 10)=X at *
 rw [hrd] at hRd
 refine Tri.to (hRd.frame (r:=[(i.tr,cl (trc i.d r) 201)]) (Pre':=fun _=>True) gA (fun _ _ _=>trivial)) ?_
 rintro v H ⟨H1,rfl,v1,Hr,HS',Hk',rfl,h1,hSt',hBk',rfl⟩
 refine⟨((i.tr,cl (trc i.d r) 201)::(Hd++(Hs++(Hk'++HS'))))++Hr,[],?_,v1,Hr,_,rfl,h1,⟨σ,r,x,sr,_,B,R,Hd,Hs,Hk',HS',hD,hSe,hBk',hSt',hr,rfl,hx,by rw [hXX];exact hKt,hA,rfl⟩,rfl⟩
 rw [aF]
 exact gA
theorem StS.acts{k:List UInt8}{i:Pid}{sp:Nat}{c:Int}{A:Acs}{now:Nat→List UInt8}{H:Hp}(hS:StS k i sp c A now H) :
  Tri prog 25 [ptv i.d] H (fun _=>True) (fun v H'=>∃ Ha,Sl 81 3 v (A.flatMap ac) Ha∧H'=Ha++H):=by
 obtain⟨σ,r,x,sr,β,B,R,Hd,Hs,Hk,HS,hD,hSe,hBk,hSt,hr,rfl,hx,hKt,rfl,rfl⟩:=hS
 refine Tri.to ((aNv hD).frame (r:=(i.tr,cl (trc i.d r) 201)::(Hs++(Hk++HS))) (Pre':=fun _=>True) gA (fun _ _ _=>trivial)) ?_
 rintro v H ⟨H1,rfl,Ha,rfl,h1⟩
 refine⟨Ha++((i.tr,cl (trc i.d r) 201)::(Hd++(Hs++(Hk++HS)))),[],?_,Ha,h1,rfl⟩
 rw [aF]
 exact gA
theorem pJ:Tri prog 20 [] [] (fun _=>True) (fun v H=>v=.bool true∧H=[]):=by
 have hk:aJX.length=16:=rfl
 obtain⟨σ1,σ3,r1,r3,sr,β1,x,B,R,hpf,hpo,hr,hc,hx,hKt,hA,hok,hβ⟩:=aHt aJX hk
 rw [hok] at hpo
 have hbeg:=aCh yK aJX hk (cnt:=0) dQ dQ
 have hAb:aBO.length≤16384:=by decide +kernel
 obtain⟨D2,hal,hD2⟩:∃ D2:Acs,(mG aBO D2).length=aBO.length+14∧∀ l:List Ent,l.map Prod.fst=[2]→aHo (l.map Prod.fst)=D2:=⟨aHo [2],by decide +kernel,fun l h=>by rw [h]⟩
 refine Tri.mk func20 rfl ntmps20 rfl fun w hw=>?_
 have hbk:bS (fun i=>some (i*1,1)) (List.replicate 16 (.int .u8 0)) [(0,.int .u8 1)]=some (cbs aJX):=rfl
 generalize aJX=k1 at *
 generalize hz:List.replicate 256 (0:UInt8)=z at *
 have hz256:z.length=256:=by rw [← hz];exact aP
 (refine W.k ?_;repeat intro b_)
 refine W.cw uU ?_;repeat intro b_
 refine aG hbeg ?_
 rintro _ H1 ⟨pp,rfl,hP⟩
 (refine W.k ?_;repeat intro b_)
 refine aG (hpf pp H1 hP) ?_
 rintro _ H2 ⟨rfl,hP2⟩
 (refine W.k ?_;repeat intro b_)
 refine aG (hpo pp H2 hP2) ?_
 rintro _ H3 ⟨rfl,hP3⟩
 clear hpf hpo hbeg hP hP2
 obtain⟨i,sv,rv,Hd,Hs,Hk,HD,HR,HS,HT,hD,hS,hBk,hDR,hSR,⟨sp,rfl,hSt⟩,⟨rsp,rfl,hRt⟩,rfl⟩:=hP3
 have hSS:StS k1 i sp 3 aBO (fun _=>z) ((i.tr,cl (trc i.d r3) 201)::(Hd++(Hs++(Hk++HS)))):=⟨σ3,r3,x,sr,_,B,R,Hd,Hs,Hk,HS,hD,hS,hBk,hSt,hr,hc,hx,hKt,hA.1,rfl⟩
 clear hKt hA hr hc hx hDR hSR hRt
 generalize aBO=A0 at *
 (refine W.k ?_;repeat intro b_)
 refine aG hSS.acts ?_
 rintro va _ ⟨Ha,hSa,rfl⟩
 obtain⟨aa,al,ac1,rfl,hal0⟩:=hSa.form
 have hfl:(A0.flatMap ac).length=A0.length*3:=nE ac 3 _ (fun x _=>rfl)
 obtain rfl:al=A0.length:=by omega
 (refine W.k ?_;repeat intro b_)
 (refine SW.l [8] [0,1,2,3] ?_;refine aX 4 ?_)
 refine W.ma fun bz=>?_
 rw [kR,aAx,hz]
 have hq:Sl 5 1 (.slice (some ⟨bz,0,none⟩) 256 256) (cbs z) [(bz,cl (cbs z) 5)]:=Sl.own _ _ _ (len:=256) (by rw [aI];exact hz256)
 have hRq:RB [(bz,cl (cbs z) 5)] [.slice (some ⟨bz,0,none⟩) 256 256] ([((2:Int),z)].map Prod.snd):=(RB.nil _).snoc (RdH.of hq)
 (refine SL.l [5] ?_;refine aX 6 ?_)
 refine iQ (fun be=>?_) (hr:=aA7 ..)
 have hen:=xR (.slice (some ⟨be,0,none⟩) 1 1) _ [((2:Int),z)] hRq (by show 1≤1000;decide) (by intro x hx;rw [bO] at hx;subst hx;dsimp only;omega)
 (refine bK [] ?_;refine aX 7 ?_)
 refine aG hen ?_ (hpre:=fun w2 hs=>Rd.own (Hc:=[(bz,cl (cbs z) 5)]) (Sl.own 72 2 be (len:=1) (xs:=[.int .i64 2,.slice (some ⟨bz,0,none⟩) 256 256]) rfl) hs inferInstance)
 rintro ev _ ⟨us',HE,HQ,hL,hR,rfl⟩
 have oL:=hL.isOne
 (refine bK [] ?_;refine bV 8 ?_)
 refine aG (hSS.commit hk dQ hL hR (by show 1≤1000000;decide)) ?_
 rintro _ _ ⟨e,H5,rfl,rfl,he,hC⟩
 have hm:gV 3 4 [((2:Int),z)]=true:=by unfold gV oM oM;rw [hz256];rfl
 obtain rfl:e=0:=he.2 (.inr hm)
 rcases hC with ⟨-,hS5⟩|⟨hno,-⟩
 rotate_left
 ·rw [hm] at hno;cases hno
 rw [hD2 _ rfl] at hS5
 have hrd5:=hS5.read hk (j:=2) dQ
 rw [show yJ (fun _=>z) [((2:Int),z)] 2=z from rfl] at hrd5
 (refine SL.l [9,10] ?_)
 (refine W.k ?_;repeat intro b_)
 refine aG hrd5 ?_
 rintro _ _ ⟨v5,Hr,H6,rfl,h5,hS6,rfl⟩
 obtain⟨a5,l5,c5,rfl,hl5⟩:=h5.form
 rw [aI,hz256] at hl5
 obtain rfl:l5=256:=by omega
 (refine W.k ?_;repeat intro b_)
 refine aG hS6.acts ?_
 rintro va _ ⟨Ha6,hSa6,rfl⟩
 obtain⟨aa6,al6,ac6,rfl,hal6⟩:=hSa6.form
 have hfl6:((mG A0 D2).flatMap ac).length=(mG A0 D2).length*3:=nE ac 3 _ (fun x _=>rfl)
 obtain rfl:al6=A0.length+14:=by omega
 (refine W.k ?_;repeat intro b_)
 exact F.n
end
section
def acQ(l:List Value):Prop:=(∃ n,(l.drop 0).take 1=[.int .i64 n])∧(∃ n,(l.drop (0+1)).take 1=[.int .i64 n])∧(∃ n,(l.drop (0+1+1)).take 1=[.int .i64 n])∧l.length=3
instance acEq:EqS prog 81 acQ where
 under:=by kernel_rfl
 held:=by kernel_rfl
 guard:=by kernel_rfl
 cov:=by
  refine⟨_,1,3,underlying81,by decide,?_⟩
  unfold acQ
  refine Cov.cons (n:=1) (D':=1) (agg:=false) (p:=fun l=>∃ n,l=[.int .i64 n]) ?_ rfl ?_ ?_ ?_
  ·decide
  ·exact yI.int (t:=3) underlying3
  ·decide
  refine Cov.cons (n:=1) (D':=1) (agg:=false) (p:=fun l=>∃ n,l=[.int .i64 n]) ?_ rfl ?_ ?_ ?_
  ·decide
  ·exact yI.int (t:=3) underlying3
  ·decide
  refine Cov.cons (n:=1) (D':=1) (agg:=false) (p:=fun l=>∃ n,l=[.int .i64 n]) ?_ rfl ?_ ?_ ?_
  ·decide
  ·exact yI.int (t:=3) underlying3
  ·decide
  exact Cov.nil 3
attribute [local irreducible] SW SL SQ SH SA SS Pu Fin bZ aQ
end
section
attribute [local irreducible] SW SL SQ SH SA SS Pu Fin bZ aQ
end
end Go.Proofs.YtnhnpjokpelkbaaGreat
