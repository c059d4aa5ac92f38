/- What stands on a device: it is redone by its log. -/
import Derived.Test.YtnigolgkkjidiaaGreatPr36
import Derived.Test.YtnigolgkkjidiaaGreatPr33
import Derived.Test.YtnigolgkkjidiaaGreatPr8
set_option linter.unusedVariables false
set_option linter.unusedSimpArgs false
set_option linter.unusedSectionVars false
set_option maxHeartbeats 4000000
namespace Go.Proofs.YtnigolgkkjidiaaGreat
open Go Go.Proofs.Tryz
section
attribute [local irreducible] SW SL SQ SH SA SS Pu Fin bZ aT
def wC(p t:Nat)(r:Rg)(logs:List (List UInt8)):Option (UInt64×List Ent):=match nQ p t logs with
 | some x=>if (x.1.toNat:Int)=r.c then some x else none
 | none=>none
theorem aAG{p t:Nat}{logs:List (List UInt8)}{x:UInt64×List Ent}(h:nQ p t logs=some x):qL p t x.2=true:=by
 unfold nQ at h
 dsimp only at h
 split at h
 ·rename_i hc
  cases h
  exact hc.2.1
 ·cases h
theorem tT(p:Nat)(l:List Ent):∀ m:List (List UInt8),(qH p m l).length=m.length:=by
 unfold qH
 induction l with
 | nil=>intro m;rfl
 | cons x l ih=>intro m;rw [iO,ih,cP]
theorem xD(es:List UInt64)(ts:List Nat):∀ m:List (List UInt8),(rN es m ts).length=m.length:=by
 unfold rN
 induction ts with
 | nil=>intro m;rfl
 | cons x l ih=>intro m;rw [iO,ih,cP]
theorem aCb(p:Nat)(m:List (List UInt8))(l:List Ent)(x:Ent):qH p m (l++[x])=(qH p m l).set (1+Gm.epochs p+x.1.toNat) x.2:=by unfold qH;rw [kN];rfl
theorem aCa(c:UInt64)(es:List UInt64)(l:List Ent)(x:Ent):nK c es (l++[x])=(nK c es l).set x.1.toNat c:=by unfold nK;rw [kN];rfl
theorem aCc(es:List UInt64)(m:List (List UInt8))(ts:List Nat)(t:Nat):rN es m (ts++[t])=(rN es m ts).set (1+t) (epB t es):=by unfold rN;rw [kN];rfl
theorem aHm{p t:Nat}{l:List Ent}(hm:qL p t l=true):∀ k∈iJ l,k<Gm.epochs p:=by
 have hall:∀ x∈l,x.1.toNat/32<Gm.epochs p:=fun x hx=>by
  obtain⟨i,hi⟩:=eE.1 hx
  unfold qL at hm
  rw [bL] at hm
  obtain⟨h1,h2,-⟩:=rF hm.2 i x hi
  unfold Gm.epochs Gm.up
  omega
 have key:∀ (l:List Ent) (o:List Nat),(∀ x∈l,x.1.toNat/32<Gm.epochs p)→(∀ k∈o,k<Gm.epochs p)→∀ k∈l.foldl yD o,k<Gm.epochs p:=fun l=>by
  induction l with
  | nil=>intro o _ ho;exact ho
  | cons x l ih=>
   intro o hl ho
   rw [iO]
   refine ih _ (fun y hy=>hl y (cW _ hy)) fun k hk=>?_
   unfold yD at hk
   split at hk
   ·exact ho k hk
   ·rcases cK.1 hk with h|h
    ·exact ho k h
    ·rw [dP] at h;rw [h];exact hl x (jY ..)
 exact key l [] hall (by simp)
theorem aKp(es:List UInt64)(k:Nat)(c:UInt64):(uv es).set k (eK c)=uv (es.set k c):=gF.symm
theorem aAh{vs junk:List Value}{i:Nat}(h:i<vs.length)(u:Value):(vs++junk).set i u=vs.set i u++junk:=fN _ _ h
theorem tC(p:Nat)(l:List (List UInt8)):(mP p l).length=Gm.sealed p:=by unfold mP;simp
theorem aGK{us:List Value}{l:List Ent}{junk:List Value}(h:us.length=l.length){k:Nat}{x:Ent}{u:Value}(hu:us[k]?=some u)(hx:l[k]?=some x):(((lG us l++junk).drop (k*2)).take 2)=[.int .i64 x.1,u]:=by
 have hkl:=(aG.1 hx).1
 have hle:=nA us l h
 rw [bW om,aQ (by rw [aK];omega)]
 exact aER hu hx
theorem aNO{dt fp d tr s bk tb p t:Nat}(h:Gm.Ok p t){kind cnt:Int}{bv lv Lv ev tv:Value}{bss logs:List (List UInt8)}{β:Bk}{r:Rg}(hr:r.Ok){Hk Hb Hl:Hp}(hK:fR bk tb β Hk)(hB:Bls bv bss Hb)(hL:Bls lv logs Hl)(o2:One Lv)(o3:One ev)(o4:One tv)(hn:bss.length=Gm.leaves p)(hb:∀ b∈bss,b.length=256)(hln:logs.length=1+t)(hlb:∀ b∈logs,b.length=256) :
  Tri prog 121 [ptv fp] ((fp,cl (cA d tr s bk p t kind bv lv cnt Lv ev tv) 145)::(tr,cl (trc dt r) 225)::(Hk++(Hb++Hl))) (fun _=>True)
  (fun v H=>∃ bv' cnt' Lv' Hk' Hb',One Lv'∧H=(fp,cl (cA d tr s bk p t kind bv' lv cnt' Lv' ev tv) 145)::(tr,cl (trc dt r) 225)::(Hk'++(Hb'++Hl)) ∧
   match wC p t r logs with
   | none=>v=.bool false∧Bls bv' bss Hb'∧fR bk tb β Hk'
   | some x=>v=.bool true∧Bls bv' (rM p x.1 x.2 bss) Hb'∧fR bk tb (aB8 β bss) Hk'):=by
 have hbo:=hB.one
 have hlo:=hL.one
 have hB0:=hB
 have hll:=Gm.leaves_le h
 have hsl:=Gm.sealed_le h
 have hel:=Gm.epochs_le h
 have hLe:Gm.leaves p=1+Gm.epochs p+Gm.sealed p:=rfl
 have ht:=h.2.2.2
 have hrd:=aB9 tr dt r hr
 obtain⟨lvs,Hlv,Hlt,hSl,hRl,rfl⟩:=hL
 have hpa:=fun v=>aKz h v lvs logs hRl hln hlb
 obtain⟨la,ll,lc,rfl,-⟩:=hSl.form
 refine Tri.mk func121 rfl ntmps121 rfl fun w hw=>?_
 have hl3:(cA d tr s bk p t kind bv (.slice la ll lc) cnt Lv ev tv).length=13:=rfl
 have hq0:(rgc r)[0]?=some (.int .u64 r.c):=rfl
 unfold wC
 refine nO ?_
 refine mX ?_
 refine W.i ?_
 refine nO ?_
 refine cN [0] [] (fun x:Nat×List Value×Int×Hp=>[(3,ptv x.1),(4,.int .i64 x.2.2.1)]) (fun x=>(x.1,cl x.2.1 141)::x.2.2.2)
  (fun x=>(nQ p t logs=none∧x.2.2.1=4∧x.2.1=[.int .u64 0,.slice none 0 0])∨(∃ y ev us He Hb,nQ p t logs=some y∧x.2.2.1=0∧x.2.1=[eK y.1,ev]∧Sl 315 2 ev (lG us y.2) He∧RB Hb us (y.2.map Prod.snd)∧x.2.2.2=He++Hb)) ?_ ?_
 ·cases hpl:nQ p t logs with
  | none=>
   rw [hpl] at hpa
   (refine SW.l [] [0,1,2,3,4,5,6,7,8] ?_;skip )
   refine fX 9 13 ?_ ?_ rfl rfl
   case' refine_1=>
    refine aL (hpa _) ?_ (hpre:=fun w2 hs=>Rd.own (Hc:=Hlt) hSl hs inferInstance)
    rintro _ _ ⟨Hn,⟨rfl,rfl⟩,rfl⟩
    refine cU ?_
    refine dL 10 rfl (eV rfl rfl) ?_
    refine dL 11 rfl (wE rfl rfl rfl) ?_
    refine dL 12 rfl (wE rfl rfl rfl) ?_
    refine aX 13 ?_
    refine W.al fun b3=>?_
    refine cU ?_
   case' refine_2=>
    refine W.al fun b3=>?_
    refine cU ?_
    refine aX 9 ?_
    refine aL (hpa _) ?_ (hpre:=fun w2 hs=>Rd.own (Hc:=Hlt) hSl hs inferInstance)
    rintro _ _ ⟨Hn,⟨rfl,rfl⟩,rfl⟩
    refine cU ?_
    refine dL 10 rfl (eV rfl rfl) ?_
    refine dL 11 rfl (wE rfl rfl rfl) ?_
    refine dL 12 rfl (wE rfl rfl rfl) ?_
   all_goals
    refine aX 14 ?_
    refine W.i ?_
    refine dL 15 rfl (pO rfl rfl) ?_
    refine eI ?_
    refine bZ.mk (b3,[.int .u64 0,.slice none 0 0],4,[]) ?_
    exact .inl ⟨rfl,rfl,rfl⟩
  | some y=>
   rw [hpl] at hpa
   (refine SW.l [] [0,1,2,3,4,5,6,7,8] ?_;skip )
   refine fX 9 13 ?_ ?_ rfl rfl
   case' refine_1=>
    refine aL (hpa _) ?_ (hpre:=fun w2 hs=>Rd.own (Hc:=Hlt) hSl hs inferInstance)
    rintro _ _ ⟨Hn,⟨ev2,us,He,Hbe,rfl,hSe,hRe,rfl⟩,rfl⟩
    have hSe1:=hSe.isOne
    refine cU ?_
    refine dL 10 rfl (eV rfl rfl) ?_
    refine dL 11 rfl (wE rfl rfl rfl) ?_
    refine dL 12 rfl (wE rfl rfl rfl) ?_
    refine aX 13 ?_
    refine W.al fun b3=>?_
    refine cU ?_
   case' refine_2=>
    refine W.al fun b3=>?_
    refine cU ?_
    refine aX 9 ?_
    refine aL (hpa _) ?_ (hpre:=fun w2 hs=>Rd.own (Hc:=Hlt) hSl hs inferInstance)
    rintro _ _ ⟨Hn,⟨ev2,us,He,Hbe,rfl,hSe,hRe,rfl⟩,rfl⟩
    have hSe1:=hSe.isOne
    refine cU ?_
    refine dL 10 rfl (eV rfl rfl) ?_
    refine dL 11 rfl (wE rfl rfl rfl) ?_
    refine dL 12 rfl (wE rfl rfl rfl) ?_
   all_goals
    refine aX 14 ?_
    refine W.i ?_
    refine dL 15 rfl (pO rfl rfl) ?_
    refine eI ?_
    refine bZ.mk (b3,[eK y.1,ev2],0,He++Hbe) ?_
    exact .inr ⟨y,ev2,us,He,Hbe,rfl,rfl,rfl,hSe,hRe,rfl⟩
 rintro⟨b3,lc3,e3,Hn⟩ hP
 dsimp only at hP ⊢
 rcases hP with ⟨hpl,rfl,rfl⟩|⟨⟨c,es⟩,ev2,us,He,Hbe,hpl,rfl,rfl,hSe,hRe,rfl⟩
 ·rw [hpl]
  refine W.k ?_
  (refine SW.l [] [0,1,2,3,4,5,6,7,8,9] ?_;(first|refine cI 10 rfl ?_;refine SG.l [11,12,13,14] ?_|refine aX 10 ?_))
  refine W.k ?_
  refine Fin.to ((fp,cl (cA d tr s bk p t kind bv (.slice la ll lc) cnt Lv ev tv) 145)::(tr,cl (trc dt r) 225)::(Hk++(Hb++(Hlv++Hlt)))) ?_
  exact F.f1 ⟨bv,cnt,Lv,Hk,Hb,o2,rfl,rfl,hB0,hK⟩
 have hSe1:=hSe.isOne
 have hmay:=aAG hpl
 rw [hpl]
 dsimp only at hSe hRe hmay ⊢
 by_cases hc:¬ (c.toNat:Int)=r.c
 ·rw [if_neg hc]
  refine W.k ?_
  (refine SW.l [] [0,1,2,3,4,5,6,7,8,9] ?_;(first|refine cI 10 rfl ?_;refine SG.l [11,12,13,14] ?_|refine aX 10 ?_))
  refine W.cq hrd ?_
  (refine SL.l [11,12,13,14] ?_)
  refine W.k ?_
  refine Fin.to ((fp,cl (cA d tr s bk p t kind bv (.slice la ll lc) cnt Lv ev tv) 145)::(tr,cl (trc dt r) 225)::(Hk++(Hb++(Hlv++Hlt)))) ?_
  exact F.f1 ⟨bv,cnt,Lv,Hk,Hb,o2,rfl,rfl,hB0,hK⟩
 have hc2:(c.toNat:Int)=r.c:=Decidable.not_not.1 hc
 rw [if_pos hc2]
 dsimp only
 refine W.k ?_
 (refine SW.l [] [0,1,2,3,4,5,6,7,8,9] ?_;(first|refine cI 10 rfl ?_;refine SG.l [11,12,13,14] ?_|refine aX 10 ?_))
 refine W.cq hrd ?_
 (refine SL.l [11,12,13,14] ?_)
 refine W.k ?_
 rw [show List.take 9 (cA d tr s bk p t kind bv (.slice la ll lc) cnt Lv ev tv)++[eK c,ev2]++List.drop (9+2) (cA d tr s bk p t kind bv (.slice la ll lc) cnt Lv ev tv)=cA d tr s bk p t kind bv (.slice la ll lc) (c.toNat:Int) ev2 ev tv from rfl]
 have hpt:=aAJ (fp:=fp) (d:=d) (tr:=tr) (s:=s) (kind:=kind) (cnt:=(c.toNat:Int)) (lv:=.slice la ll lc) (Lv:=ev2) (ev:=ev) (tv:=tv) h hK hB inferInstance hSe1 o3 o4 hn hb
 rw [aGL bss hb om] at hpt
 refine aL hpt ?_
 rintro _ _ ⟨tp,be,Htr,Hk2,rfl,rfl,-,hK2⟩
 clear hpt hpa hrd
 obtain⟨vs,Hv,Ht0,hS,hR,rfl⟩:=hB
 have hvl:=hR.1
 rcases hS with ⟨-,hz,-⟩|⟨bb,len,cap,junk,rfl,hxl,hj,hlc,rfl⟩
 ·rw [hz] at hvl;simp at hvl;omega
 have hesl:1≤es.length∧es.length≤t:=by unfold qL at hmay;rw [bL,decide_eq_true_iff] at hmay;exact hmay.1
 have hmall:∀ (k:Nat) (x:Ent),es[k]?=some x → -1<x.1∧x.1<(Gm.sealed p:Nat)∧x.2.length=256:=by unfold qL at hmay;rw [bL] at hmay;exact rF hmay.2
 have htlt:=aHm hmay
 have htle:=aBp es
 have hul:us.length=es.length:=by rw [hRe.1,aE]
 have hoc:=hRe.oc
 have hebl:=tC p bss
 have hSe0:=hSe
 have hel2:=nA us es hul
 rcases hSe with ⟨-,hz,-⟩|⟨eb,elen,ecap,ejunk,rfl,hexl,hej,hec,rfl⟩
 ·rw [hz] at hel2;simp at hel2;omega
 obtain rfl:elen=es.length:=by omega
 obtain rfl:len=vs.length:=by omega
 have hredo:rM p c es bss=rN (nK c (mP p bss) es) (qH p bss es) (iJ es):=rfl
 rw [hredo]
 clear hredo hB0 hmay hc hpl
 generalize mP p bss=E0 at *
 refine W.j ?_
 refine cN [0,6] [(bb,cl (vs++junk) 50),(be,cl (uv E0) 28)] (fun _:List Value=>[]) (fun y=>[(bb,cl (y++junk) 50),(be,cl (uv (nK c E0 es)) 28)]) (fun y=>RB (Ht0++Hbe) y (qH p bss es)) ?_ ?_
 ·rw [show uv E0=uv (nK c E0 (es.take 0)) from rfl]
  refine W.k ?_
  refine bN [0,3,6,50,51] (fun y:Nat×List Value=>[(52,.int .i64 (y.1:Int))]) (fun y=>[(bb,cl (y.2++junk) 50),(be,cl (uv (nK c E0 (es.take y.1))) 28)]) (fun y=>es.length-y.1) (fun y=>y.1≤es.length∧RB (Ht0++Hbe) y.2 (qH p bss (es.take y.1))) (0,vs) ⟨Nat.zero_le _,hR.mono fun x hx=>bA _ hx⟩ ?_
  rintro⟨k,vs2⟩ ⟨hk,hR2⟩
  dsimp only at hk hR2 ⊢
  have hvl2:=hR2.1
  rw [tT,hn] at hvl2
  have hoc2:=hR2.oc
  by_cases hkn:k<es.length
  ·have hx:=aA hkn
   have htk:es.take (k+1)=es.take k++[es[k]]:=by rw [aO,hx];rfl
   obtain⟨u,huk,hru⟩:=hRe.2 k es[k].2 (by rw [aH,hx];rfl)
   have hrow:=aGK (junk:=ejunk) hul huk hx
   obtain⟨hx1,hx2,hx3⟩:=hmall k _ hx
   have hSs:=aCb p bss (es.take k) es[k]
   have hEs:=aCa c E0 (es.take k) es[k]
   rw [← htk] at hSs hEs
   have hEl:=xC c (es.take k) E0
   have huo:=hru.one
   generalize es[k]=x at *
   obtain⟨K,hKK⟩:∃ K:Nat,x.1=(K:Int):=⟨x.1.toNat,by omega⟩
   rw [show x.1.toNat=K by omega] at hSs hEs
   rw [hKK] at hrow
   have hsa:=vX h (K:Int)
   rw [show Gm.atK (Gm.sealed p) (1+Gm.epochs p) (K:Int)=((1+Gm.epochs p+K:Nat):Int) by unfold Gm.atK;rw [if_pos om];omega] at hsa
   have hset:=aAh (vs:=vs2) (junk:=junk) (i:=1+Gm.epochs p+K) om u
   have hset2:=aKp (nK c E0 (es.take k)) K c
   rw [← hEs] at hset2
   have hlt1:1+Gm.epochs p+K<(vs2++junk).length:=by rw [aC];omega
   have hlt2:K<(uv (nK c E0 (es.take k))).length:=by rw [jI,hEl];omega
   refine W.k fun b_=>?_
   (refine SW.l [] [0,1,2,3,4,5,6,7,8,9,10,12,13] ?_;refine aX 11 ?_)
   refine W.cq hsa ?_
   (refine SL.l [14] ?_;refine aX 15 ?_;refine W.i ?_;refine eI ?_)
   rw [hset]
   refine W.k ?_
   rw [hset2]
   refine aT.mk (k+1,vs2.set (1+Gm.epochs p+K) u) ?_
   refine⟨hkn,?_⟩
   dsimp only
   rw [hSs]
   exact hR2.set (hru.mono fun x hx=>aV _ hx) _
  ·have hkl:k=es.length:=om
   rw [hkl,bT] at hR2 ⊢
   subst hkl
   refine W.k ?_
   refine bZ.mk vs2 ?_
   exact hR2
 rintro vs2 hR2
 have hEl:=xC c es E0
 have hmt:=aHR (fp:=fp) (d:=d) (tr:=tr) (s:=s) (bk:=bk) (p:=p) (t:=t) (kind:=kind) (cnt:=(c.toNat:Int)) (bv:=.slice (some ⟨bb,0,none⟩) vs.length cap) (lv:=.slice la ll lc) (ev:=ev) (tv:=tv) us es hul hoc (fun x hx=>by
  obtain⟨i,hi⟩:=eE.1 hx
  have:=hmall i x hi
  omega) om hSe0 inferInstance inferInstance o3 o4
 have hvl2:=hR2.1
 rw [tT,hn] at hvl2
 generalize nK c E0 es=E1 at *
 generalize qH p bss es=M1 at *
 refine W.k ?_
 refine aL hmt ?_
 rintro v79 _ ⟨Hn,hSt,rfl⟩
 have hSt1:=hSt.isOne
 obtain⟨ta,tl,tc2,rfl,htl⟩:=hSt.form
 rw [Nat.mul_one,aE] at htl
 subst htl
 refine W.j ?_
 refine cN [] [(bb,cl (vs2++junk) 50)] (fun _:List Value×Hp=>[]) (fun y=>(bb,cl (y.1++junk) 50)::y.2) (fun y=>RB ((Ht0++Hbe)++y.2) y.1 (rN E1 M1 (iJ es))) ?_ ?_
 ·refine W.k ?_
  refine bN [0,6,79,80] (fun y:Nat×List Value×Hp=>[(81,.int .i64 (y.1:Int))]) (fun y=>(bb,cl (y.2.1++junk) 50)::y.2.2) (fun y=>(iJ es).length-y.1) (fun y=>y.1≤(iJ es).length∧RB ((Ht0++Hbe)++y.2.2) y.2.1 (rN E1 M1 ((iJ es).take y.1))) (0,vs2,[]) ⟨Nat.zero_le _,by rw [aJ];exact hR2⟩ ?_
  rintro⟨k,vs3,Hn3⟩ ⟨hk,hR3⟩
  dsimp only at hk hR3 ⊢
  have hvl3:=hR3.1
  rw [xD] at hvl3
  have hM1:=hR2.1
  have hoc3:=hR3.oc
  by_cases hkn:k<(iJ es).length
  ·rcases hSt with ⟨hz,hz2,-⟩|⟨qb,qlen,qcap,qjunk,hz,hqxl,hqj,hqc,rfl⟩
   ·simp only [Value.slice.injEq] at hz;omega
   simp only [Value.slice.injEq] at hz
   obtain⟨rfl,rfl,rfl⟩:=hz
   have hx:=aA hkn
   have hlu:(nv (iJ es)++qjunk)[k]?=some (.int .i64 (((iJ es)[k]:Nat):Int)):=by
    rw [aN (by rw [aE];exact hkn),aH,hx];rfl
   have htk:(iJ es).take (k+1)=(iJ es).take k++[(iJ es)[k]]:=by rw [aO,hx];rfl
   have hlt:=htlt _ (dR hkn)
   have hTs:=aCc E1 M1 ((iJ es).take k) (iJ es)[k]
   rw [← htk] at hTs
   generalize (iJ es)[k]=q at *
   have hsb:=aFw h q hlt (.slice (some ⟨be,0,none⟩) (Gm.sealed p) (Gm.sealed p)) E1 om
   have hea:=aBO h (q:Int)
   rw [show Gm.atK (Gm.epochs p) 1 (q:Int)=((1+q:Nat):Int) by unfold Gm.atK;rw [if_pos om];omega] at hea
   have hlt1:1+q<(vs3++junk).length:=by rw [aC];omega
   refine W.k ?_
   refine aL hsb ?_ (hpre:=fun w2 hs=>Rd.own (Hc:=[]) (Sl.own 28 1 be (len:=Gm.sealed p) (xs:=uv E1) (by rw [jI];omega)) hs inferInstance)
   rintro _ _ ⟨b5,rfl,rfl⟩
   have hset:=aAh (vs:=vs3) (junk:=junk) (i:=1+q) om (.slice (some ⟨b5,0,none⟩) 256 256)
   refine W.k ?_
   (refine SW.l [] [0,1,2,3,4,5,6,7,8,9,11] ?_;refine aX 10 ?_)
   refine W.cq hea ?_
   (refine SL.l [12] ?_;refine aX 13 ?_;refine W.i ?_;refine eI ?_)
   rw [hset]
   refine W.k ?_
   refine aT.mk (k+1,vs3.set (1+q) (.slice (some ⟨b5,0,none⟩) 256 256),(b5,cl (cbs (epB q E1)) 5)::Hn3) ?_
   refine⟨hkn,?_⟩
   dsimp only
   rw [hTs]
   refine (hR3.mono fun x hx=>?_).set ((RdH.of (Sl.own 5 1 b5 (len:=256) (xs:=cbs (epB q E1)) (by rw [aI,aBb]))).mono fun x hx=>?_) _
   ·rcases cK.1 hx with h|h
    ·exact bA _ h
    ·exact aV _ (cW _ h)
   ·rw [dP] at hx
    subst hx
    exact aV _ (jY ..)
  ·have hkl:k=(iJ es).length:=om
   rw [hkl,bT] at hR3
   subst hkl
   refine W.k ?_
   refine bZ.mk (vs3,Hn3) ?_
   exact hR3
 rintro⟨vs3,Hn3⟩ hR3
 dsimp only at hR3 ⊢
 have hvl3:=hR3.1
 rw [xD,hR2.1.symm.trans hvl2] at hvl3
 refine W.k ?_
 refine Fin.to ((fp,cl (cA d tr s bk p t kind (.slice (some ⟨bb,0,none⟩) vs.length cap) (.slice la ll lc) (c.toNat:Int) (.slice (some ⟨eb,0,none⟩) es.length ecap) ev tv) 145)::(tr,cl (trc dt r) 225)::(Hk2++(([(bb,cl (vs3++junk) 50)]++((Ht0++Hbe)++Hn3))++(Hlv++Hlt)))) ?_
 refine F.f1 ⟨_,_,_,Hk2,_,inferInstance,rfl,rfl,⟨vs3,_,_,?_,hR3,rfl⟩,hK2⟩
 exact .inr ⟨bb,vs.length,cap,junk,rfl,by omega,hj,hlc,rfl⟩
def zN(l:List Ent)(k:Nat):Int:=if k=0 then -1 else (l.getD (k-1) (0,[])).1
theorem aLF{p t:Nat}(h:Gm.Ok p t)(c:UInt64)(v:Value)(us:List Value)(l:List Ent)(hL:LE us l)(hn:l.length≤1000000) :
  Tri prog 282 [iX p t,.agg #[eK c,v]] [] (fun w=>Rd [] w 2 v (lG us l)) (fun r H=>r=.bool (qL p t l)∧H=[]):=by
 refine Tri.mk func282 rfl ntmps282 rfl fun w hw=>?_
 have hmy:=oM h
 have hse:=rO h
 unfold lG at hw
 obtain⟨a,ca,rfl,hcap,hg⟩:=hw.rows dc (rR us l)
 have hzl:(List.zipWith (fun u (x:Ent)=>[Value.int .i64 x.1,u]) us l).length=l.length:=by rw [jM,hL.1,lO]
 rw [hzl] at hcap ⊢
 have hY:One (Value.slice a l.length ca):=⟨rfl⟩
 unfold qL
 by_cases h1:l.length<1
 ·rw [decide_eq_false om,eH]
  refine W.k fun _ b_=>?_
  refine W.cw hmy ?_
  exact F.n
 by_cases h2:t<l.length
 ·rw [decide_eq_false om,eH]
  refine W.k fun _ b_=>?_
  refine W.cw hmy ?_
  exact F.n
 rw [decide_eq_true om,dZ]
 refine W.k fun _ b_=>?_
 refine W.cq hmy ?_
 refine W.j ?_
 refine cN [] [] (fun _:Unit=>[]) (fun _=>[]) (fun _=>yM p (-1) l=true) ?_ ?_
 ·refine W.k ?_
  refine bN [2,3,25,26] (fun k:Nat=>[(27,.int .i64 (k:Int))]) (fun _=>[]) (fun k=>l.length-k) (fun k=>(k≤l.length ∧ -1≤zN l k)∧yM p (-1) l=yM p (zN l k) (l.drop k)) 0 ⟨⟨Nat.zero_le _,Int.le_refl _⟩,rfl⟩ ?_
  rintro k ⟨⟨hk,hla⟩,hm⟩
  by_cases hkn:k<l.length
  ·have hx:=aA hkn
   have hlk:zN l (k+1)=l[k].1:=by unfold zN;rw [if_neg om,Nat.add_sub_cancel,aF,hx];rfl
   rw [bM hkn,wW] at hm
   obtain⟨a2,cap2,hz⟩:=hL.at hx
   obtain⟨pb,po,lv,T,fz,rfl,hb,hkK,hv⟩:=hg k _ hz
   have hprev:k≠0→lv[po+(k-1)*2]?=some (.int .i64 (zN l k)):=fun hk0=>by
    have hx2:=aA (show k-1<l.length by omega)
    obtain⟨a3,cap3,hz3⟩:=hL.at hx2
    obtain⟨pb2,po2,lv2,T2,fz2,he,hb2,-,hv2⟩:=hg (k-1) _ hz3
    cases he
    rw [hb] at hb2
    cases hb2
    have h0:((lv.drop (po+(k-1)*2)).take 2)[0]?=some (.int .i64 l[k-1].1):=by rw [hv2];rfl
    rw [bI,if_pos dc,bD,jP] at h0
    rw [h0]
    unfold zN
    rw [if_neg hk0,aF,hx2]
    rfl
   have hl0:k=0→zN l k = -1:=fun h=>by unfold zN;rw [if_pos h]
   generalize zN l k=last at *
   generalize l[k]=x at *
   by_cases c0:x.1<0
   ·rw [decide_eq_false om,eH] at hm
    rw [hm]
    refine W.k fun b_=>?_
    (refine SW.l [] [0,1,2,3,4,5,6] ?_;(first|refine cI 7 rfl ?_;refine SG.l [8,9,10,11,12,13,14,15,16,17,18,19,20,21,22,23,24,25,26,27,28,29,30,31,32] ?_|refine aX 7 ?_))
    refine W.k ?_
    exact F.n
   by_cases c1:(Gm.sealed p:Nat)≤x.1
   ·rw [decide_eq_false om,eH] at hm
    rw [hm]
    refine W.k fun b_=>?_
    (refine SW.l [] [0,1,2,3,4,5,6] ?_;(first|refine cI 7 rfl ?_;refine SG.l [8,9,10,11,12,13,14,15,16,17,18,19,20,21,22,23,24,25,26,27,28,29,30,31,32] ?_|refine aX 7 ?_))
    refine W.cq hse ?_
    (refine SL.l [8,9,10,11,12,13,14,15,16,17,18,19,20,21,22,23,24,25,26,27,28,29,30,31,32] ?_)
    refine W.k ?_
    exact F.n
   by_cases c2:¬ x.2.length=256
   ·rw [decide_eq_false om,eH] at hm
    rw [hm]
    refine W.k fun b_=>?_
    (refine SW.l [] [0,1,2,3,4,5,6] ?_;(first|refine cI 7 rfl ?_;refine SG.l [8,9,10,11,12,13,14,15,16,17,18,19,20,21,22,23,24,25,26,27,28,29,30,31,32] ?_|refine aX 7 ?_))
    refine W.cq hse ?_
    (refine SL.l [8,9,10,11,12,13,14,15,16,17,18,19,20,21,22,23,24,25,26,27,28,29,30,31,32] ?_)
    refine W.k ?_
    exact F.n
   have c3:x.2.length=256:=Decidable.not_not.1 c2
   by_cases hk0:k=0
   ·have hlm:=hl0 hk0
    rw [decide_eq_true om,dZ] at hm
    refine W.k fun b_=>?_
    (refine SW.l [] [0,1,2,3,4,5,6] ?_;(first|refine cI 7 rfl ?_;refine SG.l [8,9,10,11,12,13,14,15,16,17,18,19,20,21,22,23,24,25,26,27,28,29,30,31,32] ?_|refine aX 7 ?_))
    refine W.cq hse ?_
    (refine SL.l [8,9,10,11,12,13,14,15,16,17,18,19,20,21,22,23,24,25,26,27,28,29,30,31,32] ?_)
    refine W.k ?_
    refine aT.mk (k+1) ?_
    rw [hlk]
    exact⟨⟨hkn,by omega⟩,hm⟩
   ·have hpv:=hprev hk0
    by_cases c4:x.1≤last
    ·rw [decide_eq_false om,eH] at hm
     rw [hm]
     haveI:eG ((k:Int)-1) (k-1):=⟨by omega⟩
     refine W.k fun b_=>?_
     (refine SW.l [] [0,1,2,3,4,5,6] ?_;(first|refine cI 7 rfl ?_;refine SG.l [8,9,10,11,12,13,14,15,16,17,18,19,20,21,22,23,24,25,26,27,28,29,30,31,32] ?_|refine aX 7 ?_))
     refine W.cq hse ?_
     (refine SL.l [8,9,10,11,12,13,14,15,16,17,18,19,20,21,22,23,24,25,26,27,28,29,30,31,32] ?_)
     refine W.k ?_
     exact F.n
    ·rw [decide_eq_true om,dZ] at hm
     haveI:eG ((k:Int)-1) (k-1):=⟨by omega⟩
     refine W.k fun b_=>?_
     (refine SW.l [] [0,1,2,3,4,5,6] ?_;(first|refine cI 7 rfl ?_;refine SG.l [8,9,10,11,12,13,14,15,16,17,18,19,20,21,22,23,24,25,26,27,28,29,30,31,32] ?_|refine aX 7 ?_))
     refine W.cq hse ?_
     (refine SL.l [8,9,10,11,12,13,14,15,16,17,18,19,20,21,22,23,24,25,26,27,28,29,30,31,32] ?_)
     refine W.k ?_
     refine aT.mk (k+1) ?_
     rw [hlk]
     exact⟨⟨hkn,by omega⟩,hm⟩
  ·have hkl:k=l.length:=om
   rw [hkl,mV] at hm
   subst hkl
   refine W.k ?_
   refine bZ.mk () ?_
   exact hm
 rintro _ hm
 rw [hm]
 refine W.k ?_
 exact F.n
theorem aLE(c:UInt64)(v:Value)(us:List Value)(l:List Ent){Ht:Hp}(hR:RB Ht us (l.map Prod.snd))(hn:l.length≤100) :
  Tri prog 283 [.agg #[eK c,v]] [] (fun w=>Rd [] w 2 v (lG us l))
   (fun r H=>∃ u0 Hv Hn,Sl 50 1 r (u0::us) Hv∧RdH Hn u0 (tH c l)∧H=Hv++Hn):=by
 refine Tri.mk func283 rfl ntmps283 rfl fun w hw=>?_
 have hL:=hR.le
 have hoc:=hR.oc
 unfold lG at hw
 obtain⟨a,ca,rfl,hcap,hg⟩:=hw.rows dc (rR us l)
 have hzl:(List.zipWith (fun u (x:Ent)=>[Value.int .i64 x.1,u]) us l).length=l.length:=by rw [jM,hL.1,lO]
 rw [hzl] at hcap ⊢
 have hY:One (Value.slice a l.length ca):=⟨rfl⟩
 have hp1:=pA 8 c om
 have hp2:=pA 2 (UInt64.ofNat l.length) om
 have hp3:=fun (x:Ent)=>pA 2 (UInt64.ofInt x.1) om
 have hfn:(nV c l.length).length=18:=by simp [nV,cJ,pQ]
 have hpd:=fun v=>aD8 v (nV c l.length++mG l) 256 dc
 rw [show pad 256 (nV c l.length++mG l)=tH c l from rfl] at hpd
 have hb9:bQ (fun i=>some (i*1,1)) (zs [.int .u8 0] 8) [(0,.int .u8 82),(1,.int .u8 69),(2,.int .u8 68),(3,.int .u8 79),(4,.int .u8 45),(5,.int .u8 76),(6,.int .u8 79),(7,.int .u8 71)]=some (cbs pQ):=bsR
 refine W.k fun _ b_=>?_
 generalize b_=b1 at *
 refine aL hp1 ?_
 intro v2 H2 h2
 have h21:=h2.isOne
 obtain⟨a2,l2,c2,rfl,hl2⟩:=h2.form
 obtain rfl:l2=8:=(by rw [aI,cJ] at hl2;omega)
 refine W.k ?_
 refine aGy (xs:=cbs pQ) (ys:=cbs (leN 8 c)) (mm:=8) (fun w2 hs=>(Rd.atB (K:=[]) (Hc:=[]) (b:=b1) (len:=8) (cap:=8) (T:=5) (fz:=((cbs pQ).length,(cbs pQ).length+1)) pQ hs rfl (Nat.le_refl _)).srcW) (fun w2 hs=>h2.srcAt hs inferInstance) (fun v3 H3 h3=>?_) (hxs:=rfl) (hys:=by rw [aI,cJ]) (hbytes:=by rw [aI,aI,cJ];simp [pQ])
 have h31:=h3.isOne
 rw [← gT] at h3
 refine W.k ?_
 refine dV hp2 rfl ?_
 intro v4 H4 h4
 have h41:=h4.isOne
 obtain⟨a4,l4,c4,rfl,hl4⟩:=h4.form
 obtain rfl:l4=2:=(by rw [aI,cJ] at hl4;omega)
 refine W.k ?_
 refine W.ap h3 (ys:=cbs (leN 2 (UInt64.ofNat l.length))) (mm:=2) (fun w2 hs=>h4.srcAt hs inferInstance) (fun v5 H5 h5=>?_) (hys:=by rw [aI,cJ]) (hbytes:=by rw [aI,aI,aC,cJ,cJ];simp [pQ])
 have h51:=h5.isOne
 rw [show cbs (pQ++leN 8 c)++cbs (leN 2 (UInt64.ofNat l.length))=cbs (nV c l.length) by unfold nV;simp] at h5
 refine W.j ?_
 refine cN [1] H5 (fun x:Value×Hp=>[(3,x.1)]) (fun x=>x.2) (fun x=>Sl 5 1 x.1 (cbs (nV c l.length++mG l)) x.2) ?_ ?_
 ·refine W.k ?_
  refine bN [1,24,25] (fun x:Nat×Value×Hp=>[(3,x.2.1),(26,.int .i64 (x.1:Int))]) (fun x=>x.2.2) (fun x=>l.length-x.1) (fun x=>x.1≤l.length∧Sl 5 1 x.2.1 (cbs (nV c l.length++mG (l.take x.1))) x.2.2) (0,v5,H5) ⟨Nat.zero_le _,by rw [cQ,show mG []=[] from rfl,aJ];exact h5⟩ ?_
  rintro⟨k,v6,H6⟩ ⟨hk,h6⟩
  dsimp only at hk h6 ⊢
  have h61:=h6.isOne
  by_cases hkn:k<l.length
  ·have hx:=aA hkn
   obtain⟨a2,cap2,hz⟩:=hL.at hx
   obtain⟨pb,po,lv,T,fz,rfl,hb,hkK,hv⟩:=hg k _ hz
   have hts:mG (l.take (k+1))=mG (l.take k)++leN 2 (UInt64.ofInt l[k].1):=by unfold mG;rw [aO,hx,dJ];simp
   have htl:(mG (l.take k)).length=2*k:=by rw [aAD,aD];omega
   generalize l[k]=x at *
   haveI:=cvK x.1
   refine W.k fun b_=>?_
   refine aL (hp3 x) ?_
   intro v7 H7 h7
   have h71:=h7.isOne
   obtain⟨a7,l7,c7,rfl,hl7⟩:=h7.form
   obtain rfl:l7=2:=(by rw [aI,cJ] at hl7;omega)
   refine W.k ?_
   refine W.ap h6 (ys:=cbs (leN 2 (UInt64.ofInt x.1))) (mm:=2) (fun w2 hs=>h7.srcAt hs inferInstance) (fun v8 H8 h8=>?_) (hys:=by rw [aI,cJ]) (hbytes:=by rw [aI,aI,aC,hfn,htl,cJ];omega)
   have h81:=h8.isOne
   rw [show cbs (nV c l.length++mG (l.take k))++cbs (leN 2 (UInt64.ofInt x.1))=cbs (nV c l.length++mG (l.take (k+1))) by rw [hts];simp] at h8
   refine W.k ?_
   refine aT.mk (k+1,v8,H8) ?_
   exact⟨hkn,h8⟩
  ·have hkl:k=l.length:=om
   rw [hkl,bT] at h6
   subst hkl
   refine W.k ?_
   refine bZ.mk (v6,H6) ?_
   exact h6
 rintro⟨v6,H6⟩ h6
 dsimp only at h6 ⊢
 have h61:=h6.isOne
 refine W.k ?_
 refine aL (hpd v6) ?_ (hpre:=fun w2 hs=>Rd.own (Hc:=[]) h6 hs inferInstance)
 intro v8 H8 h8
 have h81:=h8.isOne
 have h8R:=RdH.of h8
 obtain⟨a8,l8,c8,rfl,-⟩:=h8.form
 have hb39:bQ (fun i=>some (i*1,1)) (zs [.slice none 0 0] 1) [(0,.slice a8 l8 c8)]=some [.slice a8 l8 c8]:=rfl
 refine W.j fun b_=>?_
 generalize b_=b2 at *
 have hE0:Sl 50 1 (.slice (some ⟨b2,0,none⟩) 1 1) ([.slice a8 l8 c8]++us.take 0) [(b2,cl [.slice a8 l8 c8] 50)]:=Sl.own _ 1 b2 (len:=1) rfl
 refine cN [] [(b2,cl [.slice a8 l8 c8] 50)] (fun x:Value×Hp=>[(6,x.1)]) (fun x=>x.2) (fun x=>Sl 50 1 x.1 (.slice a8 l8 c8::us) x.2) ?_ ?_
 ·refine W.k ?_
  refine bN [41,42] (fun x:Nat×Value×Hp=>[(6,x.2.1),(43,.int .i64 (x.1:Int))]) (fun x=>x.2.2) (fun x=>l.length-x.1) (fun x=>x.1≤l.length∧Sl 50 1 x.2.1 ([.slice a8 l8 c8]++us.take x.1) x.2.2) (0,.slice (some ⟨b2,0,none⟩) 1 1,[(b2,cl [.slice a8 l8 c8] 50)]) ⟨Nat.zero_le _,hE0⟩ ?_
  rintro⟨k,v9,H9⟩ ⟨hk,h9⟩
  dsimp only at hk h9 ⊢
  have h91:=h9.isOne
  by_cases hkn:k<l.length
  ·have hx:=aA hkn
   obtain⟨a2,cap2,hu⟩:=hL.2 k _ hx
   have hz:(List.zipWith (fun u (x:Ent)=>[Value.int .i64 x.1,u]) us l)[k]?=some [.int .i64 l[k].1,.slice a2 l[k].2.length cap2]:=by rw [gN,hu,hx]
   obtain⟨pb,po,lv,T,fz,rfl,hb,hkK,hv⟩:=hg k _ hz
   have hut:us.take (k+1)=us.take k++[.slice a2 l[k].2.length cap2]:=by rw [aO,hu];rfl
   have hul:(us.take k).length=k:=by rw [aD,hL.1];omega
   generalize l[k]=x at *
   have hb50:bQ (fun i=>some (i*1,1)) (zs [.slice none 0 0] 1) [(0,.slice a2 x.2.length cap2)]=some [.slice a2 x.2.length cap2]:=rfl
   refine W.k fun _ b_=>?_
   refine W.ap h9 (ys:=[.slice a2 x.2.length cap2]) (mm:=1) (fun w2 hs=>(Sl.own 50 1 b_ (xs:=[.slice a2 x.2.length cap2]) rfl).srcAt hs inferInstance) (fun v10 H10 h10=>?_) (hys:=rfl) (hbytes:=by rw [aC,hul];simp;omega)
   have h101:=h10.isOne
   rw [bE,← hut] at h10
   refine W.k ?_
   refine aT.mk (k+1,v10,H10) ?_
   exact⟨hkn,h10⟩
  ·have hkl:k=l.length:=om
   rw [hkl,← hL.1,bT] at h9
   subst hkl
   refine W.k ?_
   refine bZ.mk (v9,H9) ?_
   exact h9
 rintro⟨v9,H9⟩ h9
 dsimp only at h9 ⊢
 have h91:=h9.isOne
 refine W.k ?_
 refine Fin.to (H9++H8) ?_
 exact F.f1 ⟨_,H9,H8,h9,h8R,rfl⟩
def aIr(Ht:Hp)(o:Option (UInt64×List Ent))(r:Value)(H:Hp):Prop:=match o with
 | none=>r=.tuple #[.agg #[.int .u64 0,.slice none 0 0],.bool false]∧H=[]
 | some x=>∃ ev us,r=.tuple #[.agg #[eK x.1,ev],.bool true]∧Sl 389 2 ev (lG us x.2) H∧RB Ht us (x.2.map Prod.snd)
theorem aH7{p t:Nat}(h:Gm.Ok p t)(v:Value)(vs:List Value)(logs:List (List UInt8)){Ht:Hp}(hR:RB Ht vs logs)(hn:logs.length=1+t)(hb:∀ b∈logs,b.length=256) :
  Tri prog 257 [iX p t,v] Ht (fun w=>Rd (Ht.map Prod.fst) w 1 v vs) (fun r H=>∃ Hn,aIr Ht (nQ p t logs) r Hn∧H=Hn++Ht):=by
 refine Tri.mk func257 rfl ntmps257 rfl fun w hw=>?_
 have ht:=h.2.2.2
 have hw0:=hw
 obtain⟨a,la,ca,rfl,hl1,hc1,hr1⟩:=hw.get
 rw [Nat.mul_one,hR.1] at hl1
 subst hl1
 have hY:One (Value.slice a logs.length ca):=⟨rfl⟩
 obtain⟨bb,o,l,T,fz,rfl,hbh,hkK,hy⟩:=hr1 om
 have hat:∀ k,k<logs.length→∃ u,l[o+k]?=some u∧RdH Ht u (logs.getD k []):=fun k hk=>by
  obtain⟨u,hu1,hu2⟩:=hR.2 k _ (aA hk)
  refine⟨u,?_,by rw [aF,aA hk];exact hu2⟩
  have h2:((l.drop o).take (logs.length*1))[k]?=vs[k]?:=by rw [hy]
  rw [bI,if_pos om,bD,hu1] at h2
  exact h2
 have h256:∀ k,k<logs.length→(logs.getD k []).length=256:=fun k hk=>by
  rw [aF,aA hk];exact hb _ (dR hk)
 obtain⟨u0,hu0,hr0⟩:=hat 0 om
 have hx256:=h256 0 om
 have hpar:nQ p t logs=if eP (((logs.getD 0 []).drop 16).take 2)≤t∧qL p t (jF (logs.getD 0 []) logs (eP (((logs.getD 0 []).drop 16).take 2)))=true∧tH (yL (((logs.getD 0 []).drop 8).take 8)) (jF (logs.getD 0 []) logs (eP (((logs.getD 0 []).drop 16).take 2)))=logs.getD 0 [] then some (yL (((logs.getD 0 []).drop 8).take 8),jF (logs.getD 0 []) logs (eP (((logs.getD 0 []).drop 16).take 2))) else none:=rfl
 rw [hpar]
 clear hpar
 generalize hX:logs.getD 0 []=x at *
 have h0o:=hr0.one
 have hr00:=hr0
 obtain⟨ua,ul,uc,rfl,-⟩:=hr00
 obtain⟨hul,huc⟩:=hr0.len
 have hcut1:=hr0.cut uc 8 16 (uc-8) om om om om
 have hcut2:=hr0.cut uc 16 18 (uc-16) om om om om
 rw [show 16-8=8 from rfl] at hcut1
 rw [show 18-16=2 from rfl] at hcut2
 have hco1:=hcut1.one
 have hco2:=hcut2.one
 have hg1:=uO (.slice (lJ ua uc 8 1) 8 (uc-8)) ((x.drop 8).take 8) (by rw [aD];omega)
 have hg2:=uO (.slice (lJ ua uc 16 1) 2 (uc-16)) ((x.drop 16).take 2) (by rw [aD];omega)
 refine W.k fun _ b_=>?_
 refine W.sG (l:=8) (h:=16) ?_ (i0:=⟨rfl⟩) (i1:=⟨rfl⟩)
 rw [show 16-8=8 from rfl]
 refine W.k ?_
 refine W.cq hg1 ?_ (hpre:=fun w2 hs=>hcut1.rd (Hc:=[]) hs)
 have hu:Value.int .u64 ((eP ((x.drop 8).take 8):Nat):Int)=eK (yL ((x.drop 8).take 8)):=by unfold eK;rw [zM]
 rw [hu]
 clear hu
 generalize yL ((x.drop 8).take 8)=c at *
 have hb39:bQ (fun i=>[(0,1),(1,1)][i]?) [.int .u64 0,.slice none 0 0] [(0,eK c)]=some [eK c,.slice none 0 0]:=rfl
 refine W.k fun b_=>?_
 generalize b_=b9 at *
 refine W.sG (l:=16) (h:=18) ?_ (i0:=⟨rfl⟩) (i1:=⟨rfl⟩)
 rw [show 18-16=2 from rfl]
 refine W.k ?_
 refine W.cq hg2 ?_ (hpre:=fun w2 hs=>hcut2.rd (Hc:=[]) hs)
 have hnl:eP ((x.drop 16).take 2)<65536:=aBP (by rw [aD];omega)
 generalize eP ((x.drop 16).take 2)=n at *
 haveI:Cv .i64 (n:Int) (n:Int):=⟨w64 om⟩
 have hnone:aIr Ht none (.tuple #[.agg #[.int .u64 0,.slice none 0 0],.bool false]) []:=⟨rfl,rfl⟩
 by_cases hn1:n<1
 ·have:n=0:=om;subst this
  rw [if_neg (fun hc=>by have:=hc.2.1;unfold qL at this;rw [tA] at this;simp at this)]
  refine W.k ?_
  refine qY Ht [.int .u64 0,.slice none 0 0] ?_
  exact⟨[],hnone,rfl⟩
 by_cases hnt:t<n
 ·rw [if_neg (fun hc=>by omega)]
  refine W.k ?_
  refine qY Ht [.int .u64 0,.slice none 0 0] ?_
  exact⟨[],hnone,rfl⟩
 refine W.j ?_
 refine cN [1,2,4,6] [(b9,cl [eK c,.slice none 0 0] 337)] (fun _:Value×List Value×Hp=>[]) (fun y=>(b9,cl [eK c,y.1] 337)::y.2.2)
  (fun y=>Sl 389 2 y.1 (lG y.2.1 (jF x logs n)) y.2.2∧RB Ht y.2.1 ((jF x logs n).map Prod.snd)) ?_ ?_
 ·refine W.k ?_
  refine bN [1,2,4,6,7] (fun y:Nat×Value×List Value×Hp=>[(8,.int .i64 (y.1:Int))]) (fun y=>(b9,cl [eK c,y.2.1] 337)::y.2.2.2) (fun y=>n-y.1)
   (fun y=>y.1≤n∧Sl 389 2 y.2.1 (lG y.2.2.1 (jF x logs y.1)) y.2.2.2∧RB Ht y.2.2.1 ((jF x logs y.1).map Prod.snd)) (0,.slice none 0 0,[],[]) ⟨Nat.zero_le _,Sl.nil _ _,RB.nil _⟩ ?_
  rintro⟨k,ev,us,He⟩ ⟨hk,hSe,hRb⟩
  dsimp only at hk hSe hRb ⊢
  have hSe1:=hSe.isOne
  have husl:us.length=(jF x logs k).length:=by rw [hRb.1,aE]
  by_cases hkn:k<n
  ·obtain⟨u,hu,hru⟩:=hat (1+k) om
   have hru0:=hru
   have huo:=hru.one
   obtain⟨va,vl,vc,rfl,-⟩:=hru0
   have hcut3:=hr0.cut uc (18+2*k) (20+2*k) (uc-(18+2*k)) om om om om
   rw [show 20+2*k-(18+2*k)=2 by omega] at hcut3
   have hco3:=hcut3.one
   have hg3:=uO (.slice (lJ ua uc (18+2*k) 1) 2 (uc-(18+2*k))) ((x.drop (18+2*k)).take 2) (by rw [aD];omega)
   have hK:eP ((x.drop (18+2*k)).take 2)<65536:=aBP (by rw [aD];omega)
   have hes:=aBI x logs k
   have hel:=tA x logs k
   generalize (x.drop (18+2*k)).take 2=xk at *
   generalize eP xk=K at *
   generalize logs.getD (1+k) []=d at *
   haveI:Cv .i64 (K:Int) (K:Int):=⟨w64 om⟩
   haveI:eG (1+(k:Int)) (1+k):=⟨by omega⟩
   haveI:eG (18+2*(k:Int)) (18+2*k):=⟨by omega⟩
   haveI:eG (20+2*(k:Int)) (20+2*k):=⟨by omega⟩
   have hb19:bQ (fun i=>[(0,1),(1,1)][i]?) [.int .i64 0,.slice none 0 0] [(0,.int .i64 (K:Int)),(1,.slice va vl vc)]=some [.int .i64 (K:Int),.slice va vl vc]:=rfl
   have hb20:bQ (fun i=>some (i*2,2)) (zs [.int .i64 0,.slice none 0 0] 1) [(0,.agg [(.int .i64 (K:Int):Value),.slice va vl vc].toArray)]=some [.int .i64 (K:Int),.slice va vl vc]:=rfl
   refine W.k ?_
   (refine SW.l [21,23] [0,1,2,3,4,5,6,7,8,9,10] ?_;refine dL 11 rfl (aJK (lo:=none) (hi:=none) rfl rfl rfl rfl om om) ?_;refine SG.l [14,15,16,17,18] ?_;refine aX 12 ?_)
   rw [show 20+2*k-(18+2*k)=2 by omega]
   refine W.cq hg3 ?_ (hpre:=fun w2 hs=>hcut3.rd (Hc:=[]) hs)
   (refine SL.l [13,19] ?_;refine aX 20 ?_)
   refine jO (fun b6=>?_) (hr:=hb20)
   (refine bO [] ?_;refine cB 21 ?_)
   refine W.ap hSe (ys:=[.int .i64 (K:Int),.slice va vl vc]) (mm:=1) (fun w2 hs=>(Sl.own 389 2 b6 (xs:=[.int .i64 (K:Int),.slice va vl vc]) rfl).srcAt hs inferInstance) (fun v7 H7 h7=>?_) (hys:=rfl) (hbytes:=by rw [nA _ _ husl,hel];simp;omega)
   have h71:=h7.isOne
   rw [← aBH husl (.slice va vl vc) ((K:Int),d),← hes] at h7
   (refine SL.l [22] ?_;refine cB 23 ?_;refine W.i ?_;refine eI ?_)
   refine W.k ?_
   rw [show ([eK c,ev]:List Value).set 1 v7=[eK c,v7] from rfl]
   refine aT.mk (k+1,v7,us++[.slice va vl vc],H7) ?_
   refine⟨hkn,h7,?_⟩
   dsimp only
   rw [hes,bB]
   exact hRb.snoc hru
  ·have hkm:k=n:=om
   rw [hkm] at hSe hRb
   refine W.k ?_
   refine bZ.mk (ev,us,He) ?_
   exact⟨hSe,hRb⟩
 rintro⟨ev,us,He⟩ ⟨hSe,hRb⟩
 dsimp only at hSe hRb ⊢
 have hSe1:=hSe.isOne
 have hel:=tA x logs n
 have husl:us.length=(jF x logs n).length:=by rw [hRb.1,aE]
 have hLE:=hRb.le
 obtain⟨ea,el,ec,rfl,hell⟩:=hSe.form
 rw [nA _ _ husl,hel] at hell
 have hen0:n=el:=om
 subst hen0
 have hl2:([eK c,.slice ea n ec]:List Value).length=2:=rfl
 have hmy:=aLF h c (.slice ea n ec) us _ hLE (by rw [hel];omega)
 have hen:=aLE c (.slice ea n ec) us _ hRb (by rw [hel];omega)
 by_cases hm:qL p t (jF x logs n)=true
 ·rw [hm] at hmy
  by_cases he:tH c (jF x logs n)=x
  ·rw [if_pos ⟨by omega,hm,he⟩]
   refine W.k ?_
   (refine SW.l [] [0,1] ?_;refine aX 2 ?_)
   refine W.cq hmy ?_ (hpre:=fun w2 hs=>Rd.own (Hc:=[]) hSe hs inferInstance)
   (refine SL.l [3,4,5,10,11,12] ?_;(first|refine cI 13 rfl ?_|refine oE hr0 13 [] rfl ?_);(first|refine cI 6 rfl ?_;refine SG.l [7,8,9,14,15,16] ?_|refine aX 6 ?_))
   refine aL hen ?_ (hpre:=fun w2 hs=>Rd.own (Hc:=[]) hSe hs inferInstance)
   rintro v64 _ ⟨u64,Hv,Hn,hS64,hr64,rfl⟩
   rcases hS64 with ⟨-,hz,-⟩|⟨eb,elen,ecap,ejunk,rfl,hexl,hej,hec,rfl⟩
   ·cases hz
   have h64o:=hr64.one
   have h64l:((u64::us)++ejunk)[0]?=some u64:=rfl
   rw [he] at hr64
   have hel64:0<elen:=by simp at hexl;omega
   (refine SL.l [7,8] ?_;(first|refine cI 9 rfl ?_|refine oE hr64 9 [] rfl ?_);(first|refine cI 14 rfl ?_|refine dL 14 rfl (aD2 rfl rfl rfl rfl) ?_);refine SG.l [15,16] ?_)
   refine W.k ?_
   refine qY (He++Ht) [eK c,.slice ea n ec] ?_
   exact⟨He,⟨_,us,rfl,hSe,hRb⟩,rfl⟩
  ·rw [if_neg (fun hc=>he hc.2.2)]
   refine W.k ?_
   (refine SW.l [] [0,1] ?_;refine aX 2 ?_)
   refine W.cq hmy ?_ (hpre:=fun w2 hs=>Rd.own (Hc:=[]) hSe hs inferInstance)
   (refine SL.l [3,4,5,10,11,12] ?_;(first|refine cI 13 rfl ?_|refine oE hr0 13 [] rfl ?_);(first|refine cI 6 rfl ?_;refine SG.l [7,8,9,14,15,16] ?_|refine aX 6 ?_))
   refine aL hen ?_ (hpre:=fun w2 hs=>Rd.own (Hc:=[]) hSe hs inferInstance)
   rintro v64 _ ⟨u64,Hv,Hn,hS64,hr64,rfl⟩
   rcases hS64 with ⟨-,hz,-⟩|⟨eb,elen,ecap,ejunk,rfl,hexl,hej,hec,rfl⟩
   ·cases hz
   have h64o:=hr64.one
   have h64l:((u64::us)++ejunk)[0]?=some u64:=rfl
   have hel64:0<elen:=by simp at hexl;omega
   (refine SL.l [7,8] ?_;(first|refine cI 9 rfl ?_|refine oE hr64 9 [] rfl ?_);(first|refine cI 14 rfl ?_|refine dL 14 rfl (aG8 rfl rfl rfl he) ?_);refine SG.l [15,16] ?_)
   refine W.k ?_
   refine qY Ht [.int .u64 0,.slice none 0 0] ?_
   exact⟨[],hnone,rfl⟩
 ·rw [if_neg (fun hc=>hm hc.2.1)]
  rw [show qL p t (jF x logs n)=false by simpa using hm] at hmy
  refine W.k ?_
  (refine SW.l [] [0,1] ?_;refine aX 2 ?_)
  refine W.cq hmy ?_ (hpre:=fun w2 hs=>Rd.own (Hc:=[]) hSe hs inferInstance)
  (refine SL.l [3,4,5,10,11,12,13] ?_;(first|refine cI 6 rfl ?_;refine SG.l [7,8,9,14,15,16] ?_|refine aX 6 ?_))
  refine W.k ?_
  refine qY Ht [.int .u64 0,.slice none 0 0] ?_
  exact⟨[],hnone,rfl⟩
end
end Go.Proofs.YtnigolgkkjidiaaGreat
