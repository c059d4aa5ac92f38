/- What stands on a device: it is redone by its log. -/
import Derived.Test.YtnhnpjokpelkbaaGreatPp32
set_option linter.unusedVariables false
set_option linter.unusedSimpArgs false
set_option linter.unusedSectionVars false
set_option maxHeartbeats 4000000
namespace Go.Proofs.YtnhnpjokpelkbaaGreat
open Go Go.Proofs.Tryz
section
attribute [local irreducible] SW SL SQ SH SA SS Pu Fin bT aQ
def vV(p t:Nat)(r:Rg)(logs:List (List UInt8)):Option (UInt64×List Ent):=match nX p t logs with
 | some x=>if (x.1.toNat:Int)=r.c then some x else none
 | none=>none
theorem aA5{p t:Nat}{logs:List (List UInt8)}{x:UInt64×List Ent}(h:nX p t logs=some x):gH p t x.2=true:=by
 unfold nX at h
 dsimp only at h
 split at h
 ·rename_i hc
  cases h
  exact hc.2.1
 ·cases h
theorem uD(p:Nat)(l:List Ent):∀ m:List (List UInt8),(rB p m l).length=m.length:=by
 unfold rB
 induction l with
 | nil=>intro m;rfl
 | cons x l ih=>intro m;rw [dS,ih,bS]
theorem xP(es:List UInt64)(ts:List Nat):∀ m:List (List UInt8),(sC es m ts).length=m.length:=by
 unfold sC
 induction ts with
 | nil=>intro m;rfl
 | cons x l ih=>intro m;rw [dS,ih,bS]
theorem aCB(p:Nat)(m:List (List UInt8))(l:List Ent)(x:Ent):rB p m (l++[x])=(rB p m l).set (1+Gm.epochs p+x.1.toNat) x.2:=by unfold rB;rw [gX];rfl
theorem vA(c:UInt64)(es:List UInt64)(l:List Ent)(x:Ent):dL c es (l++[x])=(dL c es l).set x.1.toNat c:=by unfold dL;rw [gX];rfl
theorem aCC(es:List UInt64)(m:List (List UInt8))(ts:List Nat)(t:Nat):sC es m (ts++[t])=(sC es m ts).set (1+t) (epB t es):=by unfold sC;rw [gX];rfl
theorem rE{p t:Nat}{l:List Ent}(hm:gH p t l=true):∀ k∈cZ l,k<Gm.epochs p:=by
 have hall:∀ x∈l,x.1.toNat/32<Gm.epochs p:=fun x hx=>by
  obtain⟨i,hi⟩:=cC.1 hx
  unfold gH at hm
  rw [bM] at hm
  obtain⟨h1,h2,-⟩:=lX hm.2 i x hi
  unfold Gm.epochs Gm.up
  omega
 have key:∀ (l:List Ent) (o:List Nat),(∀ x∈l,x.1.toNat/32<Gm.epochs p)→(∀ k∈o,k<Gm.epochs p)→∀ k∈l.foldl tA o,k<Gm.epochs p:=fun l=>by
  induction l with
  | nil=>intro o _ ho;exact ho
  | cons x l ih=>
   intro o hl ho
   rw [dS]
   refine ih _ (fun y hy=>hl y (cX _ hy)) fun k hk=>?_
   unfold tA at hk
   split at hk
   ·exact ho k hk
   ·rcases bK.1 hk with h|h
    ·exact ho k h
    ·rw [bU] at h;rw [h];exact hl x (iD ..)
 exact key l [] hall (by simp)
theorem aEF(es:List UInt64)(k:Nat)(c:UInt64):(uv es).set k (eG c)=uv (es.set k c):=gE.symm
theorem vD{vs junk:List Value}{i:Nat}(h:i<vs.length)(u:Value):(vs++junk).set i u=vs.set i u++junk:=gL _ _ h
theorem rT(p:Nat)(l:List (List UInt8)):(nB p l).length=Gm.sealed p:=by unfold nB;simp
theorem uS{us:List Value}{l:List Ent}{junk:List Value}(h:us.length=l.length){k:Nat}{x:Ent}{u:Value}(hu:us[k]?=some u)(hx:l[k]?=some x):(((eD us l++junk).drop (k*2)).take 2)=[.int .i64 x.1,u]:=by
 have hkl:=(aE.1 hx).1
 have hle:=fI us l h
 rw [cM oQ,bW (by rw [bG];omega)]
 exact aFm hu hx
theorem aOc{dt fp d tr s bk tb p t:Nat}(h:Gm.Ok p t){kind cnt:Int}{bv lv Lv ev tv:Value}{bss logs:List (List UInt8)}{β:Bk}{r:Rg}(hr:r.Ok){Hk Hb Hl:Hp}(hK:eV bk tb β Hk)(hB:Bls bv bss Hb)(hL:Bls lv logs Hl)(o2:One Lv)(o3:One ev)(o4:One tv)(hn:bss.length=Gm.leaves p)(hb:∀ b∈bss,b.length=256)(hln:logs.length=1+t)(hlb:∀ b∈logs,b.length=256) :
  Tri prog 237 [ptv fp] ((fp,cl (cA d tr s bk p t kind bv lv cnt Lv ev tv) 297)::(tr,cl (trc dt r) 201)::(Hk++(Hb++Hl))) (fun _=>True)
  (fun v H=>∃ bv' cnt' Lv' Hk' Hb',One Lv'∧H=(fp,cl (cA d tr s bk p t kind bv' lv cnt' Lv' ev tv) 297)::(tr,cl (trc dt r) 201)::(Hk'++(Hb'++Hl)) ∧
   match vV p t r logs with
   | none=>v=.bool false∧Bls bv' bss Hb'∧eV bk tb β Hk'
   | some x=>v=.bool true∧Bls bv' (rA p x.1 x.2 bss) Hb'∧eV bk tb (aCA β bss) Hk'):=by
 have hbo:=hB.one
 have hlo:=hL.one
 have hB0:=hB
 have hll:=Gm.leaves_le h
 have hsl:=Gm.sealed_le h
 have hel:=Gm.epochs_le h
 have hLe:Gm.leaves p=1+Gm.epochs p+Gm.sealed p:=rfl
 have ht:=h.2.2.2
 have hrd:=zD tr dt r hr
 obtain⟨lvs,Hlv,Hlt,hSl,hRl,rfl⟩:=hL
 have hpa:=fun v=>aK3 h v lvs logs hRl hln hlb
 obtain⟨la,ll,lc,rfl,-⟩:=hSl.form
 refine Tri.mk func237 rfl ntmps237 rfl fun w hw=>?_
 have hl3:(cA d tr s bk p t kind bv (.slice la ll lc) cnt Lv ev tv).length=13:=rfl
 have hq0:(rgc r)[0]?=some (.int .u64 r.c):=rfl
 unfold vV
 refine pL ?_
 refine mZ ?_
 refine W.i ?_
 refine pL ?_
 refine bQ [0] [] (fun x:Nat×List Value×Int×Hp=>[(3,ptv x.1),(4,.int .i64 x.2.2.1)]) (fun x=>(x.1,cl x.2.1 224)::x.2.2.2)
  (fun x=>(nX p t logs=none∧x.2.2.1=4∧x.2.1=[.int .u64 0,.slice none 0 0])∨(∃ y ev us He Hb,nX p t logs=some y∧x.2.2.1=0∧x.2.1=[eG y.1,ev]∧Sl 136 2 ev (eD us y.2) He∧RB Hb us (y.2.map Prod.snd)∧x.2.2.2=He++Hb)) ?_ ?_
 ·cases hpl:nX p t logs with
  | none=>
   rw [hpl] at hpa
   (refine SW.l [] [0,1,2,3,4,5,6,7,8] ?_;skip )
   refine jA 9 13 ?_ ?_ rfl rfl
   case' refine_1=>
    refine aF (hpa _) ?_ (hpre:=fun w2 hs=>Rd.own (Hc:=Hlt) hSl hs inferInstance)
    rintro _ _ ⟨Hn,⟨rfl,rfl⟩,rfl⟩
    refine eB ?_
    refine dZ 10 rfl (fB rfl rfl) ?_
    refine dZ 11 rfl (yI rfl rfl rfl) ?_
    refine dZ 12 rfl (yI rfl rfl rfl) ?_
    refine bA 13 ?_
    refine W.al fun b3=>?_
    refine eB ?_
   case' refine_2=>
    refine W.al fun b3=>?_
    refine eB ?_
    refine bA 9 ?_
    refine aF (hpa _) ?_ (hpre:=fun w2 hs=>Rd.own (Hc:=Hlt) hSl hs inferInstance)
    rintro _ _ ⟨Hn,⟨rfl,rfl⟩,rfl⟩
    refine eB ?_
    refine dZ 10 rfl (fB rfl rfl) ?_
    refine dZ 11 rfl (yI rfl rfl rfl) ?_
    refine dZ 12 rfl (yI rfl rfl rfl) ?_
   all_goals
    refine bA 14 ?_
    refine W.i ?_
    refine dZ 15 rfl (rY rfl rfl) ?_
    refine SS.dn ?_
    refine bT.mk (b3,[.int .u64 0,.slice none 0 0],4,[]) ?_
    exact .inl ⟨rfl,rfl,rfl⟩
  | some y=>
   rw [hpl] at hpa
   (refine SW.l [] [0,1,2,3,4,5,6,7,8] ?_;skip )
   refine jA 9 13 ?_ ?_ rfl rfl
   case' refine_1=>
    refine aF (hpa _) ?_ (hpre:=fun w2 hs=>Rd.own (Hc:=Hlt) hSl hs inferInstance)
    rintro _ _ ⟨Hn,⟨ev2,us,He,Hbe,rfl,hSe,hRe,rfl⟩,rfl⟩
    have hSe1:=hSe.isOne
    refine eB ?_
    refine dZ 10 rfl (fB rfl rfl) ?_
    refine dZ 11 rfl (yI rfl rfl rfl) ?_
    refine dZ 12 rfl (yI rfl rfl rfl) ?_
    refine bA 13 ?_
    refine W.al fun b3=>?_
    refine eB ?_
   case' refine_2=>
    refine W.al fun b3=>?_
    refine eB ?_
    refine bA 9 ?_
    refine aF (hpa _) ?_ (hpre:=fun w2 hs=>Rd.own (Hc:=Hlt) hSl hs inferInstance)
    rintro _ _ ⟨Hn,⟨ev2,us,He,Hbe,rfl,hSe,hRe,rfl⟩,rfl⟩
    have hSe1:=hSe.isOne
    refine eB ?_
    refine dZ 10 rfl (fB rfl rfl) ?_
    refine dZ 11 rfl (yI rfl rfl rfl) ?_
    refine dZ 12 rfl (yI rfl rfl rfl) ?_
   all_goals
    refine bA 14 ?_
    refine W.i ?_
    refine dZ 15 rfl (rY rfl rfl) ?_
    refine SS.dn ?_
    refine bT.mk (b3,[eG y.1,ev2],0,He++Hbe) ?_
    exact .inr ⟨y,ev2,us,He,Hbe,rfl,rfl,rfl,hSe,hRe,rfl⟩
 rintro⟨b3,lc3,e3,Hn⟩ hP
 dsimp only at hP ⊢
 rcases hP with ⟨hpl,rfl,rfl⟩|⟨⟨c,es⟩,ev2,us,He,Hbe,hpl,rfl,rfl,hSe,hRe,rfl⟩
 ·rw [hpl]
  refine W.k ?_
  (refine SW.l [] [0,1,2,3,4,5,6,7,8,9] ?_;(first|refine dB 10 rfl ?_;refine SG.l [11,12,13,14] ?_|refine bA 10 ?_))
  refine W.k ?_
  refine Fin.to ((fp,cl (cA d tr s bk p t kind bv (.slice la ll lc) cnt Lv ev tv) 297)::(tr,cl (trc dt r) 201)::(Hk++(Hb++(Hlv++Hlt)))) ?_
  exact F.f1 ⟨bv,cnt,Lv,Hk,Hb,o2,rfl,rfl,hB0,hK⟩
 have hSe1:=hSe.isOne
 have hmay:=aA5 hpl
 rw [hpl]
 dsimp only at hSe hRe hmay ⊢
 by_cases hc:¬ (c.toNat:Int)=r.c
 ·rw [if_neg hc]
  refine W.k ?_
  (refine SW.l [] [0,1,2,3,4,5,6,7,8,9] ?_;(first|refine dB 10 rfl ?_;refine SG.l [11,12,13,14] ?_|refine bA 10 ?_))
  refine W.cq hrd ?_
  (refine SL.l [11,12,13,14] ?_)
  refine W.k ?_
  refine Fin.to ((fp,cl (cA d tr s bk p t kind bv (.slice la ll lc) cnt Lv ev tv) 297)::(tr,cl (trc dt r) 201)::(Hk++(Hb++(Hlv++Hlt)))) ?_
  exact F.f1 ⟨bv,cnt,Lv,Hk,Hb,o2,rfl,rfl,hB0,hK⟩
 have hc2:(c.toNat:Int)=r.c:=Decidable.not_not.1 hc
 rw [if_pos hc2]
 dsimp only
 refine W.k ?_
 (refine SW.l [] [0,1,2,3,4,5,6,7,8,9] ?_;(first|refine dB 10 rfl ?_;refine SG.l [11,12,13,14] ?_|refine bA 10 ?_))
 refine W.cq hrd ?_
 (refine SL.l [11,12,13,14] ?_)
 refine W.k ?_
 rw [show List.take 9 (cA d tr s bk p t kind bv (.slice la ll lc) cnt Lv ev tv)++[eG c,ev2]++List.drop (9+2) (cA d tr s bk p t kind bv (.slice la ll lc) cnt Lv ev tv)=cA d tr s bk p t kind bv (.slice la ll lc) (c.toNat:Int) ev2 ev tv from rfl]
 have hpt:=aA6 (fp:=fp) (d:=d) (tr:=tr) (s:=s) (kind:=kind) (cnt:=(c.toNat:Int)) (lv:=.slice la ll lc) (Lv:=ev2) (ev:=ev) (tv:=tv) h hK hB inferInstance hSe1 o3 o4 hn hb
 rw [aHh bss hb oQ] at hpt
 refine aF hpt ?_
 rintro _ _ ⟨tp,be,Htr,Hk2,rfl,rfl,-,hK2⟩
 clear hpt hpa hrd
 obtain⟨vs,Hv,Ht0,hS,hR,rfl⟩:=hB
 have hvl:=hR.1
 rcases hS with ⟨-,hz,-⟩|⟨bb,len,cap,junk,rfl,hxl,hj,hlc,rfl⟩
 ·rw [hz] at hvl;simp at hvl;omega
 have hesl:1≤es.length∧es.length≤t:=by unfold gH at hmay;rw [bM,decide_eq_true_iff] at hmay;exact hmay.1
 have hmall:∀ (k:Nat) (x:Ent),es[k]?=some x → -1<x.1∧x.1<(Gm.sealed p:Nat)∧x.2.length=256:=by unfold gH at hmay;rw [bM] at hmay;exact lX hmay.2
 have htlt:=rE hmay
 have htle:=pX es
 have hul:us.length=es.length:=by rw [hRe.1,aD]
 have hoc:=hRe.oc
 have hebl:=rT p bss
 have hSe0:=hSe
 have hel2:=fI us es hul
 rcases hSe with ⟨-,hz,-⟩|⟨eb,elen,ecap,ejunk,rfl,hexl,hej,hec,rfl⟩
 ·rw [hz] at hel2;simp at hel2;omega
 obtain rfl:elen=es.length:=by omega
 obtain rfl:len=vs.length:=by omega
 have hredo:rA p c es bss=sC (dL c (nB p bss) es) (rB p bss es) (cZ es):=rfl
 rw [hredo]
 clear hredo hB0 hmay hc hpl
 generalize nB p bss=E0 at *
 refine W.j ?_
 refine bQ [0,6] [(bb,cl (vs++junk) 23),(be,cl (uv E0) 33)] (fun _:List Value=>[]) (fun y=>[(bb,cl (y++junk) 23),(be,cl (uv (dL c E0 es)) 33)]) (fun y=>RB (Ht0++Hbe) y (rB p bss es)) ?_ ?_
 ·rw [show uv E0=uv (dL c E0 (es.take 0)) from rfl]
  refine W.k ?_
  refine bF [0,3,6,50,51] (fun y:Nat×List Value=>[(52,.int .i64 (y.1:Int))]) (fun y=>[(bb,cl (y.2++junk) 23),(be,cl (uv (dL c E0 (es.take y.1))) 33)]) (fun y=>es.length-y.1) (fun y=>y.1≤es.length∧RB (Ht0++Hbe) y.2 (rB p bss (es.take y.1))) (0,vs) ⟨Nat.zero_le _,hR.mono fun x hx=>aO _ hx⟩ ?_
  rintro⟨k,vs2⟩ ⟨hk,hR2⟩
  dsimp only at hk hR2 ⊢
  have hvl2:=hR2.1
  rw [uD,hn] at hvl2
  have hoc2:=hR2.oc
  by_cases hkn:k<es.length
  ·have hx:=aA hkn
   have htk:es.take (k+1)=es.take k++[es[k]]:=by rw [aZ,hx];rfl
   obtain⟨u,huk,hru⟩:=hRe.2 k es[k].2 (by rw [aJ,hx];rfl)
   have hrow:=uS (junk:=ejunk) hul huk hx
   obtain⟨hx1,hx2,hx3⟩:=hmall k _ hx
   have hSs:=aCB p bss (es.take k) es[k]
   have hEs:=vA c E0 (es.take k) es[k]
   rw [← htk] at hSs hEs
   have hEl:=lG c (es.take k) E0
   have huo:=hru.one
   generalize es[k]=x at *
   obtain⟨K,hKK⟩:∃ K:Nat,x.1=(K:Int):=⟨x.1.toNat,by omega⟩
   rw [show x.1.toNat=K by omega] at hSs hEs
   rw [hKK] at hrow
   have hsa:=qH h (K:Int)
   rw [show Gm.atK (Gm.sealed p) (1+Gm.epochs p) (K:Int)=((1+Gm.epochs p+K:Nat):Int) by unfold Gm.atK;rw [if_pos oQ];omega] at hsa
   have hset:=vD (vs:=vs2) (junk:=junk) (i:=1+Gm.epochs p+K) oQ u
   have hset2:=aEF (dL c E0 (es.take k)) K c
   rw [← hEs] at hset2
   have hlt1:1+Gm.epochs p+K<(vs2++junk).length:=by rw [aB];omega
   have hlt2:K<(uv (dL c E0 (es.take k))).length:=by rw [eR,hEl];omega
   refine W.k fun b_=>?_
   (refine SW.l [] [0,1,2,3,4,5,6,7,8,9,10,12,13] ?_;refine bA 11 ?_)
   refine W.cq hsa ?_
   (refine SL.l [14] ?_;refine bA 15 ?_;refine W.i ?_;refine SS.dn ?_)
   rw [hset]
   refine W.k ?_
   rw [hset2]
   refine aQ.mk (k+1,vs2.set (1+Gm.epochs p+K) u) ?_
   refine⟨hkn,?_⟩
   dsimp only
   rw [hSs]
   exact hR2.set (hru.mono fun x hx=>aN _ hx) _
  ·have hkl:k=es.length:=oQ
   rw [hkl,bN] at hR2 ⊢
   subst hkl
   refine W.k ?_
   refine bT.mk vs2 ?_
   exact hR2
 rintro vs2 hR2
 have hEl:=lG c es E0
 have hmt:=aIx (fp:=fp) (d:=d) (tr:=tr) (s:=s) (bk:=bk) (p:=p) (t:=t) (kind:=kind) (cnt:=(c.toNat:Int)) (bv:=.slice (some ⟨bb,0,none⟩) vs.length cap) (lv:=.slice la ll lc) (ev:=ev) (tv:=tv) us es hul hoc (fun x hx=>by
  obtain⟨i,hi⟩:=cC.1 hx
  have:=hmall i x hi
  omega) oQ hSe0 inferInstance inferInstance o3 o4
 have hvl2:=hR2.1
 rw [uD,hn] at hvl2
 generalize dL c E0 es=E1 at *
 generalize rB p bss es=M1 at *
 refine W.k ?_
 refine aF hmt ?_
 rintro v79 _ ⟨Hn,hSt,rfl⟩
 have hSt1:=hSt.isOne
 obtain⟨ta,tl,tc2,rfl,htl⟩:=hSt.form
 rw [Nat.mul_one,aD] at htl
 subst htl
 refine W.j ?_
 refine bQ [] [(bb,cl (vs2++junk) 23)] (fun _:List Value×Hp=>[]) (fun y=>(bb,cl (y.1++junk) 23)::y.2) (fun y=>RB ((Ht0++Hbe)++y.2) y.1 (sC E1 M1 (cZ es))) ?_ ?_
 ·refine W.k ?_
  refine bF [0,6,79,80] (fun y:Nat×List Value×Hp=>[(81,.int .i64 (y.1:Int))]) (fun y=>(bb,cl (y.2.1++junk) 23)::y.2.2) (fun y=>(cZ es).length-y.1) (fun y=>y.1≤(cZ es).length∧RB ((Ht0++Hbe)++y.2.2) y.2.1 (sC E1 M1 ((cZ es).take y.1))) (0,vs2,[]) ⟨Nat.zero_le _,by rw [aH];exact hR2⟩ ?_
  rintro⟨k,vs3,Hn3⟩ ⟨hk,hR3⟩
  dsimp only at hk hR3 ⊢
  have hvl3:=hR3.1
  rw [xP] at hvl3
  have hM1:=hR2.1
  have hoc3:=hR3.oc
  by_cases hkn:k<(cZ es).length
  ·rcases hSt with ⟨hz,hz2,-⟩|⟨qb,qlen,qcap,qjunk,hz,hqxl,hqj,hqc,rfl⟩
   ·simp only [Value.slice.injEq] at hz;omega
   simp only [Value.slice.injEq] at hz
   obtain⟨rfl,rfl,rfl⟩:=hz
   have hx:=aA hkn
   have hlu:(nv (cZ es)++qjunk)[k]?=some (.int .i64 (((cZ es)[k]:Nat):Int)):=by
    rw [aL (by rw [aD];exact hkn),aJ,hx];rfl
   have htk:(cZ es).take (k+1)=(cZ es).take k++[(cZ es)[k]]:=by rw [aZ,hx];rfl
   have hlt:=htlt _ (cE hkn)
   have hTs:=aCC E1 M1 ((cZ es).take k) (cZ es)[k]
   rw [← htk] at hTs
   generalize (cZ es)[k]=q at *
   have hsb:=aAB h q hlt (.slice (some ⟨be,0,none⟩) (Gm.sealed p) (Gm.sealed p)) E1 oQ
   have hea:=uW h (q:Int)
   rw [show Gm.atK (Gm.epochs p) 1 (q:Int)=((1+q:Nat):Int) by unfold Gm.atK;rw [if_pos oQ];omega] at hea
   have hlt1:1+q<(vs3++junk).length:=by rw [aB];omega
   refine W.k ?_
   refine aF hsb ?_ (hpre:=fun w2 hs=>Rd.own (Hc:=[]) (Sl.own 33 1 be (len:=Gm.sealed p) (xs:=uv E1) (by rw [eR];omega)) hs inferInstance)
   rintro _ _ ⟨b5,rfl,rfl⟩
   have hset:=vD (vs:=vs3) (junk:=junk) (i:=1+q) oQ (.slice (some ⟨b5,0,none⟩) 256 256)
   refine W.k ?_
   (refine SW.l [] [0,1,2,3,4,5,6,7,8,9,11] ?_;refine bA 10 ?_)
   refine W.cq hea ?_
   (refine SL.l [12] ?_;refine bA 13 ?_;refine W.i ?_;refine SS.dn ?_)
   rw [hset]
   refine W.k ?_
   refine aQ.mk (k+1,vs3.set (1+q) (.slice (some ⟨b5,0,none⟩) 256 256),(b5,cl (cbs (epB q E1)) 5)::Hn3) ?_
   refine⟨hkn,?_⟩
   dsimp only
   rw [hTs]
   refine (hR3.mono fun x hx=>?_).set ((RdH.of (Sl.own 5 1 b5 (len:=256) (xs:=cbs (epB q E1)) (by rw [aI,nA]))).mono fun x hx=>?_) _
   ·rcases bK.1 hx with h|h
    ·exact aO _ h
    ·exact aN _ (cX _ h)
   ·rw [bU] at hx
    subst hx
    exact aN _ (iD ..)
  ·have hkl:k=(cZ es).length:=oQ
   rw [hkl,bN] at hR3
   subst hkl
   refine W.k ?_
   refine bT.mk (vs3,Hn3) ?_
   exact hR3
 rintro⟨vs3,Hn3⟩ hR3
 dsimp only at hR3 ⊢
 have hvl3:=hR3.1
 rw [xP,hR2.1.symm.trans hvl2] at hvl3
 refine W.k ?_
 refine Fin.to ((fp,cl (cA d tr s bk p t kind (.slice (some ⟨bb,0,none⟩) vs.length cap) (.slice la ll lc) (c.toNat:Int) (.slice (some ⟨eb,0,none⟩) es.length ecap) ev tv) 297)::(tr,cl (trc dt r) 201)::(Hk2++(([(bb,cl (vs3++junk) 23)]++((Ht0++Hbe)++Hn3))++(Hlv++Hlt)))) ?_
 refine F.f1 ⟨_,_,_,Hk2,_,inferInstance,rfl,rfl,⟨vs3,_,_,?_,hR3,rfl⟩,hK2⟩
 exact .inr ⟨bb,vs.length,cap,junk,rfl,by omega,hj,hlc,rfl⟩
theorem rU{p t:Nat}{r:Rg}{l logs:List (List UInt8)}(h:lI p t r.root l=true):uV p t r l logs=(1,l):=by unfold uV;rw [if_pos h]
theorem qF{p t:Nat}{r:Rg}{l logs:List (List UInt8)}(h:¬ lI p t r.root l=true)(h2:vV p t r logs=none):uV p t r l logs=(3,l):=by
 unfold uV vV at *
 rw [if_neg h]
 cases hp:nX p t logs with
 | none=>rfl
 | some x=>
  rw [hp] at h2
  dsimp only at h2 ⊢
  split at h2
  ·cases h2
  ·rename_i hc
   rw [if_neg (fun hh=>hc hh.1)]
theorem sS{p t:Nat}{r:Rg}{l logs:List (List UInt8)}(h:¬ lI p t r.root l=true){x:UInt64×List Ent}(h2:vV p t r logs=some x):uV p t r l logs=if lI p t r.root (rA p x.1 x.2 l)=true then (2,rA p x.1 x.2 l) else (3,l):=by
 unfold uV vV at *
 rw [if_neg h]
 cases hp:nX p t logs with
 | none=>rw [hp] at h2;cases h2
 | some y=>
  rw [hp] at h2
  dsimp only at h2 ⊢
  split at h2
  ·cases h2
   rename_i hc
   by_cases hf:lI p t r.root (rA p x.1 x.2 l)=true
   ·rw [if_pos ⟨hc,hf⟩,if_pos hf]
   ·rw [if_neg (fun hh=>hf hh.2),if_neg hf]
  ·cases h2
def tT(p t:Nat)(r:Rg)(l logs:List (List UInt8))(β:Bk):Bk:=
 if lI p t r.root l=true then rC β l else match vV p t r logs with|some x=>rC (aCA (rC β l) l) (rA p x.1 x.2 l)|none=>rC β l
def aMY(fp d tr s bk p t k:Nat)(l:List (List UInt8))(H:Hp):Prop:=
 ∃ bv lv cnt Lv ev tv Hx,(One bv∧One lv∧One Lv∧One ev∧One tv)∧H=(fp,cl (cA d tr s bk p t (k:Int) bv lv cnt Lv ev tv) 297)::Hx ∧
  (k≠3→∃ tp be Hb Ht Hz,Bls bv l Hb∧tv=ptv tp∧ev=.slice (some ⟨be,0,none⟩) (Gm.sealed p) (Gm.sealed p)∧rR tp bk (eX l) Ht∧Hx=Hb++((be,cl (uv (nB p l)) 33)::(Ht++Hz)))
theorem aIK{p t:Nat}:∀ {l:List Ent} {m:List (List UInt8)},(∀ x∈l,x.2.length=256)→(∀ b∈m,b.length=256)→∀ b∈rB p m l,b.length=256:=by
 intro l
 unfold rB
 induction l with
 | nil=>intro m _ h;exact h
 | cons x l ih=>
  intro m hl h
  rw [dS]
  refine ih (fun y hy=>hl y (cX _ hy)) fun b hb=>?_
  rcases eY hb with h1|h1
  ·exact h b h1
  ·rw [h1];exact hl x (iD ..)
theorem aIL{es:List UInt64}:∀ {ts:List Nat} {m:List (List UInt8)},(∀ b∈m,b.length=256)→∀ b∈sC es m ts,b.length=256:=by
 intro l
 unfold sC
 induction l with
 | nil=>intro m h;exact h
 | cons x l ih=>
  intro m h
  rw [dS]
  refine ih fun b hb=>?_
  rcases eY hb with h1|h1
  ·exact h b h1
  ·rw [h1];exact nA _ _
theorem xO(p:Nat)(c:UInt64)(l:List Ent)(m:List (List UInt8)):(rA p c l m).length=m.length:=by unfold rA;rw [xP,uD]
theorem aBa{p t:Nat}{c:UInt64}{l:List Ent}{m:List (List UInt8)}(hm:gH p t l=true)(h:∀ b∈m,b.length=256):∀ b∈rA p c l m,b.length=256:=by
 unfold rA
 refine aIL (aIK (t:=t) (fun x hx=>?_) h)
 obtain⟨i,hi⟩:=cC.1 hx
 exact rW hm i x hi
theorem aFz{p t:Nat}{r:Rg}{logs:List (List UInt8)}{x:UInt64×List Ent}(h:vV p t r logs=some x):gH p t x.2=true:=by
 unfold vV at h
 cases hp:nX p t logs with
 | none=>rw [hp] at h;cases h
 | some y=>
  rw [hp] at h
  dsimp only at h
  split at h
  ·cases h;exact aA5 hp
  ·cases h
theorem Dv.blk_256{σ:Dv}{m k:Nat}(hok:σ.Ok)(hd:σ.down=false)(hl:σ.len=256*m)(hk:k<m):(σ.blk k).length=256:=by
 unfold Dv.blk Dv.loadB
 have hr:σ.rdy ((256*k:Nat):Int) 256=0:=by
  unfold Dv.rdy
  rw [if_neg (by rw [hd];decide),if_neg oQ]
 rw [if_pos hr,aG,bG,rX hok.ok,aP]
 unfold Dv.len at hl
 show min 256 _=256
 omega
theorem wC{σ:Dv}{m a n:Nat}(hok:σ.Ok)(hd:σ.down=false)(hl:σ.len=256*m)(hk:a+n≤m):∀ b∈σ.blks a n,b.length=256:=fun b hb=>by
 unfold Dv.blks at hb
 obtain⟨i,hi,rfl⟩:=bH.1 hb
 have:=eP.1 hi
 exact Dv.blk_256 hok hd hl oQ
theorem aNG{dt d tr s bk tb p t:Nat}(h:Gm.Ok p t){σ:Dv}{r:Rg}{β:Bk}{Hd Hk:Hp}(hD:fD d σ Hd)(hlen:σ.len=256*Gm.total p t)(hr:r.Ok)(hK:eV bk tb β Hk) :
  Tri prog 196 [yD d tr s bk p t] ((tr,cl (trc dt r) 201)::(Hd++Hk)) (fun _=>True)
  (fun v H=>(σ.down=true∧v=.tuple #[.pointer none,.int .i64 8]∧H=(tr,cl (trc dt r) 201)::(Hd++Hk)) ∨
   (σ.down=false∧∃ fp Hk' Hf,v=.tuple #[ptv fp,.int .i64 0]∧aMY fp d tr s bk p t (gI p t σ r).1 (gI p t σ r).2 Hf∧eV bk tb (tT p t r (σ.blks 0 (Gm.leaves p)) (σ.blks (Gm.leaves p) (1+t)) β) Hk' ∧
    H=(tr,cl (trc dt r) 201)::(Hd++(Hk'++Hf)))):=by
 refine Tri.mk func196 rfl ntmps196 rfl fun w hw=>?_
 have hmy:=aGF (tr:=tr) (s:=s) (bk:=bk) h hD hlen
 have ht:=h.2.2.2
 have hlv:=aDp h
 have hla:=aCj h 0
 have hll:=Gm.leaves_le h
 have hl1:1≤Gm.leaves p:=by unfold Gm.leaves;omega
 have htot:Gm.total p t=Gm.leaves p+(1+t):=rfl
 rw [show Gm.atK (1+t) (Gm.leaves p) 0=((Gm.leaves p:Nat):Int) by unfold Gm.atK;rw [if_pos oQ];omega] at hla
 have hld1:=fun fp (k:Int)=>aHt (fp:=fp) (d:=d) (tr:=tr) (s:=s) (bk:=bk) (kind:=k) (cnt:=0) (bv:=.slice none 0 0) (lv:=.slice none 0 0) (Lv:=.slice none 0 0) (ev:=.slice none 0 0) (tv:=.pointer none) h ⟨rfl⟩ ⟨rfl⟩ ⟨rfl⟩ ⟨rfl⟩ ⟨rfl⟩ hD hlen 0 (Gm.leaves p) oQ
 have hld2:=fun fp (k:Int) bv (hbv:One bv)=>aHt (fp:=fp) (d:=d) (tr:=tr) (s:=s) (bk:=bk) (kind:=k) (cnt:=0) (bv:=bv) (lv:=.slice none 0 0) (Lv:=.slice none 0 0) (ev:=.slice none 0 0) (tv:=.pointer none) h hbv ⟨rfl⟩ ⟨rfl⟩ ⟨rfl⟩ ⟨rfl⟩ hD hlen (Gm.leaves p) (1+t) oQ
 rw [show ((1+t:Nat):Int)=1+(t:Int) by omega] at hld2
 have hbf:bX (fun i=>[(0,6),(6,1),(7,1),(8,1),(9,2),(11,1),(12,1)][i]?) (List.replicate 4 (.pointer none)++[.int .i64 0,.int .i64 0,.int .i64 0]++[.slice none 0 0,.slice none 0 0]++[.int .u64 0]++[.slice none 0 0,.slice none 0 0]++[.pointer none]) [(0,yD d tr s bk p t),(1,.int .i64 3)]=some (cA d tr s bk p t 3 (.slice none 0 0) (.slice none 0 0) 0 (.slice none 0 0) (.slice none 0 0) (.pointer none)):=rfl
 by_cases hdn:σ.down=true
 ·have e1:ldS σ 0 (Gm.leaves p)=(8,[]):=by unfold ldS;rw [if_neg (by rw [hdn];simp;omega)]
  rw [e1] at hld1
  dsimp only at hld1
  refine W.k fun b_=>?_
  refine aF hmy ?_
  rintro _ Hd ⟨rfl,rfl⟩
  refine W.k fun b_=>?_
  refine W.cw hlv ?_
  refine eJ (hld1 b_ 3) rfl ?_
  rintro _ _ ⟨v1,Hb,rfl,hB,rfl⟩
  have hB1:=hB.one
  refine W.k ?_
  refine Fin.to ((tr,cl (trc dt r) 201)::(Hd++Hk)) ?_
  exact F.f2 (.inl ⟨hdn,rfl,rfl⟩)
 have hdn2:σ.down=false:=by simpa using hdn
 have e1:ldS σ 0 (Gm.leaves p)=(0,σ.blks 0 (Gm.leaves p)):=by unfold ldS;rw [if_pos (.inr hdn2)]
 have e2:ldS σ (Gm.leaves p) (1+t)=(0,σ.blks (Gm.leaves p) (1+t)):=by unfold ldS;rw [if_pos (.inr hdn2)]
 rw [e1] at hld1
 rw [e2] at hld2
 dsimp only at hld1 hld2
 have hb1:=wC (a:=0) (n:=Gm.leaves p) hD.1 hdn2 hlen oQ
 have hb2:=wC (a:=Gm.leaves p) (n:=1+t) hD.1 hdn2 hlen oQ
 have hn1:=σ.blks_len 0 (Gm.leaves p)
 have hn2:=σ.blks_len (Gm.leaves p) (1+t)
 have hlb:gI p t σ r=uV p t r (σ.blks 0 (Gm.leaves p)) (σ.blks (Gm.leaves p) (1+t)):=rfl
 rw [hlb]
 clear hlb e1 e2 hdn
 generalize σ.blks 0 (Gm.leaves p)=l at *
 generalize σ.blks (Gm.leaves p) (1+t)=logs at *
 refine W.k fun b_=>?_
 refine aF hmy ?_
 rintro _ Hd ⟨rfl,rfl⟩
 refine W.k fun b_=>?_
 generalize b_=fp at *
 refine W.cw hlv ?_
 refine eJ (hld1 fp 3) rfl ?_
 rintro _ _ ⟨v1,Hb,rfl,hB,rfl⟩
 have hB1:=hB.one
 refine W.k ?_
 rw [show (cA d tr s bk p t 3 (.slice none 0 0) (.slice none 0 0) 0 (.slice none 0 0) (.slice none 0 0) (.pointer none)).set 7 v1=cA d tr s bk p t 3 v1 (.slice none 0 0) 0 (.slice none 0 0) (.slice none 0 0) (.pointer none) from rfl]
 (refine SW.l [] [0,1,2,3,5,6,7,8] ?_;refine bA 4 ?_)
 refine W.cq hla ?_
 (refine bC [] ?_;refine bA 9 ?_)
 refine aF (hld2 fp 3 v1 hB1) ?_
 rintro _ _ ⟨v2,Hl,rfl,hL,rfl⟩
 have hL1:=hL.one
 (refine SL.l [10,11,12,13,14] ?_;refine bA 15 ?_;refine W.i ?_;refine SG.l [16,17] ?_)
 rw [show (cA d tr s bk p t 3 v1 (.slice none 0 0) 0 (.slice none 0 0) (.slice none 0 0) (.pointer none)).set 8 v2=cA d tr s bk p t 3 v1 v2 0 (.slice none 0 0) (.slice none 0 0) (.pointer none) from rfl]
 have hfi:=aJL (dt:=dt) (fp:=fp) (d:=d) (tr:=tr) (s:=s) (kind:=3) (cnt:=0) (lv:=v2) (Lv:=.slice none 0 0) (ev:=.slice none 0 0) (tv:=.pointer none) h hr hK hB hL1 ⟨rfl⟩ ⟨rfl⟩ ⟨rfl⟩ hn1 hb1
 by_cases hf:lI p t r.root l=true
 ·rw [rU hf]
  simp only [hf,eq_self,if_true] at hfi
  have hlk:tT p t r l logs β=rC β l:=by unfold tT;rw [if_pos hf]
  rw [hlk]
  refine W.k ?_
  refine aF hfi ?_
  rintro _ _ ⟨rfl,ev3,tv3,Hk3,Hx,hK3,rfl,tp,be,Ht,rfl,rfl,rfl,hT⟩
  refine W.k ?_
  rw [show (cA d tr s bk p t 3 v1 v2 0 (.slice none 0 0) (.slice (some ⟨be,0,none⟩) (Gm.sealed p) (Gm.sealed p)) (ptv tp)).set 6 (.int .i64 1)=cA d tr s bk p t ((1:Nat):Int) v1 v2 0 (.slice none 0 0) (.slice (some ⟨be,0,none⟩) (Gm.sealed p) (Gm.sealed p)) (ptv tp) from rfl]
  refine Fin.to ((tr,cl (trc dt r) 201)::(Hd++(Hk3++((fp,cl (cA d tr s bk p t ((1:Nat):Int) v1 v2 0 (.slice none 0 0) (.slice (some ⟨be,0,none⟩) (Gm.sealed p) (Gm.sealed p)) (ptv tp)) 297)::(Hb++((be,cl (uv (nB p l)) 33)::(Ht++[]))))))) ?_
  exact F.f2 (.inr ⟨hdn2,fp,Hk3,_,rfl,⟨v1,v2,0,_,_,_,_,⟨hB1,hL1,⟨rfl⟩,⟨rfl⟩,⟨rfl⟩⟩,rfl,fun _=>⟨tp,be,Hb,Ht,[],hB,rfl,rfl,hT,rfl⟩⟩,hK3,rfl⟩)
 have hff:lI p t r.root l=false:=by simpa using hf
 simp only [hff,iV,if_false] at hfi
 refine W.k ?_
 refine aF hfi ?_
 rintro _ _ ⟨rfl,ev3,tv3,Hk3,Hx,hK3,rfl,rfl,rfl,rfl⟩
 have hre:=aOc (dt:=dt) (fp:=fp) (d:=d) (tr:=tr) (s:=s) (kind:=3) (cnt:=0) (Lv:=.slice none 0 0) (ev:=.slice none 0 0) (tv:=.pointer none) h hr hK3 hB hL ⟨rfl⟩ ⟨rfl⟩ ⟨rfl⟩ hn1 hb1 hn2 hb2
 cases hlr:vV p t r logs with
 | none=>
  rw [qF hf hlr]
  rw [hlr] at hre
  dsimp only at hre
  have hlk:tT p t r l logs β=rC β l:=by unfold tT;rw [if_neg hf,hlr]
  rw [hlk]
  refine W.k ?_
  refine aF hre ?_
  rintro _ _ ⟨bv4,cnt4,Lv4,Hk4,Hb4,o4,rfl,rfl,hB4,hK4⟩
  have hB41:=hB4.one
  refine W.k ?_
  refine Fin.to ((tr,cl (trc dt r) 201)::(Hd++(Hk4++[(fp,cl (cA d tr s bk p t ((3:Nat):Int) bv4 v2 cnt4 Lv4 (.slice none 0 0) (.pointer none)) 297)]))) ?_
  exact F.f2 (.inr ⟨hdn2,fp,Hk4,_,rfl,⟨bv4,v2,cnt4,Lv4,_,_,[],⟨hB41,hL1,o4,⟨rfl⟩,⟨rfl⟩⟩,rfl,fun hh=>absurd rfl hh⟩,hK4,rfl⟩)
 | some x=>
  rw [sS hf hlr]
  rw [hlr] at hre
  dsimp only at hre
  have hlk:tT p t r l logs β=rC (aCA (rC β l) l) (rA p x.1 x.2 l):=by unfold tT;rw [if_neg hf,hlr]
  rw [hlk]
  have hm:=aFz hlr
  have hl4:=xO p x.1 x.2 l
  have hl256:=aBa (c:=x.1) hm hb1
  generalize rA p x.1 x.2 l=l4 at *
  refine W.k ?_
  refine aF hre ?_
  rintro _ _ ⟨bv4,cnt4,Lv4,Hk4,Hb4,o4,rfl,rfl,hB4,hK4⟩
  have hB41:=hB4.one
  have hfi2:=aJL (dt:=dt) (fp:=fp) (d:=d) (tr:=tr) (s:=s) (kind:=3) (cnt:=cnt4) (lv:=v2) (Lv:=Lv4) (ev:=.slice none 0 0) (tv:=.pointer none) h hr hK4 hB4 hL1 o4 ⟨rfl⟩ ⟨rfl⟩ oQ hl256
  by_cases hf2:lI p t r.root l4=true
  ·rw [if_pos hf2]
   simp only [hf2,eq_self,if_true] at hfi2
   refine W.k ?_
   refine aF hfi2 ?_
   rintro _ _ ⟨rfl,ev5,tv5,Hk5,Hx5,hK5,rfl,tp,be,Ht,rfl,rfl,rfl,hT⟩
   refine W.k ?_
   rw [show (cA d tr s bk p t 3 bv4 v2 cnt4 Lv4 (.slice (some ⟨be,0,none⟩) (Gm.sealed p) (Gm.sealed p)) (ptv tp)).set 6 (.int .i64 2)=cA d tr s bk p t ((2:Nat):Int) bv4 v2 cnt4 Lv4 (.slice (some ⟨be,0,none⟩) (Gm.sealed p) (Gm.sealed p)) (ptv tp) from rfl]
   refine Fin.to ((tr,cl (trc dt r) 201)::(Hd++(Hk5++((fp,cl (cA d tr s bk p t ((2:Nat):Int) bv4 v2 cnt4 Lv4 (.slice (some ⟨be,0,none⟩) (Gm.sealed p) (Gm.sealed p)) (ptv tp)) 297)::(Hb4++((be,cl (uv (nB p l4)) 33)::(Ht++[]))))))) ?_
   exact F.f2 (.inr ⟨hdn2,fp,Hk5,_,rfl,⟨bv4,v2,cnt4,_,_,_,_,⟨hB41,hL1,o4,⟨rfl⟩,⟨rfl⟩⟩,rfl,fun _=>⟨tp,be,Hb4,Ht,[],hB4,rfl,rfl,hT,rfl⟩⟩,hK5,rfl⟩)
  ·rw [if_neg hf2]
   have hff2:lI p t r.root l4=false:=by simpa using hf2
   simp only [hff2,iV,if_false] at hfi2
   refine W.k ?_
   refine aF hfi2 ?_
   rintro _ _ ⟨rfl,ev5,tv5,Hk5,Hx5,hK5,rfl,rfl,rfl,rfl⟩
   refine W.k ?_
   refine Fin.to ((tr,cl (trc dt r) 201)::(Hd++(Hk5++[(fp,cl (cA d tr s bk p t ((3:Nat):Int) bv4 v2 cnt4 Lv4 (.slice none 0 0) (.pointer none)) 297)]))) ?_
   exact F.f2 (.inr ⟨hdn2,fp,Hk5,_,rfl,⟨bv4,v2,cnt4,Lv4,_,_,[],⟨hB41,hL1,o4,⟨rfl⟩,⟨rfl⟩⟩,rfl,fun hh=>absurd rfl hh⟩,hK5,rfl⟩)
end
theorem rK{rows:List (Nat×List UInt8)}{σ σ2:Dv}{k:Nat}{x:Nat×List UInt8}(hp:putL (rows.take k) σ=(0,σ2))(hx:rows[k]?=some x) :
  putL (rows.take (k+1)) σ=(if (fH x.1 x.2 σ2).1=0 then (0,(fH x.1 x.2 σ2).2) else fH x.1 x.2 σ2)∧((fH x.1 x.2 σ2).1≠0→putL rows σ=fH x.1 x.2 σ2):=by
 have e1:putL (rows.take (k+1)) σ=(if (fH x.1 x.2 σ2).1=0 then (0,(fH x.1 x.2 σ2).2) else fH x.1 x.2 σ2):=by
  rw [aZ,hx,dJ,qK]
  show DS.and _ ((fH x.1 x.2).and fun σ=>(0,σ)) σ=_
  unfold DS.and
  rw [hp]
  simp
 refine⟨e1,fun hne=>?_⟩
 rw [← dG (k+1) rows,qK]
 unfold DS.and
 rw [e1,if_neg hne,if_neg hne]
theorem aAo{rows:List (Nat×List UInt8)}{σ:Dv}{k:Nat}(hk:rows.length≤k):putL (rows.take k) σ=putL rows σ:=by rw [aK hk]
end Go.Proofs.YtnhnpjokpelkbaaGreat
