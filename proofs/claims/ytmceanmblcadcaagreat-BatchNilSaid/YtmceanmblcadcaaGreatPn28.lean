/- What stands on a device: it is redone by its log. -/
import Derived.Test.YtmceanmblcadcaaGreatPn27
import Derived.Test.YtmceanmblcadcaaGreatPn24
import Derived.Test.YtmceanmblcadcaaGreatPn14
set_option linter.unusedVariables false
set_option linter.unusedSimpArgs false
set_option linter.unusedSectionVars false
set_option maxHeartbeats 4000000
namespace Go.Proofs.YtmceanmblcadcaaGreat
open Go Go.Proofs.Tryz
section
attribute [local irreducible] SW SL SQ SH SA SS Pu Fin bU aP
def tA(p t:Nat)(r:Rg)(logs:List (List UInt8)):Option (UInt64×List Ent):=match lR p t logs with
 | some x=>if (x.1.toNat:Int)=r.c then some x else none
 | none=>none
theorem xM{p t:Nat}{logs:List (List UInt8)}{x:UInt64×List Ent}(h:lR p t logs=some x):oD p t x.2=true:=by
 unfold lR at h
 dsimp only at h
 split at h
 ·rename_i hc
  cases h
  exact hc.2.1
 ·cases h
theorem qU(p:Nat)(l:List Ent):∀ m:List (List UInt8),(oB p m l).length=m.length:=by
 unfold oB
 induction l with
 | nil=>intro m;rfl
 | cons x l ih=>intro m;rw [gK,ih,cT]
theorem tZ(es:List UInt64)(ts:List Nat):∀ m:List (List UInt8),(pB es m ts).length=m.length:=by
 unfold pB
 induction ts with
 | nil=>intro m;rfl
 | cons x l ih=>intro m;rw [gK,ih,cT]
theorem aAo(p:Nat)(m:List (List UInt8))(l:List Ent)(x:Ent):oB p m (l++[x])=(oB p m l).set (1+Gm.epochs p+x.1.toNat) x.2:=by unfold oB;rw [jB];rfl
theorem aAn(c:UInt64)(es:List UInt64)(l:List Ent)(x:Ent):lO c es (l++[x])=(lO c es l).set x.1.toNat c:=by unfold lO;rw [jB];rfl
theorem aAp(es:List UInt64)(m:List (List UInt8))(ts:List Nat)(t:Nat):pB es m (ts++[t])=(pB es m ts).set (1+t) (epB t es):=by unfold pB;rw [jB];rfl
theorem aEo{p t:Nat}{l:List Ent}(hm:oD p t l=true):∀ k∈gF l,k<Gm.epochs p:=by
 have hall:∀ x∈l,x.1.toNat/32<Gm.epochs p:=fun x hx=>by
  obtain⟨i,hi⟩:=dI.1 hx
  unfold oD at hm
  rw [bY] at hm
  obtain⟨h1,h2,-⟩:=oU hm.2 i x hi
  unfold Gm.epochs Gm.up
  omega
 have key:∀ (l:List Ent) (o:List Nat),(∀ x∈l,x.1.toNat/32<Gm.epochs p)→(∀ k∈o,k<Gm.epochs p)→∀ k∈l.foldl uV o,k<Gm.epochs p:=fun l=>by
  induction l with
  | nil=>intro o _ ho;exact ho
  | cons x l ih=>
   intro o hl ho
   rw [gK]
   refine ih _ (fun y hy=>hl y (cC _ hy)) fun k hk=>?_
   unfold uV at hk
   split at hk
   ·exact ho k hk
   ·rcases bQ.1 hk with h|h
    ·exact ho k h
    ·rw [cY] at h;rw [h];exact hl x (gQ ..)
 exact key l [] hall (by simp)
theorem aG5(es:List UInt64)(k:Nat)(c:UInt64):(uv es).set k (dX c)=uv (es.set k c):=gC.symm
theorem wN{vs junk:List Value}{i:Nat}(h:i<vs.length)(u:Value):(vs++junk).set i u=vs.set i u++junk:=fG _ _ h
theorem qF(p:Nat)(l:List (List UInt8)):(kW p l).length=Gm.sealed p:=by unfold kW;simp
theorem aDW{us:List Value}{l:List Ent}{junk:List Value}(h:us.length=l.length){k:Nat}{x:Ent}{u:Value}(hu:us[k]?=some u)(hx:l[k]?=some x):(((jO us l++junk).drop (k*2)).take 2)=[.int .i64 x.1,u]:=by
 have hkl:=(aD.1 hx).1
 have hle:=lH us l h
 rw [bW oQ,bM (by rw [aW];omega)]
 exact aCu hu hx
theorem aJ4{dt fp d tr s bk tb p t:Nat}(h:Gm.Ok p t){kind cnt:Int}{bv lv Lv ev tv:Value}{bss logs:List (List UInt8)}{β:Bk}{r:Rg}(hr:r.Ok){Hk Hb Hl:Hp}(hK:fB bk tb β Hk)(hB:Bls bv bss Hb)(hL:Bls lv logs Hl)(o2:One Lv)(o3:One ev)(o4:One tv)(hn:bss.length=Gm.leaves p)(hb:∀ b∈bss,b.length=256)(hln:logs.length=1+t)(hlb:∀ b∈logs,b.length=256) :
  Tri prog 232 [ptv fp] ((fp,cl (bK d tr s bk p t kind bv lv cnt Lv ev tv) 295)::(tr,cl (trc dt r) 200)::(Hk++(Hb++Hl))) (fun _=>True)
  (fun v H=>∃ bv' cnt' Lv' Hk' Hb',One Lv'∧H=(fp,cl (bK d tr s bk p t kind bv' lv cnt' Lv' ev tv) 295)::(tr,cl (trc dt r) 200)::(Hk'++(Hb'++Hl)) ∧
   match tA p t r logs with
   | none=>v=.bool false∧Bls bv' bss Hb'∧fB bk tb β Hk'
   | some x=>v=.bool true∧Bls bv' (pA p x.1 x.2 bss) Hb'∧fB bk tb (aAl β bss) Hk'):=by
 have hbo:=hB.one
 have hlo:=hL.one
 have hB0:=hB
 have hll:=Gm.leaves_le h
 have hsl:=Gm.sealed_le h
 have hel:=Gm.epochs_le h
 have hLe:Gm.leaves p=1+Gm.epochs p+Gm.sealed p:=rfl
 have ht:=h.2.2.2
 have hrd:=aAm tr dt r hr
 obtain⟨lvs,Hlv,Hlt,hSl,hRl,rfl⟩:=hL
 have hpa:=fun v=>aHc h v lvs logs hRl hln hlb
 obtain⟨la,ll,lc,rfl,-⟩:=hSl.form
 refine Tri.mk func232 rfl ntmps232 rfl fun w hw=>?_
 have hl3:(bK d tr s bk p t kind bv (.slice la ll lc) cnt Lv ev tv).length=13:=rfl
 have hq0:(rgc r)[0]?=some (.int .u64 r.c):=rfl
 unfold tA
 refine mQ ?_
 refine lE ?_
 refine W.i ?_
 refine mQ ?_
 refine bZ [0] [] (fun x:Nat×List Value×Int×Hp=>[(3,ptv x.1),(4,.int .i64 x.2.2.1)]) (fun x=>(x.1,cl x.2.1 223)::x.2.2.2)
  (fun x=>(lR p t logs=none∧x.2.2.1=4∧x.2.1=[.int .u64 0,.slice none 0 0])∨(∃ y ev us He Hb,lR p t logs=some y∧x.2.2.1=0∧x.2.1=[dX y.1,ev]∧Sl 135 2 ev (jO us y.2) He∧RB Hb us (y.2.map Prod.snd)∧x.2.2.2=He++Hb)) ?_ ?_
 ·cases hpl:lR p t logs with
  | none=>
   rw [hpl] at hpa
   (refine SW.l [] [0,1,2,3,4,5,6,7,8] ?_;skip )
   refine gT 9 13 ?_ ?_ rfl rfl
   case' refine_1=>
    refine aH (hpa _) ?_ (hpre:=fun w2 hs=>Rd.own (Hc:=Hlt) hSl hs inferInstance)
    rintro _ _ ⟨Hn,⟨rfl,rfl⟩,rfl⟩
    refine cW ?_
    refine eW 10 rfl (dW rfl rfl) ?_
    refine eW 11 rfl (tC rfl rfl rfl) ?_
    refine eW 12 rfl (tC rfl rfl rfl) ?_
    refine aU 13 ?_
    refine W.al fun b3=>?_
    refine cW ?_
   case' refine_2=>
    refine W.al fun b3=>?_
    refine cW ?_
    refine aU 9 ?_
    refine aH (hpa _) ?_ (hpre:=fun w2 hs=>Rd.own (Hc:=Hlt) hSl hs inferInstance)
    rintro _ _ ⟨Hn,⟨rfl,rfl⟩,rfl⟩
    refine cW ?_
    refine eW 10 rfl (dW rfl rfl) ?_
    refine eW 11 rfl (tC rfl rfl rfl) ?_
    refine eW 12 rfl (tC rfl rfl rfl) ?_
   all_goals
    refine aU 14 ?_
    refine W.i ?_
    refine eW 15 rfl (nH rfl rfl) ?_
    refine eH ?_
    refine bU.mk (b3,[.int .u64 0,.slice none 0 0],4,[]) ?_
    exact .inl ⟨rfl,rfl,rfl⟩
  | some y=>
   rw [hpl] at hpa
   (refine SW.l [] [0,1,2,3,4,5,6,7,8] ?_;skip )
   refine gT 9 13 ?_ ?_ rfl rfl
   case' refine_1=>
    refine aH (hpa _) ?_ (hpre:=fun w2 hs=>Rd.own (Hc:=Hlt) hSl hs inferInstance)
    rintro _ _ ⟨Hn,⟨ev2,us,He,Hbe,rfl,hSe,hRe,rfl⟩,rfl⟩
    have hSe1:=hSe.isOne
    refine cW ?_
    refine eW 10 rfl (dW rfl rfl) ?_
    refine eW 11 rfl (tC rfl rfl rfl) ?_
    refine eW 12 rfl (tC rfl rfl rfl) ?_
    refine aU 13 ?_
    refine W.al fun b3=>?_
    refine cW ?_
   case' refine_2=>
    refine W.al fun b3=>?_
    refine cW ?_
    refine aU 9 ?_
    refine aH (hpa _) ?_ (hpre:=fun w2 hs=>Rd.own (Hc:=Hlt) hSl hs inferInstance)
    rintro _ _ ⟨Hn,⟨ev2,us,He,Hbe,rfl,hSe,hRe,rfl⟩,rfl⟩
    have hSe1:=hSe.isOne
    refine cW ?_
    refine eW 10 rfl (dW rfl rfl) ?_
    refine eW 11 rfl (tC rfl rfl rfl) ?_
    refine eW 12 rfl (tC rfl rfl rfl) ?_
   all_goals
    refine aU 14 ?_
    refine W.i ?_
    refine eW 15 rfl (nH rfl rfl) ?_
    refine eH ?_
    refine bU.mk (b3,[dX y.1,ev2],0,He++Hbe) ?_
    exact .inr ⟨y,ev2,us,He,Hbe,rfl,rfl,rfl,hSe,hRe,rfl⟩
 rintro⟨b3,lc3,e3,Hn⟩ hP
 dsimp only at hP ⊢
 rcases hP with ⟨hpl,rfl,rfl⟩|⟨⟨c,es⟩,ev2,us,He,Hbe,hpl,rfl,rfl,hSe,hRe,rfl⟩
 ·rw [hpl]
  refine W.k ?_
  (refine SW.l [] [0,1,2,3,4,5,6,7,8,9] ?_;(first|refine dU 10 rfl ?_;refine SG.l [11,12,13,14] ?_|refine aU 10 ?_))
  refine W.k ?_
  refine Fin.to ((fp,cl (bK d tr s bk p t kind bv (.slice la ll lc) cnt Lv ev tv) 295)::(tr,cl (trc dt r) 200)::(Hk++(Hb++(Hlv++Hlt)))) ?_
  exact F.f1 ⟨bv,cnt,Lv,Hk,Hb,o2,rfl,rfl,hB0,hK⟩
 have hSe1:=hSe.isOne
 have hmay:=xM hpl
 rw [hpl]
 dsimp only at hSe hRe hmay ⊢
 by_cases hc:¬ (c.toNat:Int)=r.c
 ·rw [if_neg hc]
  refine W.k ?_
  (refine SW.l [] [0,1,2,3,4,5,6,7,8,9] ?_;(first|refine dU 10 rfl ?_;refine SG.l [11,12,13,14] ?_|refine aU 10 ?_))
  refine W.cq hrd ?_
  (refine SL.l [11,12,13,14] ?_)
  refine W.k ?_
  refine Fin.to ((fp,cl (bK d tr s bk p t kind bv (.slice la ll lc) cnt Lv ev tv) 295)::(tr,cl (trc dt r) 200)::(Hk++(Hb++(Hlv++Hlt)))) ?_
  exact F.f1 ⟨bv,cnt,Lv,Hk,Hb,o2,rfl,rfl,hB0,hK⟩
 have hc2:(c.toNat:Int)=r.c:=Decidable.not_not.1 hc
 rw [if_pos hc2]
 dsimp only
 refine W.k ?_
 (refine SW.l [] [0,1,2,3,4,5,6,7,8,9] ?_;(first|refine dU 10 rfl ?_;refine SG.l [11,12,13,14] ?_|refine aU 10 ?_))
 refine W.cq hrd ?_
 (refine SL.l [11,12,13,14] ?_)
 refine W.k ?_
 rw [show List.take 9 (bK d tr s bk p t kind bv (.slice la ll lc) cnt Lv ev tv)++[dX c,ev2]++List.drop (9+2) (bK d tr s bk p t kind bv (.slice la ll lc) cnt Lv ev tv)=bK d tr s bk p t kind bv (.slice la ll lc) (c.toNat:Int) ev2 ev tv from rfl]
 have hpt:=xN (fp:=fp) (d:=d) (tr:=tr) (s:=s) (kind:=kind) (cnt:=(c.toNat:Int)) (lv:=.slice la ll lc) (Lv:=ev2) (ev:=ev) (tv:=tv) h hK hB inferInstance hSe1 o3 o4 hn hb
 rw [aDX bss hb oQ] at hpt
 refine aH hpt ?_
 rintro _ _ ⟨tp,be,Htr,Hk2,rfl,rfl,-,hK2⟩
 clear hpt hpa hrd
 obtain⟨vs,Hv,Ht0,hS,hR,rfl⟩:=hB
 have hvl:=hR.1
 rcases hS with ⟨-,hz,-⟩|⟨bb,len,cap,junk,rfl,hxl,hj,hlc,rfl⟩
 ·rw [hz] at hvl;simp at hvl;omega
 have hesl:1≤es.length∧es.length≤t:=by unfold oD at hmay;rw [bY,decide_eq_true_iff] at hmay;exact hmay.1
 have hmall:∀ (k:Nat) (x:Ent),es[k]?=some x → -1<x.1∧x.1<(Gm.sealed p:Nat)∧x.2.length=256:=by unfold oD at hmay;rw [bY] at hmay;exact oU hmay.2
 have htlt:=aEo hmay
 have htle:=zC es
 have hul:us.length=es.length:=by rw [hRe.1,aJ]
 have hoc:=hRe.oc
 have hebl:=qF p bss
 have hSe0:=hSe
 have hel2:=lH us es hul
 rcases hSe with ⟨-,hz,-⟩|⟨eb,elen,ecap,ejunk,rfl,hexl,hej,hec,rfl⟩
 ·rw [hz] at hel2;simp at hel2;omega
 obtain rfl:elen=es.length:=by omega
 obtain rfl:len=vs.length:=by omega
 have hredo:pA p c es bss=pB (lO c (kW p bss) es) (oB p bss es) (gF es):=rfl
 rw [hredo]
 clear hredo hB0 hmay hc hpl
 generalize kW p bss=E0 at *
 refine W.j ?_
 refine bZ [0,6] [(bb,cl (vs++junk) 23),(be,cl (uv E0) 33)] (fun _:List Value=>[]) (fun y=>[(bb,cl (y++junk) 23),(be,cl (uv (lO c E0 es)) 33)]) (fun y=>RB (Ht0++Hbe) y (oB p bss es)) ?_ ?_
 ·rw [show uv E0=uv (lO c E0 (es.take 0)) from rfl]
  refine W.k ?_
  refine bH [0,3,6,50,51] (fun y:Nat×List Value=>[(52,.int .i64 (y.1:Int))]) (fun y=>[(bb,cl (y.2++junk) 23),(be,cl (uv (lO c E0 (es.take y.1))) 33)]) (fun y=>es.length-y.1) (fun y=>y.1≤es.length∧RB (Ht0++Hbe) y.2 (oB p bss (es.take y.1))) (0,vs) ⟨Nat.zero_le _,hR.mono fun x hx=>aT _ hx⟩ ?_
  rintro⟨k,vs2⟩ ⟨hk,hR2⟩
  dsimp only at hk hR2 ⊢
  have hvl2:=hR2.1
  rw [qU,hn] at hvl2
  have hoc2:=hR2.oc
  by_cases hkn:k<es.length
  ·have hx:=aA hkn
   have htk:es.take (k+1)=es.take k++[es[k]]:=by rw [bG,hx];rfl
   obtain⟨u,huk,hru⟩:=hRe.2 k es[k].2 (by rw [aL,hx];rfl)
   have hrow:=aDW (junk:=ejunk) hul huk hx
   obtain⟨hx1,hx2,hx3⟩:=hmall k _ hx
   have hSs:=aAo p bss (es.take k) es[k]
   have hEs:=aAn c E0 (es.take k) es[k]
   rw [← htk] at hSs hEs
   have hEl:=tY c (es.take k) E0
   have huo:=hru.one
   generalize es[k]=x at *
   obtain⟨K,hKK⟩:∃ K:Nat,x.1=(K:Int):=⟨x.1.toNat,by omega⟩
   rw [show x.1.toNat=K by omega] at hSs hEs
   rw [hKK] at hrow
   have hsa:=sX h (K:Int)
   rw [show Gm.atK (Gm.sealed p) (1+Gm.epochs p) (K:Int)=((1+Gm.epochs p+K:Nat):Int) by unfold Gm.atK;rw [if_pos oQ];omega] at hsa
   have hset:=wN (vs:=vs2) (junk:=junk) (i:=1+Gm.epochs p+K) oQ u
   have hset2:=aG5 (lO c E0 (es.take k)) K c
   rw [← hEs] at hset2
   have hlt1:1+Gm.epochs p+K<(vs2++junk).length:=by rw [aB];omega
   have hlt2:K<(uv (lO c E0 (es.take k))).length:=by rw [iA,hEl];omega
   refine W.k fun b_=>?_
   (refine SW.l [] [0,1,2,3,4,5,6,7,8,9,10,12,13] ?_;refine aU 11 ?_)
   refine W.cq hsa ?_
   (refine SL.l [14] ?_;refine aU 15 ?_;refine W.i ?_;refine eH ?_)
   rw [hset]
   refine W.k ?_
   rw [hset2]
   refine aP.mk (k+1,vs2.set (1+Gm.epochs p+K) u) ?_
   refine⟨hkn,?_⟩
   dsimp only
   rw [hSs]
   exact hR2.set (hru.mono fun x hx=>aN _ hx) _
  ·have hkl:k=es.length:=oQ
   rw [hkl,cK] at hR2 ⊢
   subst hkl
   refine W.k ?_
   refine bU.mk vs2 ?_
   exact hR2
 rintro vs2 hR2
 have hEl:=tY c es E0
 have hmt:=aEU (fp:=fp) (d:=d) (tr:=tr) (s:=s) (bk:=bk) (p:=p) (t:=t) (kind:=kind) (cnt:=(c.toNat:Int)) (bv:=.slice (some ⟨bb,0,none⟩) vs.length cap) (lv:=.slice la ll lc) (ev:=ev) (tv:=tv) us es hul hoc (fun x hx=>by
  obtain⟨i,hi⟩:=dI.1 hx
  have:=hmall i x hi
  omega) oQ hSe0 inferInstance inferInstance o3 o4
 have hvl2:=hR2.1
 rw [qU,hn] at hvl2
 generalize lO c E0 es=E1 at *
 generalize oB p bss es=M1 at *
 refine W.k ?_
 refine aH hmt ?_
 rintro v79 _ ⟨Hn,hSt,rfl⟩
 have hSt1:=hSt.isOne
 obtain⟨ta,tl,tc2,rfl,htl⟩:=hSt.form
 rw [Nat.mul_one,aJ] at htl
 subst htl
 refine W.j ?_
 refine bZ [] [(bb,cl (vs2++junk) 23)] (fun _:List Value×Hp=>[]) (fun y=>(bb,cl (y.1++junk) 23)::y.2) (fun y=>RB ((Ht0++Hbe)++y.2) y.1 (pB E1 M1 (gF es))) ?_ ?_
 ·refine W.k ?_
  refine bH [0,6,79,80] (fun y:Nat×List Value×Hp=>[(81,.int .i64 (y.1:Int))]) (fun y=>(bb,cl (y.2.1++junk) 23)::y.2.2) (fun y=>(gF es).length-y.1) (fun y=>y.1≤(gF es).length∧RB ((Ht0++Hbe)++y.2.2) y.2.1 (pB E1 M1 ((gF es).take y.1))) (0,vs2,[]) ⟨Nat.zero_le _,by rw [aE];exact hR2⟩ ?_
  rintro⟨k,vs3,Hn3⟩ ⟨hk,hR3⟩
  dsimp only at hk hR3 ⊢
  have hvl3:=hR3.1
  rw [tZ] at hvl3
  have hM1:=hR2.1
  have hoc3:=hR3.oc
  by_cases hkn:k<(gF es).length
  ·rcases hSt with ⟨hz,hz2,-⟩|⟨qb,qlen,qcap,qjunk,hz,hqxl,hqj,hqc,rfl⟩
   ·simp only [Value.slice.injEq] at hz;omega
   simp only [Value.slice.injEq] at hz
   obtain⟨rfl,rfl,rfl⟩:=hz
   have hx:=aA hkn
   have hlu:(nv (gF es)++qjunk)[k]?=some (.int .i64 (((gF es)[k]:Nat):Int)):=by
    rw [aK (by rw [aJ];exact hkn),aL,hx];rfl
   have htk:(gF es).take (k+1)=(gF es).take k++[(gF es)[k]]:=by rw [bG,hx];rfl
   have hlt:=htlt _ (dO hkn)
   have hTs:=aAp E1 M1 ((gF es).take k) (gF es)[k]
   rw [← htk] at hTs
   generalize (gF es)[k]=q at *
   have hsb:=aCW h q hlt (.slice (some ⟨be,0,none⟩) (Gm.sealed p) (Gm.sealed p)) E1 oQ
   have hea:=aAb h (q:Int)
   rw [show Gm.atK (Gm.epochs p) 1 (q:Int)=((1+q:Nat):Int) by unfold Gm.atK;rw [if_pos oQ];omega] at hea
   have hlt1:1+q<(vs3++junk).length:=by rw [aB];omega
   refine W.k ?_
   refine aH hsb ?_ (hpre:=fun w2 hs=>Rd.own (Hc:=[]) (Sl.own 33 1 be (len:=Gm.sealed p) (xs:=uv E1) (by rw [iA];omega)) hs inferInstance)
   rintro _ _ ⟨b5,rfl,rfl⟩
   have hset:=wN (vs:=vs3) (junk:=junk) (i:=1+q) oQ (.slice (some ⟨b5,0,none⟩) 256 256)
   refine W.k ?_
   (refine SW.l [] [0,1,2,3,4,5,6,7,8,9,11] ?_;refine aU 10 ?_)
   refine W.cq hea ?_
   (refine SL.l [12] ?_;refine aU 13 ?_;refine W.i ?_;refine eH ?_)
   rw [hset]
   refine W.k ?_
   refine aP.mk (k+1,vs3.set (1+q) (.slice (some ⟨b5,0,none⟩) 256 256),(b5,cl (cbs (epB q E1)) 5)::Hn3) ?_
   refine⟨hkn,?_⟩
   dsimp only
   rw [hTs]
   refine (hR3.mono fun x hx=>?_).set ((RdH.of (Sl.own 5 1 b5 (len:=256) (xs:=cbs (epB q E1)) (by rw [aF,yT]))).mono fun x hx=>?_) _
   ·rcases bQ.1 hx with h|h
    ·exact aT _ h
    ·exact aN _ (cC _ h)
   ·rw [cY] at hx
    subst hx
    exact aN _ (gQ ..)
  ·have hkl:k=(gF es).length:=oQ
   rw [hkl,cK] at hR3
   subst hkl
   refine W.k ?_
   refine bU.mk (vs3,Hn3) ?_
   exact hR3
 rintro⟨vs3,Hn3⟩ hR3
 dsimp only at hR3 ⊢
 have hvl3:=hR3.1
 rw [tZ,hR2.1.symm.trans hvl2] at hvl3
 refine W.k ?_
 refine Fin.to ((fp,cl (bK d tr s bk p t kind (.slice (some ⟨bb,0,none⟩) vs.length cap) (.slice la ll lc) (c.toNat:Int) (.slice (some ⟨eb,0,none⟩) es.length ecap) ev tv) 295)::(tr,cl (trc dt r) 200)::(Hk2++(([(bb,cl (vs3++junk) 23)]++((Ht0++Hbe)++Hn3))++(Hlv++Hlt)))) ?_
 refine F.f1 ⟨_,_,_,Hk2,_,inferInstance,rfl,rfl,⟨vs3,_,_,?_,hR3,rfl⟩,hK2⟩
 exact .inr ⟨bb,vs.length,cap,junk,rfl,by omega,hj,hlc,rfl⟩
def wA(l:List Ent)(k:Nat):Int:=if k=0 then -1 else (l.getD (k-1) (0,[])).1
theorem aId{p t:Nat}(h:Gm.Ok p t)(c:UInt64)(v:Value)(us:List Value)(l:List Ent)(hL:LE us l)(hn:l.length≤1000000) :
  Tri prog 23 [jQ p t,.agg #[dX c,v]] [] (fun w=>Rd [] w 2 v (jO us l)) (fun r H=>r=.bool (oD p t l)∧H=[]):=by
 refine Tri.mk func23 rfl ntmps23 rfl fun w hw=>?_
 have hmy:=aBL h
 have hse:=pC h
 unfold jO at hw
 obtain⟨a,ca,rfl,hcap,hg⟩:=hw.rows dQ (pE us l)
 have hzl:(List.zipWith (fun u (x:Ent)=>[Value.int .i64 x.1,u]) us l).length=l.length:=by rw [iE,hL.1,jV]
 rw [hzl] at hcap ⊢
 have hY:One (Value.slice a l.length ca):=⟨rfl⟩
 unfold oD
 by_cases h1:l.length<1
 ·rw [decide_eq_false oQ,eZ]
  refine W.k fun _ b_=>?_
  refine W.cw hmy ?_
  exact F.n
 by_cases h2:t<l.length
 ·rw [decide_eq_false oQ,eZ]
  refine W.k fun _ b_=>?_
  refine W.cw hmy ?_
  exact F.n
 rw [decide_eq_true oQ,kA]
 refine W.k fun _ b_=>?_
 refine W.cq hmy ?_
 refine W.j ?_
 refine bZ [] [] (fun _:Unit=>[]) (fun _=>[]) (fun _=>vC p (-1) l=true) ?_ ?_
 ·refine W.k ?_
  refine bH [2,3,25,26] (fun k:Nat=>[(27,.int .i64 (k:Int))]) (fun _=>[]) (fun k=>l.length-k) (fun k=>(k≤l.length ∧ -1≤wA l k)∧vC p (-1) l=vC p (wA l k) (l.drop k)) 0 ⟨⟨Nat.zero_le _,Int.le_refl _⟩,rfl⟩ ?_
  rintro k ⟨⟨hk,hla⟩,hm⟩
  by_cases hkn:k<l.length
  ·have hx:=aA hkn
   have hlk:wA l (k+1)=l[k].1:=by unfold wA;rw [if_neg oQ,Nat.add_sub_cancel,aC,hx];rfl
   rw [bS hkn,tU] at hm
   obtain⟨a2,cap2,hz⟩:=hL.at hx
   obtain⟨pb,po,lv,T,fz,rfl,hb,hkK,hv⟩:=hg k _ hz
   have hprev:k≠0→lv[po+(k-1)*2]?=some (.int .i64 (wA l k)):=fun hk0=>by
    have hx2:=aA (show k-1<l.length by omega)
    obtain⟨a3,cap3,hz3⟩:=hL.at hx2
    obtain⟨pb2,po2,lv2,T2,fz2,he,hb2,-,hv2⟩:=hg (k-1) _ hz3
    cases he
    rw [hb] at hb2
    cases hb2
    have h0:((lv.drop (po+(k-1)*2)).take 2)[0]?=some (.int .i64 l[k-1].1):=by rw [hv2];rfl
    rw [bB,if_pos dQ,bA,jD] at h0
    rw [h0]
    unfold wA
    rw [if_neg hk0,aC,hx2]
    rfl
   have hl0:k=0→wA l k = -1:=fun h=>by unfold wA;rw [if_pos h]
   generalize wA l k=last at *
   generalize l[k]=x at *
   by_cases c0:x.1<0
   ·rw [decide_eq_false oQ,eZ] at hm
    rw [hm]
    refine W.k fun b_=>?_
    (refine SW.l [] [0,1,2,3,4,5,6] ?_;(first|refine dU 7 rfl ?_;refine SG.l [8,9,10,11,12,13,14,15,16,17,18,19,20,21,22,23,24,25,26,27,28,29,30,31,32] ?_|refine aU 7 ?_))
    refine W.k ?_
    exact F.n
   by_cases c1:(Gm.sealed p:Nat)≤x.1
   ·rw [decide_eq_false oQ,eZ] at hm
    rw [hm]
    refine W.k fun b_=>?_
    (refine SW.l [] [0,1,2,3,4,5,6] ?_;(first|refine dU 7 rfl ?_;refine SG.l [8,9,10,11,12,13,14,15,16,17,18,19,20,21,22,23,24,25,26,27,28,29,30,31,32] ?_|refine aU 7 ?_))
    refine W.cq hse ?_
    (refine SL.l [8,9,10,11,12,13,14,15,16,17,18,19,20,21,22,23,24,25,26,27,28,29,30,31,32] ?_)
    refine W.k ?_
    exact F.n
   by_cases c2:¬ x.2.length=256
   ·rw [decide_eq_false oQ,eZ] at hm
    rw [hm]
    refine W.k fun b_=>?_
    (refine SW.l [] [0,1,2,3,4,5,6] ?_;(first|refine dU 7 rfl ?_;refine SG.l [8,9,10,11,12,13,14,15,16,17,18,19,20,21,22,23,24,25,26,27,28,29,30,31,32] ?_|refine aU 7 ?_))
    refine W.cq hse ?_
    (refine SL.l [8,9,10,11,12,13,14,15,16,17,18,19,20,21,22,23,24,25,26,27,28,29,30,31,32] ?_)
    refine W.k ?_
    exact F.n
   have c3:x.2.length=256:=Decidable.not_not.1 c2
   by_cases hk0:k=0
   ·have hlm:=hl0 hk0
    rw [decide_eq_true oQ,kA] at hm
    refine W.k fun b_=>?_
    (refine SW.l [] [0,1,2,3,4,5,6] ?_;(first|refine dU 7 rfl ?_;refine SG.l [8,9,10,11,12,13,14,15,16,17,18,19,20,21,22,23,24,25,26,27,28,29,30,31,32] ?_|refine aU 7 ?_))
    refine W.cq hse ?_
    (refine SL.l [8,9,10,11,12,13,14,15,16,17,18,19,20,21,22,23,24,25,26,27,28,29,30,31,32] ?_)
    refine W.k ?_
    refine aP.mk (k+1) ?_
    rw [hlk]
    exact⟨⟨hkn,by omega⟩,hm⟩
   ·have hpv:=hprev hk0
    by_cases c4:x.1≤last
    ·rw [decide_eq_false oQ,eZ] at hm
     rw [hm]
     haveI:dK ((k:Int)-1) (k-1):=⟨by omega⟩
     refine W.k fun b_=>?_
     (refine SW.l [] [0,1,2,3,4,5,6] ?_;(first|refine dU 7 rfl ?_;refine SG.l [8,9,10,11,12,13,14,15,16,17,18,19,20,21,22,23,24,25,26,27,28,29,30,31,32] ?_|refine aU 7 ?_))
     refine W.cq hse ?_
     (refine SL.l [8,9,10,11,12,13,14,15,16,17,18,19,20,21,22,23,24,25,26,27,28,29,30,31,32] ?_)
     refine W.k ?_
     exact F.n
    ·rw [decide_eq_true oQ,kA] at hm
     haveI:dK ((k:Int)-1) (k-1):=⟨by omega⟩
     refine W.k fun b_=>?_
     (refine SW.l [] [0,1,2,3,4,5,6] ?_;(first|refine dU 7 rfl ?_;refine SG.l [8,9,10,11,12,13,14,15,16,17,18,19,20,21,22,23,24,25,26,27,28,29,30,31,32] ?_|refine aU 7 ?_))
     refine W.cq hse ?_
     (refine SL.l [8,9,10,11,12,13,14,15,16,17,18,19,20,21,22,23,24,25,26,27,28,29,30,31,32] ?_)
     refine W.k ?_
     refine aP.mk (k+1) ?_
     rw [hlk]
     exact⟨⟨hkn,by omega⟩,hm⟩
  ·have hkl:k=l.length:=oQ
   rw [hkl,pY] at hm
   subst hkl
   refine W.k ?_
   refine bU.mk () ?_
   exact hm
 rintro _ hm
 rw [hm]
 refine W.k ?_
 exact F.n
theorem aIc(c:UInt64)(v:Value)(us:List Value)(l:List Ent){Ht:Hp}(hR:RB Ht us (l.map Prod.snd))(hn:l.length≤100) :
  Tri prog 274 [.agg #[dX c,v]] [] (fun w=>Rd [] w 2 v (jO us l))
   (fun r H=>∃ u0 Hv Hn,Sl 23 1 r (u0::us) Hv∧RdH Hn u0 (qJ c l)∧H=Hv++Hn):=by
 refine Tri.mk func274 rfl ntmps274 rfl fun w hw=>?_
 have hL:=hR.le
 have hoc:=hR.oc
 unfold jO at hw
 obtain⟨a,ca,rfl,hcap,hg⟩:=hw.rows dQ (pE us l)
 have hzl:(List.zipWith (fun u (x:Ent)=>[Value.int .i64 x.1,u]) us l).length=l.length:=by rw [iE,hL.1,jV]
 rw [hzl] at hcap ⊢
 have hY:One (Value.slice a l.length ca):=⟨rfl⟩
 have hp1:=tG 8 c oQ
 have hp2:=tG 2 (UInt64.ofNat l.length) oQ
 have hp3:=fun (x:Ent)=>tG 2 (UInt64.ofInt x.1) oQ
 have hfn:(lV c l.length).length=18:=by simp [lV,dD,nJ]
 have hpd:=fun v=>aGE v (lV c l.length++kK l) 256 dQ
 rw [show pad 256 (lV c l.length++kK l)=qJ c l from rfl] at hpd
 have hb9:bP (fun i=>some (i*1,1)) (zs [.int .u8 0] 8) [(0,.int .u8 82),(1,.int .u8 69),(2,.int .u8 68),(3,.int .u8 79),(4,.int .u8 45),(5,.int .u8 76),(6,.int .u8 79),(7,.int .u8 71)]=some (cbs nJ):=bsR
 refine W.k fun _ b_=>?_
 generalize b_=b1 at *
 refine aH hp1 ?_
 intro v2 H2 h2
 have h21:=h2.isOne
 obtain⟨a2,l2,c2,rfl,hl2⟩:=h2.form
 obtain rfl:l2=8:=(by rw [aF,dD] at hl2;omega)
 refine W.k ?_
 refine aIx (xs:=cbs nJ) (ys:=cbs (leN 8 c)) (mm:=8) (fun w2 hs=>(Rd.atB (K:=[]) (Hc:=[]) (b:=b1) (len:=8) (cap:=8) (T:=5) (fz:=((cbs nJ).length,(cbs nJ).length+1)) nJ hs rfl (Nat.le_refl _)).srcW) (fun w2 hs=>h2.srcAt hs inferInstance) (fun v3 H3 h3=>?_) (hxs:=rfl) (hys:=by rw [aF,dD]) (hbytes:=by rw [aF,aF,dD];simp [nJ])
 have h31:=h3.isOne
 rw [← gU] at h3
 refine W.k ?_
 refine dL hp2 rfl ?_
 intro v4 H4 h4
 have h41:=h4.isOne
 obtain⟨a4,l4,c4,rfl,hl4⟩:=h4.form
 obtain rfl:l4=2:=(by rw [aF,dD] at hl4;omega)
 refine W.k ?_
 refine W.ap h3 (ys:=cbs (leN 2 (UInt64.ofNat l.length))) (mm:=2) (fun w2 hs=>h4.srcAt hs inferInstance) (fun v5 H5 h5=>?_) (hys:=by rw [aF,dD]) (hbytes:=by rw [aF,aF,aB,dD,dD];simp [nJ])
 have h51:=h5.isOne
 rw [show cbs (nJ++leN 8 c)++cbs (leN 2 (UInt64.ofNat l.length))=cbs (lV c l.length) by unfold lV;simp] at h5
 refine W.j ?_
 refine bZ [1] H5 (fun x:Value×Hp=>[(3,x.1)]) (fun x=>x.2) (fun x=>Sl 5 1 x.1 (cbs (lV c l.length++kK l)) x.2) ?_ ?_
 ·refine W.k ?_
  refine bH [1,24,25] (fun x:Nat×Value×Hp=>[(3,x.2.1),(26,.int .i64 (x.1:Int))]) (fun x=>x.2.2) (fun x=>l.length-x.1) (fun x=>x.1≤l.length∧Sl 5 1 x.2.1 (cbs (lV c l.length++kK (l.take x.1))) x.2.2) (0,v5,H5) ⟨Nat.zero_le _,by rw [dF,show kK []=[] from rfl,aE];exact h5⟩ ?_
  rintro⟨k,v6,H6⟩ ⟨hk,h6⟩
  dsimp only at hk h6 ⊢
  have h61:=h6.isOne
  by_cases hkn:k<l.length
  ·have hx:=aA hkn
   obtain⟨a2,cap2,hz⟩:=hL.at hx
   obtain⟨pb,po,lv,T,fz,rfl,hb,hkK,hv⟩:=hg k _ hz
   have hts:kK (l.take (k+1))=kK (l.take k)++leN 2 (UInt64.ofInt l[k].1):=by unfold kK;rw [bG,hx,cO];simp
   have htl:(kK (l.take k)).length=2*k:=by rw [xJ,aI];omega
   generalize l[k]=x at *
   haveI:=cvK x.1
   refine W.k fun b_=>?_
   refine aH (hp3 x) ?_
   intro v7 H7 h7
   have h71:=h7.isOne
   obtain⟨a7,l7,c7,rfl,hl7⟩:=h7.form
   obtain rfl:l7=2:=(by rw [aF,dD] at hl7;omega)
   refine W.k ?_
   refine W.ap h6 (ys:=cbs (leN 2 (UInt64.ofInt x.1))) (mm:=2) (fun w2 hs=>h7.srcAt hs inferInstance) (fun v8 H8 h8=>?_) (hys:=by rw [aF,dD]) (hbytes:=by rw [aF,aF,aB,hfn,htl,dD];omega)
   have h81:=h8.isOne
   rw [show cbs (lV c l.length++kK (l.take k))++cbs (leN 2 (UInt64.ofInt x.1))=cbs (lV c l.length++kK (l.take (k+1))) by rw [hts];simp] at h8
   refine W.k ?_
   refine aP.mk (k+1,v8,H8) ?_
   exact⟨hkn,h8⟩
  ·have hkl:k=l.length:=oQ
   rw [hkl,cK] at h6
   subst hkl
   refine W.k ?_
   refine bU.mk (v6,H6) ?_
   exact h6
 rintro⟨v6,H6⟩ h6
 dsimp only at h6 ⊢
 have h61:=h6.isOne
 refine W.k ?_
 refine aH (hpd v6) ?_ (hpre:=fun w2 hs=>Rd.own (Hc:=[]) h6 hs inferInstance)
 intro v8 H8 h8
 have h81:=h8.isOne
 have h8R:=RdH.of h8
 obtain⟨a8,l8,c8,rfl,-⟩:=h8.form
 have hb39:bP (fun i=>some (i*1,1)) (zs [.slice none 0 0] 1) [(0,.slice a8 l8 c8)]=some [.slice a8 l8 c8]:=rfl
 refine W.j fun b_=>?_
 generalize b_=b2 at *
 have hE0:Sl 23 1 (.slice (some ⟨b2,0,none⟩) 1 1) ([.slice a8 l8 c8]++us.take 0) [(b2,cl [.slice a8 l8 c8] 23)]:=Sl.own _ 1 b2 (len:=1) rfl
 refine bZ [] [(b2,cl [.slice a8 l8 c8] 23)] (fun x:Value×Hp=>[(6,x.1)]) (fun x=>x.2) (fun x=>Sl 23 1 x.1 (.slice a8 l8 c8::us) x.2) ?_ ?_
 ·refine W.k ?_
  refine bH [41,42] (fun x:Nat×Value×Hp=>[(6,x.2.1),(43,.int .i64 (x.1:Int))]) (fun x=>x.2.2) (fun x=>l.length-x.1) (fun x=>x.1≤l.length∧Sl 23 1 x.2.1 ([.slice a8 l8 c8]++us.take x.1) x.2.2) (0,.slice (some ⟨b2,0,none⟩) 1 1,[(b2,cl [.slice a8 l8 c8] 23)]) ⟨Nat.zero_le _,hE0⟩ ?_
  rintro⟨k,v9,H9⟩ ⟨hk,h9⟩
  dsimp only at hk h9 ⊢
  have h91:=h9.isOne
  by_cases hkn:k<l.length
  ·have hx:=aA hkn
   obtain⟨a2,cap2,hu⟩:=hL.2 k _ hx
   have hz:(List.zipWith (fun u (x:Ent)=>[Value.int .i64 x.1,u]) us l)[k]?=some [.int .i64 l[k].1,.slice a2 l[k].2.length cap2]:=by rw [fP,hu,hx]
   obtain⟨pb,po,lv,T,fz,rfl,hb,hkK,hv⟩:=hg k _ hz
   have hut:us.take (k+1)=us.take k++[.slice a2 l[k].2.length cap2]:=by rw [bG,hu];rfl
   have hul:(us.take k).length=k:=by rw [aI,hL.1];omega
   generalize l[k]=x at *
   have hb50:bP (fun i=>some (i*1,1)) (zs [.slice none 0 0] 1) [(0,.slice a2 x.2.length cap2)]=some [.slice a2 x.2.length cap2]:=rfl
   refine W.k fun _ b_=>?_
   refine W.ap h9 (ys:=[.slice a2 x.2.length cap2]) (mm:=1) (fun w2 hs=>(Sl.own 23 1 b_ (xs:=[.slice a2 x.2.length cap2]) rfl).srcAt hs inferInstance) (fun v10 H10 h10=>?_) (hys:=rfl) (hbytes:=by rw [aB,hul];simp;omega)
   have h101:=h10.isOne
   rw [bF,← hut] at h10
   refine W.k ?_
   refine aP.mk (k+1,v10,H10) ?_
   exact⟨hkn,h10⟩
  ·have hkl:k=l.length:=oQ
   rw [hkl,← hL.1,cK] at h9
   subst hkl
   refine W.k ?_
   refine bU.mk (v9,H9) ?_
   exact h9
 rintro⟨v9,H9⟩ h9
 dsimp only at h9 ⊢
 have h91:=h9.isOne
 refine W.k ?_
 refine Fin.to (H9++H8) ?_
 exact F.f1 ⟨_,H9,H8,h9,h8R,rfl⟩
def aFr(Ht:Hp)(o:Option (UInt64×List Ent))(r:Value)(H:Hp):Prop:=match o with
 | none=>r=.tuple #[.agg #[.int .u64 0,.slice none 0 0],.bool false]∧H=[]
 | some x=>∃ ev us,r=.tuple #[.agg #[dX x.1,ev],.bool true]∧Sl 72 2 ev (jO us x.2) H∧RB Ht us (x.2.map Prod.snd)
theorem aE9{p t:Nat}(h:Gm.Ok p t)(v:Value)(vs:List Value)(logs:List (List UInt8)){Ht:Hp}(hR:RB Ht vs logs)(hn:logs.length=1+t)(hb:∀ b∈logs,b.length=256) :
  Tri prog 236 [jQ p t,v] Ht (fun w=>Rd (Ht.map Prod.fst) w 1 v vs) (fun r H=>∃ Hn,aFr Ht (lR p t logs) r Hn∧H=Hn++Ht):=by
 refine Tri.mk func236 rfl ntmps236 rfl fun w hw=>?_
 have ht:=h.2.2.2
 have hw0:=hw
 obtain⟨a,la,ca,rfl,hl1,hc1,hr1⟩:=hw.get
 rw [Nat.mul_one,hR.1] at hl1
 subst hl1
 have hY:One (Value.slice a logs.length ca):=⟨rfl⟩
 obtain⟨bb,o,l,T,fz,rfl,hbh,hkK,hy⟩:=hr1 oQ
 have hat:∀ k,k<logs.length→∃ u,l[o+k]?=some u∧RdH Ht u (logs.getD k []):=fun k hk=>by
  obtain⟨u,hu1,hu2⟩:=hR.2 k _ (aA hk)
  refine⟨u,?_,by rw [aC,aA hk];exact hu2⟩
  have h2:((l.drop o).take (logs.length*1))[k]?=vs[k]?:=by rw [hy]
  rw [bB,if_pos oQ,bA,hu1] at h2
  exact h2
 have h256:∀ k,k<logs.length→(logs.getD k []).length=256:=fun k hk=>by
  rw [aC,aA hk];exact hb _ (dO hk)
 obtain⟨u0,hu0,hr0⟩:=hat 0 oQ
 have hx256:=h256 0 oQ
 have hpar:lR p t logs=if iJ (((logs.getD 0 []).drop 16).take 2)≤t∧oD p t (gX (logs.getD 0 []) logs (iJ (((logs.getD 0 []).drop 16).take 2)))=true∧qJ (vB (((logs.getD 0 []).drop 8).take 8)) (gX (logs.getD 0 []) logs (iJ (((logs.getD 0 []).drop 16).take 2)))=logs.getD 0 [] then some (vB (((logs.getD 0 []).drop 8).take 8),gX (logs.getD 0 []) logs (iJ (((logs.getD 0 []).drop 16).take 2))) else none:=rfl
 rw [hpar]
 clear hpar
 generalize hX:logs.getD 0 []=x at *
 have h0o:=hr0.one
 have hr00:=hr0
 obtain⟨ua,ul,uc,rfl,-⟩:=hr00
 obtain⟨hul,huc⟩:=hr0.len
 have hcut1:=hr0.cut uc 8 16 (uc-8) oQ oQ oQ oQ
 have hcut2:=hr0.cut uc 16 18 (uc-16) oQ oQ oQ oQ
 rw [show 16-8=8 from rfl] at hcut1
 rw [show 18-16=2 from rfl] at hcut2
 have hco1:=hcut1.one
 have hco2:=hcut2.one
 have hg1:=aBJ (.slice (jX ua uc 8 1) 8 (uc-8)) ((x.drop 8).take 8) (by rw [aI];omega)
 have hg2:=aBJ (.slice (jX ua uc 16 1) 2 (uc-16)) ((x.drop 16).take 2) (by rw [aI];omega)
 refine W.k fun _ b_=>?_
 refine W.sG (l:=8) (h:=16) ?_ (i0:=⟨rfl⟩) (i1:=⟨rfl⟩)
 rw [show 16-8=8 from rfl]
 refine W.k ?_
 refine W.cq hg1 ?_ (hpre:=fun w2 hs=>hcut1.rd (Hc:=[]) hs)
 have hu:Value.int .u64 ((iJ ((x.drop 8).take 8):Nat):Int)=dX (vB ((x.drop 8).take 8)):=by unfold dX;rw [vZ]
 rw [hu]
 clear hu
 generalize vB ((x.drop 8).take 8)=c at *
 have hb39:bP (fun i=>[(0,1),(1,1)][i]?) [.int .u64 0,.slice none 0 0] [(0,dX c)]=some [dX c,.slice none 0 0]:=rfl
 refine W.k fun b_=>?_
 generalize b_=b9 at *
 refine W.sG (l:=16) (h:=18) ?_ (i0:=⟨rfl⟩) (i1:=⟨rfl⟩)
 rw [show 18-16=2 from rfl]
 refine W.k ?_
 refine W.cq hg2 ?_ (hpre:=fun w2 hs=>hcut2.rd (Hc:=[]) hs)
 have hnl:iJ ((x.drop 16).take 2)<65536:=aBx (by rw [aI];omega)
 generalize iJ ((x.drop 16).take 2)=n at *
 haveI:Cv .i64 (n:Int) (n:Int):=⟨w64 oQ⟩
 have hnone:aFr Ht none (.tuple #[.agg #[.int .u64 0,.slice none 0 0],.bool false]) []:=⟨rfl,rfl⟩
 by_cases hn1:n<1
 ·have:n=0:=oQ;subst this
  rw [if_neg (fun hc=>by have:=hc.2.1;unfold oD at this;rw [qD] at this;simp at this)]
  refine W.k ?_
  refine oN Ht [.int .u64 0,.slice none 0 0] ?_
  exact⟨[],hnone,rfl⟩
 by_cases hnt:t<n
 ·rw [if_neg (fun hc=>by omega)]
  refine W.k ?_
  refine oN Ht [.int .u64 0,.slice none 0 0] ?_
  exact⟨[],hnone,rfl⟩
 refine W.j ?_
 refine bZ [1,2,4,6] [(b9,cl [dX c,.slice none 0 0] 75)] (fun _:Value×List Value×Hp=>[]) (fun y=>(b9,cl [dX c,y.1] 75)::y.2.2)
  (fun y=>Sl 72 2 y.1 (jO y.2.1 (gX x logs n)) y.2.2∧RB Ht y.2.1 ((gX x logs n).map Prod.snd)) ?_ ?_
 ·refine W.k ?_
  refine bH [1,2,4,6,7] (fun y:Nat×Value×List Value×Hp=>[(8,.int .i64 (y.1:Int))]) (fun y=>(b9,cl [dX c,y.2.1] 75)::y.2.2.2) (fun y=>n-y.1)
   (fun y=>y.1≤n∧Sl 72 2 y.2.1 (jO y.2.2.1 (gX x logs y.1)) y.2.2.2∧RB Ht y.2.2.1 ((gX x logs y.1).map Prod.snd)) (0,.slice none 0 0,[],[]) ⟨Nat.zero_le _,Sl.nil _ _,RB.nil _⟩ ?_
  rintro⟨k,ev,us,He⟩ ⟨hk,hSe,hRb⟩
  dsimp only at hk hSe hRb ⊢
  have hSe1:=hSe.isOne
  have husl:us.length=(gX x logs k).length:=by rw [hRb.1,aJ]
  by_cases hkn:k<n
  ·obtain⟨u,hu,hru⟩:=hat (1+k) oQ
   have hru0:=hru
   have huo:=hru.one
   obtain⟨va,vl,vc,rfl,-⟩:=hru0
   have hcut3:=hr0.cut uc (18+2*k) (20+2*k) (uc-(18+2*k)) oQ oQ oQ oQ
   rw [show 20+2*k-(18+2*k)=2 by omega] at hcut3
   have hco3:=hcut3.one
   have hg3:=aBJ (.slice (jX ua uc (18+2*k) 1) 2 (uc-(18+2*k))) ((x.drop (18+2*k)).take 2) (by rw [aI];omega)
   have hK:iJ ((x.drop (18+2*k)).take 2)<65536:=aBx (by rw [aI];omega)
   have hes:=zW x logs k
   have hel:=qD x logs k
   generalize (x.drop (18+2*k)).take 2=xk at *
   generalize iJ xk=K at *
   generalize logs.getD (1+k) []=d at *
   haveI:Cv .i64 (K:Int) (K:Int):=⟨w64 oQ⟩
   haveI:dK (1+(k:Int)) (1+k):=⟨by omega⟩
   haveI:dK (18+2*(k:Int)) (18+2*k):=⟨by omega⟩
   haveI:dK (20+2*(k:Int)) (20+2*k):=⟨by omega⟩
   have hb19:bP (fun i=>[(0,1),(1,1)][i]?) [.int .i64 0,.slice none 0 0] [(0,.int .i64 (K:Int)),(1,.slice va vl vc)]=some [.int .i64 (K:Int),.slice va vl vc]:=rfl
   have hb20:bP (fun i=>some (i*2,2)) (zs [.int .i64 0,.slice none 0 0] 1) [(0,.agg [(.int .i64 (K:Int):Value),.slice va vl vc].toArray)]=some [.int .i64 (K:Int),.slice va vl vc]:=rfl
   refine W.k ?_
   (refine SW.l [21,23] [0,1,2,3,4,5,6,7,8,9,10] ?_;refine eW 11 rfl (aGy (lo:=none) (hi:=none) rfl rfl rfl rfl oQ oQ) ?_;refine SG.l [14,15,16,17,18] ?_;refine aU 12 ?_)
   rw [show 20+2*k-(18+2*k)=2 by omega]
   refine W.cq hg3 ?_ (hpre:=fun w2 hs=>hcut3.rd (Hc:=[]) hs)
   (refine SL.l [13,19] ?_;refine aU 20 ?_)
   refine iO (fun b6=>?_) (hr:=hb20)
   (refine bI [] ?_;refine cQ 21 ?_)
   refine W.ap hSe (ys:=[.int .i64 (K:Int),.slice va vl vc]) (mm:=1) (fun w2 hs=>(Sl.own 72 2 b6 (xs:=[.int .i64 (K:Int),.slice va vl vc]) rfl).srcAt hs inferInstance) (fun v7 H7 h7=>?_) (hys:=rfl) (hbytes:=by rw [lH _ _ husl,hel];simp;omega)
   have h71:=h7.isOne
   rw [← zV husl (.slice va vl vc) ((K:Int),d),← hes] at h7
   (refine SL.l [22] ?_;refine cQ 23 ?_;refine W.i ?_;refine eH ?_)
   refine W.k ?_
   rw [show ([dX c,ev]:List Value).set 1 v7=[dX c,v7] from rfl]
   refine aP.mk (k+1,v7,us++[.slice va vl vc],H7) ?_
   refine⟨hkn,h7,?_⟩
   dsimp only
   rw [hes,bC]
   exact hRb.snoc hru
  ·have hkm:k=n:=oQ
   rw [hkm] at hSe hRb
   refine W.k ?_
   refine bU.mk (ev,us,He) ?_
   exact⟨hSe,hRb⟩
 rintro⟨ev,us,He⟩ ⟨hSe,hRb⟩
 dsimp only at hSe hRb ⊢
 have hSe1:=hSe.isOne
 have hel:=qD x logs n
 have husl:us.length=(gX x logs n).length:=by rw [hRb.1,aJ]
 have hLE:=hRb.le
 obtain⟨ea,el,ec,rfl,hell⟩:=hSe.form
 rw [lH _ _ husl,hel] at hell
 have hen0:n=el:=oQ
 subst hen0
 have hl2:([dX c,.slice ea n ec]:List Value).length=2:=rfl
 have hmy:=aId h c (.slice ea n ec) us _ hLE (by rw [hel];omega)
 have hen:=aIc c (.slice ea n ec) us _ hRb (by rw [hel];omega)
 by_cases hm:oD p t (gX x logs n)=true
 ·rw [hm] at hmy
  by_cases he:qJ c (gX x logs n)=x
  ·rw [if_pos ⟨by omega,hm,he⟩]
   refine W.k ?_
   (refine SW.l [] [0,1] ?_;refine aU 2 ?_)
   refine W.cq hmy ?_ (hpre:=fun w2 hs=>Rd.own (Hc:=[]) hSe hs inferInstance)
   (refine SL.l [3,4,5,10,11,12] ?_;(first|refine dU 13 rfl ?_|refine vS hr0 13 [] rfl ?_);(first|refine dU 6 rfl ?_;refine SG.l [7,8,9,14,15,16] ?_|refine aU 6 ?_))
   refine aH hen ?_ (hpre:=fun w2 hs=>Rd.own (Hc:=[]) hSe hs inferInstance)
   rintro v64 _ ⟨u64,Hv,Hn,hS64,hr64,rfl⟩
   rcases hS64 with ⟨-,hz,-⟩|⟨eb,elen,ecap,ejunk,rfl,hexl,hej,hec,rfl⟩
   ·cases hz
   have h64o:=hr64.one
   have h64l:((u64::us)++ejunk)[0]?=some u64:=rfl
   rw [he] at hr64
   have hel64:0<elen:=by simp at hexl;omega
   (refine SL.l [7,8] ?_;(first|refine dU 9 rfl ?_|refine vS hr64 9 [] rfl ?_);(first|refine dU 14 rfl ?_|refine eW 14 rfl (aH1 rfl rfl rfl rfl) ?_);refine SG.l [15,16] ?_)
   refine W.k ?_
   refine oN (He++Ht) [dX c,.slice ea n ec] ?_
   exact⟨He,⟨_,us,rfl,hSe,hRb⟩,rfl⟩
  ·rw [if_neg (fun hc=>he hc.2.2)]
   refine W.k ?_
   (refine SW.l [] [0,1] ?_;refine aU 2 ?_)
   refine W.cq hmy ?_ (hpre:=fun w2 hs=>Rd.own (Hc:=[]) hSe hs inferInstance)
   (refine SL.l [3,4,5,10,11,12] ?_;(first|refine dU 13 rfl ?_|refine vS hr0 13 [] rfl ?_);(first|refine dU 6 rfl ?_;refine SG.l [7,8,9,14,15,16] ?_|refine aU 6 ?_))
   refine aH hen ?_ (hpre:=fun w2 hs=>Rd.own (Hc:=[]) hSe hs inferInstance)
   rintro v64 _ ⟨u64,Hv,Hn,hS64,hr64,rfl⟩
   rcases hS64 with ⟨-,hz,-⟩|⟨eb,elen,ecap,ejunk,rfl,hexl,hej,hec,rfl⟩
   ·cases hz
   have h64o:=hr64.one
   have h64l:((u64::us)++ejunk)[0]?=some u64:=rfl
   have hel64:0<elen:=by simp at hexl;omega
   (refine SL.l [7,8] ?_;(first|refine dU 9 rfl ?_|refine vS hr64 9 [] rfl ?_);(first|refine dU 14 rfl ?_|refine eW 14 rfl (aH0 rfl rfl rfl he) ?_);refine SG.l [15,16] ?_)
   refine W.k ?_
   refine oN Ht [.int .u64 0,.slice none 0 0] ?_
   exact⟨[],hnone,rfl⟩
 ·rw [if_neg (fun hc=>hm hc.2.1)]
  rw [show oD p t (gX x logs n)=false by simpa using hm] at hmy
  refine W.k ?_
  (refine SW.l [] [0,1] ?_;refine aU 2 ?_)
  refine W.cq hmy ?_ (hpre:=fun w2 hs=>Rd.own (Hc:=[]) hSe hs inferInstance)
  (refine SL.l [3,4,5,10,11,12,13] ?_;(first|refine dU 6 rfl ?_;refine SG.l [7,8,9,14,15,16] ?_|refine aU 6 ?_))
  refine W.k ?_
  refine oN Ht [.int .u64 0,.slice none 0 0] ?_
  exact⟨[],hnone,rfl⟩
end
end Go.Proofs.YtmceanmblcadcaaGreat
