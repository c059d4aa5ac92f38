/- What stands on a device: it is redone by its log. -/
import Derived.Test.YtnhnpjokpelkbaaGreatPs31
import Derived.Test.YtnhnpjokpelkbaaGreatPs28
import Derived.Test.YtnhnpjokpelkbaaGreatPs29
import Derived.Test.YtnhnpjokpelkbaaGreatPs10
import Derived.Test.YtnhnpjokpelkbaaGreatPs14
set_option linter.unusedVariables false
set_option linter.unusedSimpArgs false
set_option linter.unusedSectionVars false
set_option maxHeartbeats 4000000
namespace Go.Proofs.YtnhnpjokpelkbaaGreat
open Go Go.Proofs.Tryz
section
attribute [local irreducible] SW SL SQ SH SA SS Pu Fin bZ aQ
def wY(p t:Nat)(r:Rg)(logs:List (List UInt8)):Option (UInt64×List Ent):=match nW p t logs with
 | some x=>if (x.1.toNat:Int)=r.c then some x else none
 | none=>none
theorem aBl{p t:Nat}{logs:List (List UInt8)}{x:UInt64×List Ent}(h:nW p t logs=some x):gV p t x.2=true:=by
 unfold nW at h
 dsimp only at h
 split at h
 ·rename_i hc
  cases h
  exact hc.2.1
 ·cases h
theorem uP(p:Nat)(l:List Ent):∀ m:List (List UInt8),(rH p m l).length=m.length:=by
 unfold rH
 induction l with
 | nil=>intro m;rfl
 | cons x l ih=>intro m;rw [dS,ih,bQ]
theorem yC(es:List UInt64)(ts:List Nat):∀ m:List (List UInt8),(sM es m ts).length=m.length:=by
 unfold sM
 induction ts with
 | nil=>intro m;rfl
 | cons x l ih=>intro m;rw [dS,ih,bQ]
theorem aCH(p:Nat)(m:List (List UInt8))(l:List Ent)(x:Ent):rH p m (l++[x])=(rH p m l).set (1+Gm.epochs p+x.1.toNat) x.2:=by unfold rH;rw [gX];rfl
theorem zP(c:UInt64)(es:List UInt64)(l:List Ent)(x:Ent):eE c es (l++[x])=(eE c es l).set x.1.toNat c:=by unfold eE;rw [gX];rfl
theorem aCI(es:List UInt64)(m:List (List UInt8))(ts:List Nat)(t:Nat):sM es m (ts++[t])=(sM es m ts).set (1+t) (epB t es):=by unfold sM;rw [gX];rfl
theorem vQ{p t:Nat}{l:List Ent}(hm:gV p t l=true):∀ k∈dW l,k<Gm.epochs p:=by
 have hall:∀ x∈l,x.1.toNat/32<Gm.epochs p:=fun x hx=>by
  obtain⟨i,hi⟩:=cT.1 hx
  unfold gV at hm
  rw [bX] at hm
  obtain⟨h1,h2,-⟩:=mP hm.2 i x hi
  unfold Gm.epochs Gm.up
  omega
 have key:∀ (l:List Ent) (o:List Nat),(∀ x∈l,x.1.toNat/32<Gm.epochs p)→(∀ k∈o,k<Gm.epochs p)→∀ k∈l.foldl tJ o,k<Gm.epochs p:=fun l=>by
  induction l with
  | nil=>intro o _ ho;exact ho
  | cons x l ih=>
   intro o hl ho
   rw [dS]
   refine ih _ (fun y hy=>hl y (cX _ hy)) fun k hk=>?_
   unfold tJ at hk
   split at hk
   ·exact ho k hk
   ·rcases bG.1 hk with h|h
    ·exact ho k h
    ·rw [bO] at h;rw [h];exact hl x (gN ..)
 exact key l [] hall (by simp)
theorem aG0(es:List UInt64)(k:Nat)(c:UInt64):(uv es).set k (eX c)=uv (es.set k c):=gJ.symm
theorem yF{vs junk:List Value}{i:Nat}(h:i<vs.length)(u:Value):(vs++junk).set i u=vs.set i u++junk:=fV _ _ h
theorem sC(p:Nat)(l:List (List UInt8)):(nD p l).length=Gm.sealed p:=by unfold nD;simp
theorem xQ{us:List Value}{l:List Ent}{junk:List Value}(h:us.length=l.length){k:Nat}{x:Ent}{u:Value}(hu:us[k]?=some u)(hx:l[k]?=some x):(((eW us l++junk).drop (k*2)).take 2)=[.int .i64 x.1,u]:=by
 have hkl:=(aE.1 hx).1
 have hle:=gE us l h
 rw [cD oQ,bU (by rw [bE];omega)]
 exact aFe hu hx
theorem aOt{dt fp d tr s bk tb p t:Nat}(h:Gm.Ok p t){kind cnt:Int}{bv lv Lv ev tv:Value}{bss logs:List (List UInt8)}{β:Bk}{r:Rg}(hr:r.Ok){Hk Hb Hl:Hp}(hK:eR bk tb β Hk)(hB:Bls bv bss Hb)(hL:Bls lv logs Hl)(o2:One Lv)(o3:One ev)(o4:One tv)(hn:bss.length=Gm.leaves p)(hb:∀ b∈bss,b.length=256)(hln:logs.length=1+t)(hlb:∀ b∈logs,b.length=256) :
  Tri prog 237 [ptv fp] ((fp,cl (cB d tr s bk p t kind bv lv cnt Lv ev tv) 297)::(tr,cl (trc dt r) 201)::(Hk++(Hb++Hl))) (fun _=>True)
  (fun v H=>∃ bv' cnt' Lv' Hk' Hb',One Lv'∧H=(fp,cl (cB d tr s bk p t kind bv' lv cnt' Lv' ev tv) 297)::(tr,cl (trc dt r) 201)::(Hk'++(Hb'++Hl)) ∧
   match wY p t r logs with
   | none=>v=.bool false∧Bls bv' bss Hb'∧eR bk tb β Hk'
   | some x=>v=.bool true∧Bls bv' (sL p x.1 x.2 bss) Hb'∧eR bk tb (aBm β bss) Hk'):=by
 have hbo:=hB.one
 have hlo:=hL.one
 have hB0:=hB
 have hll:=Gm.leaves_le h
 have hsl:=Gm.sealed_le h
 have hel:=Gm.epochs_le h
 have hLe:Gm.leaves p=1+Gm.epochs p+Gm.sealed p:=rfl
 have ht:=h.2.2.2
 have hrd:=aBs tr dt r hr
 obtain⟨lvs,Hlv,Hlt,hSl,hRl,rfl⟩:=hL
 have hpa:=fun v=>aLg h v lvs logs hRl hln hlb
 obtain⟨la,ll,lc,rfl,-⟩:=hSl.form
 refine Tri.mk func237 rfl ntmps237 rfl fun w hw=>?_
 have hl3:(cB d tr s bk p t kind bv (.slice la ll lc) cnt Lv ev tv).length=13:=rfl
 have hq0:(rgc r)[0]?=some (.int .u64 r.c):=rfl
 unfold wY
 refine pH ?_
 refine mW ?_
 refine W.i ?_
 refine pH ?_
 refine bW [0] [] (fun x:Nat×List Value×Int×Hp=>[(3,ptv x.1),(4,.int .i64 x.2.2.1)]) (fun x=>(x.1,cl x.2.1 224)::x.2.2.2)
  (fun x=>(nW p t logs=none∧x.2.2.1=4∧x.2.1=[.int .u64 0,.slice none 0 0])∨(∃ y ev us He Hb,nW p t logs=some y∧x.2.2.1=0∧x.2.1=[eX y.1,ev]∧Sl 136 2 ev (eW us y.2) He∧RB Hb us (y.2.map Prod.snd)∧x.2.2.2=He++Hb)) ?_ ?_
 ·cases hpl:nW p t logs with
  | none=>
   rw [hpl] at hpa
   (refine SW.l [] [0,1,2,3,4,5,6,7,8] ?_;skip )
   refine jD 9 13 ?_ ?_ rfl rfl
   case' refine_1=>
    refine aG (hpa _) ?_ (hpre:=fun w2 hs=>Rd.own (Hc:=Hlt) hSl hs inferInstance)
    rintro _ _ ⟨Hn,⟨rfl,rfl⟩,rfl⟩
    refine dX ?_
    refine dN 10 rfl (fE rfl rfl) ?_
    refine dN 11 rfl (yS rfl rfl rfl) ?_
    refine dN 12 rfl (yS rfl rfl rfl) ?_
    refine aX 13 ?_
    refine W.al fun b3=>?_
    refine dX ?_
   case' refine_2=>
    refine W.al fun b3=>?_
    refine dX ?_
    refine aX 9 ?_
    refine aG (hpa _) ?_ (hpre:=fun w2 hs=>Rd.own (Hc:=Hlt) hSl hs inferInstance)
    rintro _ _ ⟨Hn,⟨rfl,rfl⟩,rfl⟩
    refine dX ?_
    refine dN 10 rfl (fE rfl rfl) ?_
    refine dN 11 rfl (yS rfl rfl rfl) ?_
    refine dN 12 rfl (yS rfl rfl rfl) ?_
   all_goals
    refine aX 14 ?_
    refine W.i ?_
    refine dN 15 rfl (sE rfl rfl) ?_
    refine SS.dn ?_
    refine bZ.mk (b3,[.int .u64 0,.slice none 0 0],4,[]) ?_
    exact .inl ⟨rfl,rfl,rfl⟩
  | some y=>
   rw [hpl] at hpa
   (refine SW.l [] [0,1,2,3,4,5,6,7,8] ?_;skip )
   refine jD 9 13 ?_ ?_ rfl rfl
   case' refine_1=>
    refine aG (hpa _) ?_ (hpre:=fun w2 hs=>Rd.own (Hc:=Hlt) hSl hs inferInstance)
    rintro _ _ ⟨Hn,⟨ev2,us,He,Hbe,rfl,hSe,hRe,rfl⟩,rfl⟩
    have hSe1:=hSe.isOne
    refine dX ?_
    refine dN 10 rfl (fE rfl rfl) ?_
    refine dN 11 rfl (yS rfl rfl rfl) ?_
    refine dN 12 rfl (yS rfl rfl rfl) ?_
    refine aX 13 ?_
    refine W.al fun b3=>?_
    refine dX ?_
   case' refine_2=>
    refine W.al fun b3=>?_
    refine dX ?_
    refine aX 9 ?_
    refine aG (hpa _) ?_ (hpre:=fun w2 hs=>Rd.own (Hc:=Hlt) hSl hs inferInstance)
    rintro _ _ ⟨Hn,⟨ev2,us,He,Hbe,rfl,hSe,hRe,rfl⟩,rfl⟩
    have hSe1:=hSe.isOne
    refine dX ?_
    refine dN 10 rfl (fE rfl rfl) ?_
    refine dN 11 rfl (yS rfl rfl rfl) ?_
    refine dN 12 rfl (yS rfl rfl rfl) ?_
   all_goals
    refine aX 14 ?_
    refine W.i ?_
    refine dN 15 rfl (sE rfl rfl) ?_
    refine SS.dn ?_
    refine bZ.mk (b3,[eX y.1,ev2],0,He++Hbe) ?_
    exact .inr ⟨y,ev2,us,He,Hbe,rfl,rfl,rfl,hSe,hRe,rfl⟩
 rintro⟨b3,lc3,e3,Hn⟩ hP
 dsimp only at hP ⊢
 rcases hP with ⟨hpl,rfl,rfl⟩|⟨⟨c,es⟩,ev2,us,He,Hbe,hpl,rfl,rfl,hSe,hRe,rfl⟩
 ·rw [hpl]
  refine W.k ?_
  (refine SW.l [] [0,1,2,3,4,5,6,7,8,9] ?_;(first|refine cR 10 rfl ?_;refine SG.l [11,12,13,14] ?_|refine aX 10 ?_))
  refine W.k ?_
  refine Fin.to ((fp,cl (cB d tr s bk p t kind bv (.slice la ll lc) cnt Lv ev tv) 297)::(tr,cl (trc dt r) 201)::(Hk++(Hb++(Hlv++Hlt)))) ?_
  exact F.f1 ⟨bv,cnt,Lv,Hk,Hb,o2,rfl,rfl,hB0,hK⟩
 have hSe1:=hSe.isOne
 have hmay:=aBl hpl
 rw [hpl]
 dsimp only at hSe hRe hmay ⊢
 by_cases hc:¬ (c.toNat:Int)=r.c
 ·rw [if_neg hc]
  refine W.k ?_
  (refine SW.l [] [0,1,2,3,4,5,6,7,8,9] ?_;(first|refine cR 10 rfl ?_;refine SG.l [11,12,13,14] ?_|refine aX 10 ?_))
  refine W.cq hrd ?_
  (refine SL.l [11,12,13,14] ?_)
  refine W.k ?_
  refine Fin.to ((fp,cl (cB d tr s bk p t kind bv (.slice la ll lc) cnt Lv ev tv) 297)::(tr,cl (trc dt r) 201)::(Hk++(Hb++(Hlv++Hlt)))) ?_
  exact F.f1 ⟨bv,cnt,Lv,Hk,Hb,o2,rfl,rfl,hB0,hK⟩
 have hc2:(c.toNat:Int)=r.c:=Decidable.not_not.1 hc
 rw [if_pos hc2]
 dsimp only
 refine W.k ?_
 (refine SW.l [] [0,1,2,3,4,5,6,7,8,9] ?_;(first|refine cR 10 rfl ?_;refine SG.l [11,12,13,14] ?_|refine aX 10 ?_))
 refine W.cq hrd ?_
 (refine SL.l [11,12,13,14] ?_)
 refine W.k ?_
 rw [show List.take 9 (cB d tr s bk p t kind bv (.slice la ll lc) cnt Lv ev tv)++[eX c,ev2]++List.drop (9+2) (cB d tr s bk p t kind bv (.slice la ll lc) cnt Lv ev tv)=cB d tr s bk p t kind bv (.slice la ll lc) (c.toNat:Int) ev2 ev tv from rfl]
 have hpt:=aBn (fp:=fp) (d:=d) (tr:=tr) (s:=s) (kind:=kind) (cnt:=(c.toNat:Int)) (lv:=.slice la ll lc) (Lv:=ev2) (ev:=ev) (tv:=tv) h hK hB inferInstance hSe1 o3 o4 hn hb
 rw [aHp bss hb oQ] at hpt
 refine aG hpt ?_
 rintro _ _ ⟨tp,be,Htr,Hk2,rfl,rfl,-,hK2⟩
 clear hpt hpa hrd
 obtain⟨vs,Hv,Ht0,hS,hR,rfl⟩:=hB
 have hvl:=hR.1
 rcases hS with ⟨-,hz,-⟩|⟨bb,len,cap,junk,rfl,hxl,hj,hlc,rfl⟩
 ·rw [hz] at hvl;simp at hvl;omega
 have hesl:1≤es.length∧es.length≤t:=by unfold gV at hmay;rw [bX,decide_eq_true_iff] at hmay;exact hmay.1
 have hmall:∀ (k:Nat) (x:Ent),es[k]?=some x → -1<x.1∧x.1<(Gm.sealed p:Nat)∧x.2.length=256:=by unfold gV at hmay;rw [bX] at hmay;exact mP hmay.2
 have htlt:=vQ hmay
 have htle:=tG es
 have hul:us.length=es.length:=by rw [hRe.1,aD]
 have hoc:=hRe.oc
 have hebl:=sC p bss
 have hSe0:=hSe
 have hel2:=gE us es hul
 rcases hSe with ⟨-,hz,-⟩|⟨eb,elen,ecap,ejunk,rfl,hexl,hej,hec,rfl⟩
 ·rw [hz] at hel2;simp at hel2;omega
 obtain rfl:elen=es.length:=by omega
 obtain rfl:len=vs.length:=by omega
 have hredo:sL p c es bss=sM (eE c (nD p bss) es) (rH p bss es) (dW es):=rfl
 rw [hredo]
 clear hredo hB0 hmay hc hpl
 generalize nD p bss=E0 at *
 refine W.j ?_
 refine bW [0,6] [(bb,cl (vs++junk) 23),(be,cl (uv E0) 33)] (fun _:List Value=>[]) (fun y=>[(bb,cl (y++junk) 23),(be,cl (uv (eE c E0 es)) 33)]) (fun y=>RB (Ht0++Hbe) y (rH p bss es)) ?_ ?_
 ·rw [show uv E0=uv (eE c E0 (es.take 0)) from rfl]
  refine W.k ?_
  refine bF [0,3,6,50,51] (fun y:Nat×List Value=>[(52,.int .i64 (y.1:Int))]) (fun y=>[(bb,cl (y.2++junk) 23),(be,cl (uv (eE c E0 (es.take y.1))) 33)]) (fun y=>es.length-y.1) (fun y=>y.1≤es.length∧RB (Ht0++Hbe) y.2 (rH p bss (es.take y.1))) (0,vs) ⟨Nat.zero_le _,hR.mono fun x hx=>aN _ hx⟩ ?_
  rintro⟨k,vs2⟩ ⟨hk,hR2⟩
  dsimp only at hk hR2 ⊢
  have hvl2:=hR2.1
  rw [uP,hn] at hvl2
  have hoc2:=hR2.oc
  by_cases hkn:k<es.length
  ·have hx:=aA hkn
   have htk:es.take (k+1)=es.take k++[es[k]]:=by rw [bA,hx];rfl
   obtain⟨u,huk,hru⟩:=hRe.2 k es[k].2 (by rw [aH,hx];rfl)
   have hrow:=xQ (junk:=ejunk) hul huk hx
   obtain⟨hx1,hx2,hx3⟩:=hmall k _ hx
   have hSs:=aCH p bss (es.take k) es[k]
   have hEs:=zP c E0 (es.take k) es[k]
   rw [← htk] at hSs hEs
   have hEl:=oH c (es.take k) E0
   have huo:=hru.one
   generalize es[k]=x at *
   obtain⟨K,hKK⟩:∃ K:Nat,x.1=(K:Int):=⟨x.1.toNat,by omega⟩
   rw [show x.1.toNat=K by omega] at hSs hEs
   rw [hKK] at hrow
   have hsa:=qJ h (K:Int)
   rw [show Gm.atK (Gm.sealed p) (1+Gm.epochs p) (K:Int)=((1+Gm.epochs p+K:Nat):Int) by unfold Gm.atK;rw [if_pos oQ];omega] at hsa
   have hset:=yF (vs:=vs2) (junk:=junk) (i:=1+Gm.epochs p+K) oQ u
   have hset2:=aG0 (eE c E0 (es.take k)) K c
   rw [← hEs] at hset2
   have hlt1:1+Gm.epochs p+K<(vs2++junk).length:=by rw [aB];omega
   have hlt2:K<(uv (eE c E0 (es.take k))).length:=by rw [iE,hEl];omega
   refine W.k fun b_=>?_
   (refine SW.l [] [0,1,2,3,4,5,6,7,8,9,10,12,13] ?_;refine aX 11 ?_)
   refine W.cq hsa ?_
   (refine SL.l [14] ?_;refine aX 15 ?_;refine W.i ?_;refine SS.dn ?_)
   rw [hset]
   refine W.k ?_
   rw [hset2]
   refine aQ.mk (k+1,vs2.set (1+Gm.epochs p+K) u) ?_
   refine⟨hkn,?_⟩
   dsimp only
   rw [hSs]
   exact hR2.set (hru.mono fun x hx=>aM _ hx) _
  ·have hkl:k=es.length:=oQ
   rw [hkl,bP] at hR2 ⊢
   subst hkl
   refine W.k ?_
   refine bZ.mk vs2 ?_
   exact hR2
 rintro vs2 hR2
 have hEl:=oH c es E0
 have hmt:=aID (fp:=fp) (d:=d) (tr:=tr) (s:=s) (bk:=bk) (p:=p) (t:=t) (kind:=kind) (cnt:=(c.toNat:Int)) (bv:=.slice (some ⟨bb,0,none⟩) vs.length cap) (lv:=.slice la ll lc) (ev:=ev) (tv:=tv) us es hul hoc (fun x hx=>by
  obtain⟨i,hi⟩:=cT.1 hx
  have:=hmall i x hi
  omega) oQ hSe0 inferInstance inferInstance o3 o4
 have hvl2:=hR2.1
 rw [uP,hn] at hvl2
 generalize eE c E0 es=E1 at *
 generalize rH p bss es=M1 at *
 refine W.k ?_
 refine aG hmt ?_
 rintro v79 _ ⟨Hn,hSt,rfl⟩
 have hSt1:=hSt.isOne
 obtain⟨ta,tl,tc2,rfl,htl⟩:=hSt.form
 rw [Nat.mul_one,aD] at htl
 subst htl
 refine W.j ?_
 refine bW [] [(bb,cl (vs2++junk) 23)] (fun _:List Value×Hp=>[]) (fun y=>(bb,cl (y.1++junk) 23)::y.2) (fun y=>RB ((Ht0++Hbe)++y.2) y.1 (sM E1 M1 (dW es))) ?_ ?_
 ·refine W.k ?_
  refine bF [0,6,79,80] (fun y:Nat×List Value×Hp=>[(81,.int .i64 (y.1:Int))]) (fun y=>(bb,cl (y.2.1++junk) 23)::y.2.2) (fun y=>(dW es).length-y.1) (fun y=>y.1≤(dW es).length∧RB ((Ht0++Hbe)++y.2.2) y.2.1 (sM E1 M1 ((dW es).take y.1))) (0,vs2,[]) ⟨Nat.zero_le _,by rw [aF];exact hR2⟩ ?_
  rintro⟨k,vs3,Hn3⟩ ⟨hk,hR3⟩
  dsimp only at hk hR3 ⊢
  have hvl3:=hR3.1
  rw [yC] at hvl3
  have hM1:=hR2.1
  have hoc3:=hR3.oc
  by_cases hkn:k<(dW es).length
  ·rcases hSt with ⟨hz,hz2,-⟩|⟨qb,qlen,qcap,qjunk,hz,hqxl,hqj,hqc,rfl⟩
   ·simp only [Value.slice.injEq] at hz;omega
   simp only [Value.slice.injEq] at hz
   obtain⟨rfl,rfl,rfl⟩:=hz
   have hx:=aA hkn
   have hlu:(nv (dW es)++qjunk)[k]?=some (.int .i64 (((dW es)[k]:Nat):Int)):=by
    rw [aO (by rw [aD];exact hkn),aH,hx];rfl
   have htk:(dW es).take (k+1)=(dW es).take k++[(dW es)[k]]:=by rw [bA,hx];rfl
   have hlt:=htlt _ (cP hkn)
   have hTs:=aCI E1 M1 ((dW es).take k) (dW es)[k]
   rw [← htk] at hTs
   generalize (dW es)[k]=q at *
   have hsb:=aAN h q hlt (.slice (some ⟨be,0,none⟩) (Gm.sealed p) (Gm.sealed p)) E1 oQ
   have hea:=vJ h (q:Int)
   rw [show Gm.atK (Gm.epochs p) 1 (q:Int)=((1+q:Nat):Int) by unfold Gm.atK;rw [if_pos oQ];omega] at hea
   have hlt1:1+q<(vs3++junk).length:=by rw [aB];omega
   refine W.k ?_
   refine aG hsb ?_ (hpre:=fun w2 hs=>Rd.own (Hc:=[]) (Sl.own 33 1 be (len:=Gm.sealed p) (xs:=uv E1) (by rw [iE];omega)) hs inferInstance)
   rintro _ _ ⟨b5,rfl,rfl⟩
   have hset:=yF (vs:=vs3) (junk:=junk) (i:=1+q) oQ (.slice (some ⟨b5,0,none⟩) 256 256)
   refine W.k ?_
   (refine SW.l [] [0,1,2,3,4,5,6,7,8,9,11] ?_;refine aX 10 ?_)
   refine W.cq hea ?_
   (refine SL.l [12] ?_;refine aX 13 ?_;refine W.i ?_;refine SS.dn ?_)
   rw [hset]
   refine W.k ?_
   refine aQ.mk (k+1,vs3.set (1+q) (.slice (some ⟨b5,0,none⟩) 256 256),(b5,cl (cbs (epB q E1)) 5)::Hn3) ?_
   refine⟨hkn,?_⟩
   dsimp only
   rw [hTs]
   refine (hR3.mono fun x hx=>?_).set ((RdH.of (Sl.own 5 1 b5 (len:=256) (xs:=cbs (epB q E1)) (by rw [aI,oU]))).mono fun x hx=>?_) _
   ·rcases bG.1 hx with h|h
    ·exact aN _ h
    ·exact aM _ (cX _ h)
   ·rw [bO] at hx
    subst hx
    exact aM _ (gN ..)
  ·have hkl:k=(dW es).length:=oQ
   rw [hkl,bP] at hR3
   subst hkl
   refine W.k ?_
   refine bZ.mk (vs3,Hn3) ?_
   exact hR3
 rintro⟨vs3,Hn3⟩ hR3
 dsimp only at hR3 ⊢
 have hvl3:=hR3.1
 rw [yC,hR2.1.symm.trans hvl2] at hvl3
 refine W.k ?_
 refine Fin.to ((fp,cl (cB d tr s bk p t kind (.slice (some ⟨bb,0,none⟩) vs.length cap) (.slice la ll lc) (c.toNat:Int) (.slice (some ⟨eb,0,none⟩) es.length ecap) ev tv) 297)::(tr,cl (trc dt r) 201)::(Hk2++(([(bb,cl (vs3++junk) 23)]++((Ht0++Hbe)++Hn3))++(Hlv++Hlt)))) ?_
 refine F.f1 ⟨_,_,_,Hk2,_,inferInstance,rfl,rfl,⟨vs3,_,_,?_,hR3,rfl⟩,hK2⟩
 exact .inr ⟨bb,vs.length,cap,junk,rfl,by omega,hj,hlc,rfl⟩
theorem vI{p t:Nat}{r:Rg}{l logs:List (List UInt8)}(h:lU p t r.root l=true):vH p t r l logs=(1,l):=by unfold vH;rw [if_pos h]
theorem tB{p t:Nat}{r:Rg}{l logs:List (List UInt8)}(h:¬ lU p t r.root l=true)(h2:wY p t r logs=none):vH p t r l logs=(3,l):=by
 unfold vH wY at *
 rw [if_neg h]
 cases hp:nW p t logs with
 | none=>rfl
 | some x=>
  rw [hp] at h2
  dsimp only at h2 ⊢
  split at h2
  ·cases h2
  ·rename_i hc
   rw [if_neg (fun hh=>hc hh.1)]
theorem wT{p t:Nat}{r:Rg}{l logs:List (List UInt8)}(h:¬ lU p t r.root l=true){x:UInt64×List Ent}(h2:wY p t r logs=some x):vH p t r l logs=if lU p t r.root (sL p x.1 x.2 l)=true then (2,sL p x.1 x.2 l) else (3,l):=by
 unfold vH wY at *
 rw [if_neg h]
 cases hp:nW p t logs with
 | none=>rw [hp] at h2;cases h2
 | some y=>
  rw [hp] at h2
  dsimp only at h2 ⊢
  split at h2
  ·cases h2
   rename_i hc
   by_cases hf:lU p t r.root (sL p x.1 x.2 l)=true
   ·rw [if_pos ⟨hc,hf⟩,if_pos hf]
   ·rw [if_neg (fun hh=>hf hh.2),if_neg hf]
  ·cases h2
def uE(p t:Nat)(r:Rg)(l logs:List (List UInt8))(β:Bk):Bk:=
 if lU p t r.root l=true then lF β l else match wY p t r logs with|some x=>lF (aBm (lF β l) l) (sL p x.1 x.2 l)|none=>lF β l
def aNd(fp d tr s bk p t k:Nat)(l:List (List UInt8))(H:Hp):Prop:=
 ∃ bv lv cnt Lv ev tv Hx,(One bv∧One lv∧One Lv∧One ev∧One tv)∧H=(fp,cl (cB d tr s bk p t (k:Int) bv lv cnt Lv ev tv) 297)::Hx ∧
  (k≠3→∃ tp be Hb Ht Hz,Bls bv l Hb∧tv=ptv tp∧ev=.slice (some ⟨be,0,none⟩) (Gm.sealed p) (Gm.sealed p)∧rX tp bk (eG l) Ht∧Hx=Hb++((be,cl (uv (nD p l)) 33)::(Ht++Hz)))
theorem aIS{p t:Nat}:∀ {l:List Ent} {m:List (List UInt8)},(∀ x∈l,x.2.length=256)→(∀ b∈m,b.length=256)→∀ b∈rH p m l,b.length=256:=by
 intro l
 unfold rH
 induction l with
 | nil=>intro m _ h;exact h
 | cons x l ih=>
  intro m hl h
  rw [dS]
  refine ih (fun y hy=>hl y (cX _ hy)) fun b hb=>?_
  rcases eJ hb with h1|h1
  ·exact h b h1
  ·rw [h1];exact hl x (gN ..)
theorem aIT{es:List UInt64}:∀ {ts:List Nat} {m:List (List UInt8)},(∀ b∈m,b.length=256)→∀ b∈sM es m ts,b.length=256:=by
 intro l
 unfold sM
 induction l with
 | nil=>intro m h;exact h
 | cons x l ih=>
  intro m h
  rw [dS]
  refine ih fun b hb=>?_
  rcases eJ hb with h1|h1
  ·exact h b h1
  ·rw [h1];exact oU _ _
theorem aBu(p:Nat)(c:UInt64)(l:List Ent)(m:List (List UInt8)):(sL p c l m).length=m.length:=by unfold sL;rw [yC,uP]
theorem aBt{p t:Nat}{c:UInt64}{l:List Ent}{m:List (List UInt8)}(hm:gV p t l=true)(h:∀ b∈m,b.length=256):∀ b∈sL p c l m,b.length=256:=by
 unfold sL
 refine aIT (aIS (t:=t) (fun x hx=>?_) h)
 obtain⟨i,hi⟩:=cT.1 hx
 exact uF hm i x hi
theorem aFo{p t:Nat}{r:Rg}{logs:List (List UInt8)}{x:UInt64×List Ent}(h:wY p t r logs=some x):gV p t x.2=true:=by
 unfold wY at h
 cases hp:nW p t logs with
 | none=>rw [hp] at h;cases h
 | some y=>
  rw [hp] at h
  dsimp only at h
  split at h
  ·cases h;exact aBl hp
  ·cases h
theorem Dv.blk_256{σ:Dv}{m k:Nat}(hok:σ.Ok)(hd:σ.down=false)(hl:σ.len=256*m)(hk:k<m):(σ.blk k).length=256:=by
 unfold Dv.blk Dv.loadB
 have hr:σ.rdy ((256*k:Nat):Int) 256=0:=by
  unfold Dv.rdy
  rw [if_neg (by rw [hd];decide),if_neg oQ]
 rw [if_pos hr,aK,bE,xA hok.ok,aU]
 unfold Dv.len at hl
 show min 256 _=256
 omega
theorem wO{σ:Dv}{m a n:Nat}(hok:σ.Ok)(hd:σ.down=false)(hl:σ.len=256*m)(hk:a+n≤m):∀ b∈σ.blks a n,b.length=256:=fun b hb=>by
 unfold Dv.blks at hb
 obtain⟨i,hi,rfl⟩:=bJ.1 hb
 have:=eL.1 hi
 exact Dv.blk_256 hok hd hl oQ
theorem aN1{dt d tr s bk tb p t:Nat}(h:Gm.Ok p t){σ:Dv}{r:Rg}{β:Bk}{Hd Hk:Hp}(hD:fS d σ Hd)(hlen:σ.len=256*Gm.total p t)(hr:r.Ok)(hK:eR bk tb β Hk) :
  Tri prog 196 [wN d tr s bk p t] ((tr,cl (trc dt r) 201)::(Hd++Hk)) (fun _=>True)
  (fun v H=>(σ.down=true∧v=.tuple #[.pointer none,.int .i64 8]∧H=(tr,cl (trc dt r) 201)::(Hd++Hk)) ∨
   (σ.down=false∧∃ fp Hk' Hf,v=.tuple #[ptv fp,.int .i64 0]∧aNd fp d tr s bk p t (gK p t σ r).1 (gK p t σ r).2 Hf∧eR bk tb (uE p t r (σ.blks 0 (Gm.leaves p)) (σ.blks (Gm.leaves p) (1+t)) β) Hk' ∧
    H=(tr,cl (trc dt r) 201)::(Hd++(Hk'++Hf)))):=by
 refine Tri.mk func196 rfl ntmps196 rfl fun w hw=>?_
 have hmy:=aGF (tr:=tr) (s:=s) (bk:=bk) h hD hlen
 have ht:=h.2.2.2
 have hlv:=aDz h
 have hla:=aCt h 0
 have hll:=Gm.leaves_le h
 have hl1:1≤Gm.leaves p:=by unfold Gm.leaves;omega
 have htot:Gm.total p t=Gm.leaves p+(1+t):=rfl
 rw [show Gm.atK (1+t) (Gm.leaves p) 0=((Gm.leaves p:Nat):Int) by unfold Gm.atK;rw [if_pos oQ];omega] at hla
 have hld1:=fun fp (k:Int)=>aHA (fp:=fp) (d:=d) (tr:=tr) (s:=s) (bk:=bk) (kind:=k) (cnt:=0) (bv:=.slice none 0 0) (lv:=.slice none 0 0) (Lv:=.slice none 0 0) (ev:=.slice none 0 0) (tv:=.pointer none) h ⟨rfl⟩ ⟨rfl⟩ ⟨rfl⟩ ⟨rfl⟩ ⟨rfl⟩ hD hlen 0 (Gm.leaves p) oQ
 have hld2:=fun fp (k:Int) bv (hbv:One bv)=>aHA (fp:=fp) (d:=d) (tr:=tr) (s:=s) (bk:=bk) (kind:=k) (cnt:=0) (bv:=bv) (lv:=.slice none 0 0) (Lv:=.slice none 0 0) (ev:=.slice none 0 0) (tv:=.pointer none) h hbv ⟨rfl⟩ ⟨rfl⟩ ⟨rfl⟩ ⟨rfl⟩ hD hlen (Gm.leaves p) (1+t) oQ
 rw [show ((1+t:Nat):Int)=1+(t:Int) by omega] at hld2
 have hbf:bS (fun i=>[(0,6),(6,1),(7,1),(8,1),(9,2),(11,1),(12,1)][i]?) (List.replicate 4 (.pointer none)++[.int .i64 0,.int .i64 0,.int .i64 0]++[.slice none 0 0,.slice none 0 0]++[.int .u64 0]++[.slice none 0 0,.slice none 0 0]++[.pointer none]) [(0,wN d tr s bk p t),(1,.int .i64 3)]=some (cB d tr s bk p t 3 (.slice none 0 0) (.slice none 0 0) 0 (.slice none 0 0) (.slice none 0 0) (.pointer none)):=rfl
 by_cases hdn:σ.down=true
 ·have e1:ldS σ 0 (Gm.leaves p)=(8,[]):=by unfold ldS;rw [if_neg (by rw [hdn];simp;omega)]
  rw [e1] at hld1
  dsimp only at hld1
  refine W.k fun b_=>?_
  refine aG hmy ?_
  rintro _ Hd ⟨rfl,rfl⟩
  refine W.k fun b_=>?_
  refine W.cw hlv ?_
  refine eU (hld1 b_ 3) rfl ?_
  rintro _ _ ⟨v1,Hb,rfl,hB,rfl⟩
  have hB1:=hB.one
  refine W.k ?_
  refine Fin.to ((tr,cl (trc dt r) 201)::(Hd++Hk)) ?_
  exact F.f2 (.inl ⟨hdn,rfl,rfl⟩)
 have hdn2:σ.down=false:=by simpa using hdn
 have e1:ldS σ 0 (Gm.leaves p)=(0,σ.blks 0 (Gm.leaves p)):=by unfold ldS;rw [if_pos (.inr hdn2)]
 have e2:ldS σ (Gm.leaves p) (1+t)=(0,σ.blks (Gm.leaves p) (1+t)):=by unfold ldS;rw [if_pos (.inr hdn2)]
 rw [e1] at hld1
 rw [e2] at hld2
 dsimp only at hld1 hld2
 have hb1:=wO (a:=0) (n:=Gm.leaves p) hD.1 hdn2 hlen oQ
 have hb2:=wO (a:=Gm.leaves p) (n:=1+t) hD.1 hdn2 hlen oQ
 have hn1:=σ.blks_len 0 (Gm.leaves p)
 have hn2:=σ.blks_len (Gm.leaves p) (1+t)
 have hlb:gK p t σ r=vH p t r (σ.blks 0 (Gm.leaves p)) (σ.blks (Gm.leaves p) (1+t)):=rfl
 rw [hlb]
 clear hlb e1 e2 hdn
 generalize σ.blks 0 (Gm.leaves p)=l at *
 generalize σ.blks (Gm.leaves p) (1+t)=logs at *
 refine W.k fun b_=>?_
 refine aG hmy ?_
 rintro _ Hd ⟨rfl,rfl⟩
 refine W.k fun b_=>?_
 generalize b_=fp at *
 refine W.cw hlv ?_
 refine eU (hld1 fp 3) rfl ?_
 rintro _ _ ⟨v1,Hb,rfl,hB,rfl⟩
 have hB1:=hB.one
 refine W.k ?_
 rw [show (cB d tr s bk p t 3 (.slice none 0 0) (.slice none 0 0) 0 (.slice none 0 0) (.slice none 0 0) (.pointer none)).set 7 v1=cB d tr s bk p t 3 v1 (.slice none 0 0) 0 (.slice none 0 0) (.slice none 0 0) (.pointer none) from rfl]
 (refine SW.l [] [0,1,2,3,5,6,7,8] ?_;refine aX 4 ?_)
 refine W.cq hla ?_
 (refine bK [] ?_;refine aX 9 ?_)
 refine aG (hld2 fp 3 v1 hB1) ?_
 rintro _ _ ⟨v2,Hl,rfl,hL,rfl⟩
 have hL1:=hL.one
 (refine SL.l [10,11,12,13,14] ?_;refine aX 15 ?_;refine W.i ?_;refine SG.l [16,17] ?_)
 rw [show (cB d tr s bk p t 3 v1 (.slice none 0 0) 0 (.slice none 0 0) (.slice none 0 0) (.pointer none)).set 8 v2=cB d tr s bk p t 3 v1 v2 0 (.slice none 0 0) (.slice none 0 0) (.pointer none) from rfl]
 have hfi:=aJP (dt:=dt) (fp:=fp) (d:=d) (tr:=tr) (s:=s) (kind:=3) (cnt:=0) (lv:=v2) (Lv:=.slice none 0 0) (ev:=.slice none 0 0) (tv:=.pointer none) h hr hK hB hL1 ⟨rfl⟩ ⟨rfl⟩ ⟨rfl⟩ hn1 hb1
 by_cases hf:lU p t r.root l=true
 ·rw [vI hf]
  simp only [hf,eq_self,if_true] at hfi
  have hlk:uE p t r l logs β=lF β l:=by unfold uE;rw [if_pos hf]
  rw [hlk]
  refine W.k ?_
  refine aG hfi ?_
  rintro _ _ ⟨rfl,ev3,tv3,Hk3,Hx,hK3,rfl,tp,be,Ht,rfl,rfl,rfl,hT⟩
  refine W.k ?_
  rw [show (cB d tr s bk p t 3 v1 v2 0 (.slice none 0 0) (.slice (some ⟨be,0,none⟩) (Gm.sealed p) (Gm.sealed p)) (ptv tp)).set 6 (.int .i64 1)=cB d tr s bk p t ((1:Nat):Int) v1 v2 0 (.slice none 0 0) (.slice (some ⟨be,0,none⟩) (Gm.sealed p) (Gm.sealed p)) (ptv tp) from rfl]
  refine Fin.to ((tr,cl (trc dt r) 201)::(Hd++(Hk3++((fp,cl (cB d tr s bk p t ((1:Nat):Int) v1 v2 0 (.slice none 0 0) (.slice (some ⟨be,0,none⟩) (Gm.sealed p) (Gm.sealed p)) (ptv tp)) 297)::(Hb++((be,cl (uv (nD p l)) 33)::(Ht++[]))))))) ?_
  exact F.f2 (.inr ⟨hdn2,fp,Hk3,_,rfl,⟨v1,v2,0,_,_,_,_,⟨hB1,hL1,⟨rfl⟩,⟨rfl⟩,⟨rfl⟩⟩,rfl,fun _=>⟨tp,be,Hb,Ht,[],hB,rfl,rfl,hT,rfl⟩⟩,hK3,rfl⟩)
 have hff:lU p t r.root l=false:=by simpa using hf
 simp only [hff,iW,if_false] at hfi
 refine W.k ?_
 refine aG hfi ?_
 rintro _ _ ⟨rfl,ev3,tv3,Hk3,Hx,hK3,rfl,rfl,rfl,rfl⟩
 have hre:=aOt (dt:=dt) (fp:=fp) (d:=d) (tr:=tr) (s:=s) (kind:=3) (cnt:=0) (Lv:=.slice none 0 0) (ev:=.slice none 0 0) (tv:=.pointer none) h hr hK3 hB hL ⟨rfl⟩ ⟨rfl⟩ ⟨rfl⟩ hn1 hb1 hn2 hb2
 cases hlr:wY p t r logs with
 | none=>
  rw [tB hf hlr]
  rw [hlr] at hre
  dsimp only at hre
  have hlk:uE p t r l logs β=lF β l:=by unfold uE;rw [if_neg hf,hlr]
  rw [hlk]
  refine W.k ?_
  refine aG hre ?_
  rintro _ _ ⟨bv4,cnt4,Lv4,Hk4,Hb4,o4,rfl,rfl,hB4,hK4⟩
  have hB41:=hB4.one
  refine W.k ?_
  refine Fin.to ((tr,cl (trc dt r) 201)::(Hd++(Hk4++[(fp,cl (cB d tr s bk p t ((3:Nat):Int) bv4 v2 cnt4 Lv4 (.slice none 0 0) (.pointer none)) 297)]))) ?_
  exact F.f2 (.inr ⟨hdn2,fp,Hk4,_,rfl,⟨bv4,v2,cnt4,Lv4,_,_,[],⟨hB41,hL1,o4,⟨rfl⟩,⟨rfl⟩⟩,rfl,fun hh=>absurd rfl hh⟩,hK4,rfl⟩)
 | some x=>
  rw [wT hf hlr]
  rw [hlr] at hre
  dsimp only at hre
  have hlk:uE p t r l logs β=lF (aBm (lF β l) l) (sL p x.1 x.2 l):=by unfold uE;rw [if_neg hf,hlr]
  rw [hlk]
  have hm:=aFo hlr
  have hl4:=aBu p x.1 x.2 l
  have hl256:=aBt (c:=x.1) hm hb1
  generalize sL p x.1 x.2 l=l4 at *
  refine W.k ?_
  refine aG hre ?_
  rintro _ _ ⟨bv4,cnt4,Lv4,Hk4,Hb4,o4,rfl,rfl,hB4,hK4⟩
  have hB41:=hB4.one
  have hfi2:=aJP (dt:=dt) (fp:=fp) (d:=d) (tr:=tr) (s:=s) (kind:=3) (cnt:=cnt4) (lv:=v2) (Lv:=Lv4) (ev:=.slice none 0 0) (tv:=.pointer none) h hr hK4 hB4 hL1 o4 ⟨rfl⟩ ⟨rfl⟩ oQ hl256
  by_cases hf2:lU p t r.root l4=true
  ·rw [if_pos hf2]
   simp only [hf2,eq_self,if_true] at hfi2
   refine W.k ?_
   refine aG hfi2 ?_
   rintro _ _ ⟨rfl,ev5,tv5,Hk5,Hx5,hK5,rfl,tp,be,Ht,rfl,rfl,rfl,hT⟩
   refine W.k ?_
   rw [show (cB d tr s bk p t 3 bv4 v2 cnt4 Lv4 (.slice (some ⟨be,0,none⟩) (Gm.sealed p) (Gm.sealed p)) (ptv tp)).set 6 (.int .i64 2)=cB d tr s bk p t ((2:Nat):Int) bv4 v2 cnt4 Lv4 (.slice (some ⟨be,0,none⟩) (Gm.sealed p) (Gm.sealed p)) (ptv tp) from rfl]
   refine Fin.to ((tr,cl (trc dt r) 201)::(Hd++(Hk5++((fp,cl (cB d tr s bk p t ((2:Nat):Int) bv4 v2 cnt4 Lv4 (.slice (some ⟨be,0,none⟩) (Gm.sealed p) (Gm.sealed p)) (ptv tp)) 297)::(Hb4++((be,cl (uv (nD p l4)) 33)::(Ht++[]))))))) ?_
   exact F.f2 (.inr ⟨hdn2,fp,Hk5,_,rfl,⟨bv4,v2,cnt4,_,_,_,_,⟨hB41,hL1,o4,⟨rfl⟩,⟨rfl⟩⟩,rfl,fun _=>⟨tp,be,Hb4,Ht,[],hB4,rfl,rfl,hT,rfl⟩⟩,hK5,rfl⟩)
  ·rw [if_neg hf2]
   have hff2:lU p t r.root l4=false:=by simpa using hf2
   simp only [hff2,iW,if_false] at hfi2
   refine W.k ?_
   refine aG hfi2 ?_
   rintro _ _ ⟨rfl,ev5,tv5,Hk5,Hx5,hK5,rfl,rfl,rfl,rfl⟩
   refine W.k ?_
   refine Fin.to ((tr,cl (trc dt r) 201)::(Hd++(Hk5++[(fp,cl (cB d tr s bk p t ((3:Nat):Int) bv4 v2 cnt4 Lv4 (.slice none 0 0) (.pointer none)) 297)]))) ?_
   exact F.f2 (.inr ⟨hdn2,fp,Hk5,_,rfl,⟨bv4,v2,cnt4,Lv4,_,_,[],⟨hB41,hL1,o4,⟨rfl⟩,⟨rfl⟩⟩,rfl,fun hh=>absurd rfl hh⟩,hK5,rfl⟩)
abbrev gI(d tr s bk p t:Nat)(ev tv:Value)(w:Bool)(st:Int):List Value:=[ptv d,ptv tr,ptv s,ptv bk,.int .i64 (p:Int),.int .i64 (t:Int),ev,tv,.bool w,.int .i64 st]
theorem aHW{sp d tr s bk p t:Nat}{ev tv:Value}{wr:Bool}{st e:Int}(o0:One ev)(o1:One tv):Tri prog 35 [ptv sp,.int .i64 e] [(sp,cl (gI d tr s bk p t ev tv wr st) 98)] (fun _=>True) (fun v H=>v=.int .i64 e∧H=[(sp,cl (gI d tr s bk p t ev tv wr (if e=0 then st else 8)) 98)]):=by
 refine Tri.mk func35 rfl ntmps35 rfl fun w hw=>?_
 by_cases he:e=0
 ·rw [if_pos he]
  refine W.k ?_
  refine Fin.to [(sp,cl (gI d tr s bk p t ev tv wr st) 98)] ?_
  exact F.f1 ⟨rfl,rfl⟩
 ·rw [if_neg he]
  refine W.k ?_
  rw [show (gI d tr s bk p t ev tv wr st).set 9 (.int .i64 8)=gI d tr s bk p t ev tv wr 8 from rfl]
  refine Fin.to [(sp,cl (gI d tr s bk p t ev tv wr 8) 98)] ?_
  exact F.f1 ⟨rfl,rfl⟩
def rdK(p:Nat)(k:Int)(σ:Dv)(s:So)(β:Bk):Bk:=
 if s.st≠0 then β else if ¬ (0≤k∧k<(Gm.sealed p:Nat)) then β else if σ.down=true then β else β.add (fC (Ks p k.toNat) (σ.blk (Ks p k.toNat)))
theorem aAO{sp d tr s bk tb p t c b n:Nat}{ws:List (List UInt8)}{sr:Sr}(h:Gm.Ok p t){σ:Dv}{x:So}{β:Bk}{Hd HS Hk Hs:Hp}(hx:x.Ok p)(hD:fS d σ Hd)(hlen:σ.len=256*Gm.total p t)(hS:tI sp d tr s bk p t x HS)(hK:eR bk tb β Hk)(hSe:lI s c b n ws sr Hs)(hKo:qB n ws)(k:Int) :
  Tri prog 9 [ptv sp,.int .i64 k] (HS++(Hd++(Hs++Hk))) (fun _=>True)
  (fun v H=>∃ v1 Hr HS' Hk',v=.tuple #[v1,.int .i64 (rdS p (dT (Aes.enc ws n)) k σ x).1]∧Sl 5 1 v1 (cbs (rdS p (dT (Aes.enc ws n)) k σ x).2.1) Hr∧tI sp d tr s bk p t (rdS p (dT (Aes.enc ws n)) k σ x).2.2 HS'∧eR bk tb (rdK p k σ x β) Hk'∧H=HS'++(Hd++(Hs++(Hk'++Hr)))):=by
 obtain⟨ev,tp,He,Ht,rfl,hE,hT⟩:=hS
 refine Tri.mk func9 rfl ntmps9 rfl fun w hw=>?_
 have oe:=hE.isOne
 have hst:=aAP (sp:=sp) (F0:=gI d tr s bk p t ev (ptv tp) x.w x.st) (st:=x.st) rfl
 by_cases h0:x.st≠0
 ·have e1:rdS p (dT (Aes.enc ws n)) k σ x=(x.st,[],x):=by unfold rdS;rw [if_pos h0]
  have e2:rdK p k σ x β=β:=by unfold rdK;rw [if_pos h0]
  rw [e1,e2]
  dsimp only
  have h0':¬ x.st=0:=h0
  refine W.k ?_
  refine W.cw hst ?_
  refine Fin.to (((sp,cl (gI d tr s bk p t ev (ptv tp) x.w x.st) 98)::(He++Ht))++(Hd++(Hs++(Hk++[])))) ?_
  exact F.f2 ⟨_,[],_,Hk,rfl,Sl.nil _ _,⟨ev,tp,He,Ht,rfl,hE,hT⟩,hK,rfl⟩
 have h0':x.st=0:=Decidable.not_not.1 h0
 have hsa:=qJ h k
 by_cases hk:¬ (0≤k∧k<(Gm.sealed p:Nat))
 ·have e1:rdS p (dT (Aes.enc ws n)) k σ x=(3,[],x):=by unfold rdS;rw [if_neg h0,if_pos hk]
  have e2:rdK p k σ x β=β:=by unfold rdK;rw [if_neg h0,if_pos hk]
  rw [e1,e2]
  dsimp only
  rw [show Gm.atK (Gm.sealed p) (1+Gm.epochs p) k = -1 by unfold Gm.atK;rw [if_neg hk]] at hsa
  refine W.k ?_
  refine W.cw hst ?_
  refine W.cw hsa ?_
  refine Fin.to (((sp,cl (gI d tr s bk p t ev (ptv tp) x.w x.st) 98)::(He++Ht))++(Hd++(Hs++(Hk++[])))) ?_
  exact F.f2 ⟨_,[],_,Hk,rfl,Sl.nil _ _,⟨ev,tp,He,Ht,rfl,hE,hT⟩,hK,rfl⟩
 have hk2:=Decidable.not_not.1 hk
 obtain⟨j,rfl⟩:∃ j:Nat,k=j:=⟨k.toNat,by omega⟩
 have hsl:=Gm.sealed_le h
 have hel:=Gm.epochs_le h
 have hLe:Gm.leaves p=1+Gm.epochs p+Gm.sealed p:=rfl
 have htot:Gm.total p t=Gm.leaves p+(1+t):=rfl
 have hKs:Ks p j=1+Gm.epochs p+j:=rfl
 rw [show Gm.atK (Gm.sealed p) (1+Gm.epochs p) (j:Int)=((Ks p j:Nat):Int) by unfold Gm.atK;rw [if_pos hk2,hKs];omega] at hsa
 have hKl:Ks p j<Gm.total p t:=oQ
 have hby:=tZ (k:=Ks p j) (by have:=Gm.total_le2 h;omega)
 have hld:=aJ3 hD ((256*Ks p j:Nat):Int) 256
 have hr0:σ.rdy ((256*Ks p j:Nat):Int) 256=if σ.down=true then 8 else 0:=by
  unfold Dv.rdy
  split
  ·rfl
  ·rw [hlen,if_neg oQ]
 rw [hr0] at hld
 have hbk:(σ.blk (Ks p j))=σ.loadB ((256*Ks p j:Nat):Int) 256:=rfl
 have hsd:=fun e=>aHW (sp:=sp) (d:=d) (tr:=tr) (s:=s) (bk:=bk) (p:=p) (t:=t) (wr:=x.w) (st:=x.st) (e:=e) oe (show One (ptv tp) from inferInstance)
 by_cases hdn:σ.down=true
 ·have e1:rdS p (dT (Aes.enc ws n)) j σ x=(8,[],{ x with st:=8 }):=by unfold rdS;rw [if_neg h0,if_neg hk,if_pos hdn]
  have e2:rdK p j σ x β=β:=by unfold rdK;rw [if_neg h0,if_neg hk,if_pos hdn]
  rw [e1,e2]
  dsimp only
  rw [if_pos hdn] at hld
  have hsd8:=hsd 8
  rw [if_neg (show ¬ (8:Int)=0 by decide)] at hsd8
  refine W.k ?_
  refine W.cw hst ?_
  refine W.cw hsa ?_
  (refine SW.l [7] [0,1,2,3,4,5] ?_;refine aX 6 ?_)
  refine W.cq hby ?_
  (refine bK [] ?_;refine bV 7 ?_)
  refine aG hld ?_
  rintro _ _ ⟨sv,Hl,rfl,hsv,rfl⟩
  have hsv1:=hsv.isOne
  (refine SL.l [8,9,10,11,12,13] ?_)
  refine W.k ?_
  refine W.cw hsd8 ?_
  refine Fin.to (((sp,cl (gI d tr s bk p t ev (ptv tp) x.w 8) 98)::(He++Ht))++(Hd++(Hs++(Hk++[])))) ?_
  exact F.f2 ⟨_,[],_,Hk,rfl,Sl.nil _ _,⟨ev,tp,He,Ht,rfl,hE,hT⟩,hK,rfl⟩
 have hsd0:=hsd 0
 rw [if_pos rfl] at hsd0
 rw [if_neg hdn,← hbk] at hld
 have hdn2:σ.down=false:=by simpa using hdn
 have hb256:(σ.blk (Ks p j)).length=256:=Dv.blk_256 hD.1 hdn2 hlen hKl
 have hlf:=fun v=>aGC hK (Ks p j) v (σ.blk (Ks p j)) (by rw [hb256];decide)
 have hat:=aOR hT ((Ks p j:Nat):Int) (by rw [hx.lv];have:=Gm.leaves_le h;omega)
 have e2:rdK p j σ x β=β.add (fC (Ks p j) (σ.blk (Ks p j))):=by unfold rdK;rw [if_neg h0,if_neg hk,if_neg hdn];rfl
 have e1:rdS p (dT (Aes.enc ws n)) j σ x=if Sha.sum (fC (Ks p j) (σ.blk (Ks p j)))≠qK x.lv (Ks p j) then (20,[],{ x with st:=20 }) else (0,dT (Aes.enc ws n) (x.es.getD j 0) j (σ.blk (Ks p j)),x):=by unfold rdS;rw [if_neg h0,if_neg hk,if_neg hdn];rfl
 rw [e1,e2]
 clear e1 e2 hbk
 have hs32:(Sha.sum (fC (Ks p j) (σ.blk (Ks p j)))).length=32:=Sha.sum_len _
 generalize σ.blk (Ks p j)=B at *
 generalize β.add (fC (Ks p j) B)=β2 at *
 generalize Sha.sum (fC (Ks p j) B)=S1 at *
 refine W.k ?_
 refine W.cw hst ?_
 refine W.cw hsa ?_
 (refine SW.l [7] [0,1,2,3,4,5] ?_;refine aX 6 ?_)
 refine W.cq hby ?_
 (refine bK [] ?_;refine bV 7 ?_)
 refine aG hld ?_
 rintro _ _ ⟨sv,Hl,rfl,hsv,rfl⟩
 have hsv1:=hsv.isOne
 (refine SL.l [8,9,10,11,12,13] ?_)
 refine W.k ?_
 refine W.cw hsd0 ?_
 (refine SW.l [13] [0,1,2,3,4,5,6,8,9,10,11,12] ?_;refine aX 7 ?_)
 refine aG (hlf sv) ?_ (hpre:=fun w2 hs=>Rd.own (Hc:=Hk) hsv hs inferInstance)
 rintro _ Hk2 ⟨rfl,hK2⟩
 have hlv32:(qK x.lv ((Ks p j:Nat):Int)).length=32:=aIB hx.d _
 (refine bK [] ?_;refine bV 13 ?_)
 refine aG hat ?_
 rintro _ Hx ⟨rfl,hx2⟩
 have hx2:=hx2.symm
 subst hx2
 by_cases hne:S1=qK x.lv ((Ks p j:Nat):Int)
 ·rw [if_neg (fun hh=>hh hne)]
  (refine bK [] ?_;refine dN 14 rfl (aHH rfl rfl rfl hs32 hne) ?_;refine SS.dn ?_)
  have hen:x.es.length=Gm.sealed p:=hx.es
  rcases hE with ⟨-,hz,-⟩|⟨be,elen,ecap,ejunk,rfl,hexl,hej,hec,rfl⟩
  ·have h9:=iE x.es
   rw [hz,List.length_nil] at h9
   omega
  rw [iE] at hexl
  obtain rfl:elen=x.es.length:=by omega
  have hlu:(uv x.es++ejunk)[j]?=some (eX (x.es.getD j 0)):=by rw [aO (by rw [iE];omega)];exact aK8 oQ
  have hso:=fun v=>aLn hSe hKo (x.es.getD j 0) j oQ v B hb256
  refine W.k ?_
  (refine SW.l [14] [0,1,2,3,4,5,6,7,8,9,10,11,12,13] ?_;refine bV 14 ?_)
  refine aG (hso sv) ?_ (hpre:=fun w2 hs=>Rd.own (Hc:=Hs) hsv hs inferInstance)
  rintro _ _ ⟨q,rfl,rfl⟩
  (refine SL.l [15,16,17,18,19] ?_)
  refine W.k ?_
  refine Fin.to (((sp,cl (gI d tr s bk p t (.slice (some ⟨be,0,none⟩) x.es.length ecap) (ptv tp) x.w x.st) 98)::([(be,cl (uv x.es++ejunk) 33)]++Ht))++(Hd++(Hs++(Hk2++[(q,cl (cbs (dT (Aes.enc ws n) (x.es.getD j 0) j B)) 5)])))) ?_
  exact F.f2 ⟨_,_,_,Hk2,rfl,Sl.own _ 1 q (len:=256) (by rw [aI];rw [oS (fun y=>Aes.enc_len ..)];exact hb256),⟨_,tp,_,Ht,rfl,.inr ⟨be,x.es.length,ecap,ejunk,rfl,by rw [iE,Nat.mul_one],hej,hec,rfl⟩,hT⟩,hK2,rfl⟩
 ·rw [if_pos hne]
  (refine bK [] ?_;refine dN 14 rfl (aHI rfl rfl rfl hs32 hlv32 hne) ?_;refine SS.dn ?_)
  refine W.k ?_
  rw [show (gI d tr s bk p t ev (ptv tp) x.w x.st).set 9 (.int .i64 20)=gI d tr s bk p t ev (ptv tp) x.w 20 from rfl]
  (refine SW.l [] [0,1,2,3,4,5,6] ?_)
  refine W.k ?_
  refine Fin.to (((sp,cl (gI d tr s bk p t ev (ptv tp) x.w 20) 98)::(He++Ht))++(Hd++(Hs++(Hk2++[])))) ?_
  exact F.f2 ⟨_,[],_,Hk2,rfl,Sl.nil _ _,⟨ev,tp,He,Ht,rfl,hE,hT⟩,hK2,rfl⟩
end
theorem aBo{rows:List (Nat×List UInt8)}{σ σ2:Dv}{k:Nat}{x:Nat×List UInt8}(hp:putL (rows.take k) σ=(0,σ2))(hx:rows[k]?=some x) :
  putL (rows.take (k+1)) σ=(if (eY x.1 x.2 σ2).1=0 then (0,(eY x.1 x.2 σ2).2) else eY x.1 x.2 σ2)∧((eY x.1 x.2 σ2).1≠0→putL rows σ=eY x.1 x.2 σ2):=by
 have e1:putL (rows.take (k+1)) σ=(if (eY x.1 x.2 σ2).1=0 then (0,(eY x.1 x.2 σ2).2) else eY x.1 x.2 σ2):=by
  rw [bA,hx,dO,nK]
  show DS.and _ ((eY x.1 x.2).and fun σ=>(0,σ)) σ=_
  unfold DS.and
  rw [hp]
  simp
 refine⟨e1,fun hne=>?_⟩
 rw [← dD (k+1) rows,nK]
 unfold DS.and
 rw [e1,if_neg hne,if_neg hne]
theorem aFD{rows:List (Nat×List UInt8)}{σ:Dv}{k:Nat}(hk:rows.length≤k):putL (rows.take k) σ=putL rows σ:=by rw [aJ hk]
end Go.Proofs.YtnhnpjokpelkbaaGreat
