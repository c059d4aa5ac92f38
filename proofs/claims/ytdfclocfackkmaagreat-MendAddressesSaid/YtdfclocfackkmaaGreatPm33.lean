/- What stands on a device: it is redone by its log. -/
import Derived.Test.YtdfclocfackkmaaGreatPm32
set_option linter.unusedVariables false
set_option linter.unusedSimpArgs false
set_option linter.unusedSectionVars false
set_option maxHeartbeats 4000000
namespace Go.Proofs.YtdfclocfackkmaaGreat
open Go Go.Proofs.Tryz
section
attribute [local irreducible] SW SL SQ SH SA SS Pu Fin bS aN
def uP(p t:Nat)(r:Rg)(logs:LL):Option (UInt64×List Ent):=match nN p t logs with
 | some x=>if (x.1.toNat:Int)=r.c then some x else none
 | none=>none
theorem aBh{p t:Nat}{logs:LL}{x:UInt64×List Ent}(h:nN p t logs=some x):iY p t x.2=true:=by
 unfold nN at h;dsimp only at h;split at h
 ·rename_i hc;cases h;exact hc.2.1
 cases h
theorem tT(p:Nat)(l:List Ent):∀ m:LL,(qX p m l).length=m.length:=by
 unfold qX;induction l with
 | nil=>intro m;rfl
 | cons x l ih=>intro m;rw [fC,ih,cE]
theorem xN(es:List UInt64)(ts:List Nat):∀ m:LL,(rR es m ts).length=m.length:=by
 unfold rR;induction ts with
 | nil=>intro m;rfl
 | cons x l ih=>intro m;rw [fC,ih,cE]
theorem aCT(p:Nat)(m:LL)(l:List Ent)(x:Ent):qX p m (l++[x])=(qX p m l).set (1+Gm.epochs p+x.1.toNat) x.2:=by unfold qX;rw [iH];rfl
theorem uS(c:UInt64)(es:List UInt64)(l:List Ent)(x:Ent):eD c es (l++[x])=(eD c es l).set x.1.toNat c:=by unfold eD;rw [iH];rfl
theorem aCU(es:List UInt64)(m:LL)(ts:List Nat)(t:Nat):rR es m (ts++[t])=(rR es m ts).set (1+t) (epB t es):=by unfold rR;rw [iH];rfl
theorem uW{p t:Nat}{l:List Ent}(hm:iY p t l=true):∀ k∈dA l,k<Gm.epochs p:=by
 have hall:∀ x∈l,x.1.toNat/32<Gm.epochs p:=fun x hx=>by obtain⟨i,hi⟩:=cW.1 hx;unfold iY at hm;rw [bR] at hm;obtain⟨h1,h2,-⟩:=nF hm.2 i x hi;unfold Gm.epochs Gm.up;omega
 have key:∀ (l:List Ent) (o:List Nat),(∀ x∈l,x.1.toNat/32<Gm.epochs p)->(∀ k∈o,k<Gm.epochs p)->∀ k∈l.foldl vM o,k<Gm.epochs p:=fun l=>by
  induction l with
  | nil=>intro o _ ho;exact ho
  | cons x l ih=>
   intro o hl ho
   rw [fC]
   refine ih _ (fun y hy=>hl y (cV _ hy)) fun k hk=>?_
   unfold vM at hk
   split at hk
   ·exact ho k hk
   ·rcases bJ.1 hk with h|h
    ·exact ho k h
    ·rw [bW] at h;rw [h];exact hl x (gZ ..)
 exact key l [] hall (by simp)
theorem aE5(es:List UInt64)(k:Nat)(c:UInt64):(uv es).set k (dZ c)=uv (es.set k c):=gC.symm
theorem uV{vs junk:LV}{i:Nat}(h:i<vs.length)(u:Value):(vs++junk).set i u=vs.set i u++junk:=gI _ _ h
theorem tB(p:Nat)(l:LL):(nZ p l).length=Gm.sealed p:=by unfold nZ;simp
theorem uG{us:LV}{l:List Ent}{junk:LV}(h:us.length=l.length){k:Nat}{x:Ent}{u:Value}(hu:us[k]?=some u)(hx:l[k]?=some x):(((eH us l++junk).drop (k*2)).take 2)=[.int .i64 x.1,u]:=by have hkl:=(aD.1 hx).1;have hle:=fL us l h;rw [cJ oQ,bU (by rw [bG];omega)];exact aFN hu hx
theorem aOW{dt fp d tr s bk tb p t:Nat}(h:Gm.Ok p t){kind cnt:Int}{bv lv Lv ev tv:Value}{bss logs:LL}{D:Bk}{r:Rg}(hr:r.Ok){Hk Hb Hl:Hp}(hK:eP bk tb D Hk)(hB:Bls bv bss Hb)(hL:Bls lv logs Hl)(o2:One Lv)(o3:One ev)(o4:One tv)(hn:bss.length=Gm.leaves p)(hb:∀ b∈bss,b.length=256)(hln:logs.length=1+t)(hlb:∀ b∈logs,b.length=256):Tri prog 138 [ptv fp] ((fp,cl (bZ d tr s bk p t kind bv lv cnt Lv ev tv) 157)::(tr,cl (trc dt r) 201)::(Hk++(Hb++Hl))) NT (fun v H=>∃ bv' cnt' Lv' Hk' Hb',One Lv'/\H=(fp,cl (bZ d tr s bk p t kind bv' lv cnt' Lv' ev tv) 157)::(tr,cl (trc dt r) 201)::(Hk'++(Hb'++Hl)) /\ match uP p t r logs with | none=>v=.bool false/\Bls bv' bss Hb'/\eP bk tb D Hk' | some x=>v=.bool true/\Bls bv' (qH p x.1 x.2 bss) Hb'/\eP bk tb (aCS D bss) Hk'):=by
 have hbo:=hB.one;have hlo:=hL.one;have hB0:=hB;have hll:=Gm.leaves_le h;have hsl:=Gm.sealed_le h;have hel:=Gm.epochs_le h;have hLe:Gm.leaves p=1+Gm.epochs p+Gm.sealed p:=rfl;have ht:=h.2.2.2;have hrd:=uR tr dt r hr;obtain⟨lvs,Hlv,Hlt,hSl,hRl,rfl⟩:=hL;have hpa:=fun v=>aLH h v lvs logs hRl hln hlb;obtain⟨la,ll,lc,rfl,-⟩:=hSl.form;refine Tri.mt func138 ntmps138 fun w hw=>?_;have hl3:(bZ d tr s bk p t kind bv (.slice la ll lc) cnt Lv ev tv).length=13:=rfl;have hq0:(rgc r)[0]?=some (.int .u64 r.c):=rfl;unfold uP;refine pC ?_;refine mQ ?_;refine W.i ?_;refine pC ?_;refine bP [0] [] (fun x:Nat×LV×Int×Hp=>[(3,ptv x.1),(4,.int .i64 x.2.2.1)]) (fun x=>(x.1,cl x.2.1 154)::x.2.2.2)
  (fun x=>(nN p t logs=none/\x.2.2.1=4/\x.2.1=[.int .u64 0,.slice none 0 0])\/(∃ y ev us He Hb,nN p t logs=some y/\x.2.2.1=0/\x.2.1=[dZ y.1,ev]/\Sl 112 2 ev (eH us y.2) He/\RB Hb us (y.2.map Prod.snd)/\x.2.2.2=He++Hb)) ?_ ?_
 ·cases hpl:nN p t logs with
  | none=>
   rw [hpl] at hpa
   (refine SW.l [] [0,1,2,3,4,5,6,7,8] ?_;skip )
   refine iV 9 13 ?_ ?_ rfl rfl
   case' refine_1=>
    refine aF (hpa _) ?_ (hpre:=fun w2 hs=>Rd.own (Hc:=Hlt) hSl hs inferInstance)
    rintro _ _ ⟨Hn,⟨rfl,rfl⟩,rfl⟩
    refine dU ?_
    refine dS 10 rfl (fA rfl rfl) ?_
    refine dS 11 rfl (yH rfl rfl rfl) ?_
    refine dS 12 rfl (yH rfl rfl rfl) ?_
    refine aX 13 ?_
    refine W.al fun b3=>?_
    refine dU ?_
   case' refine_2=>
    refine W.al fun b3=>?_
    refine dU ?_
    refine aX 9 ?_
    refine aF (hpa _) ?_ (hpre:=fun w2 hs=>Rd.own (Hc:=Hlt) hSl hs inferInstance)
    rintro _ _ ⟨Hn,⟨rfl,rfl⟩,rfl⟩
    refine dU ?_
    refine dS 10 rfl (fA rfl rfl) ?_
    refine dS 11 rfl (yH rfl rfl rfl) ?_
    refine dS 12 rfl (yH rfl rfl rfl) ?_
   all_goals
    refine aX 14 ?_
    refine W.i ?_
    refine dS 15 rfl (rN rfl rfl) ?_
    refine SS.dn ?_
    refine bS.mk (b3,[.int .u64 0,.slice none 0 0],4,[]) ?_
    exact .inl ⟨rfl,rfl,rfl⟩
  | some y=>
   rw [hpl] at hpa
   (refine SW.l [] [0,1,2,3,4,5,6,7,8] ?_;skip )
   refine iV 9 13 ?_ ?_ rfl rfl
   case' refine_1=>
    refine aF (hpa _) ?_ (hpre:=fun w2 hs=>Rd.own (Hc:=Hlt) hSl hs inferInstance)
    rintro _ _ ⟨Hn,⟨ev2,us,He,Hbe,rfl,hSe,hRe,rfl⟩,rfl⟩
    have hSe1:=hSe.isOne
    refine dU ?_
    refine dS 10 rfl (fA rfl rfl) ?_
    refine dS 11 rfl (yH rfl rfl rfl) ?_
    refine dS 12 rfl (yH rfl rfl rfl) ?_
    refine aX 13 ?_
    refine W.al fun b3=>?_
    refine dU ?_
   case' refine_2=>
    refine W.al fun b3=>?_
    refine dU ?_
    refine aX 9 ?_
    refine aF (hpa _) ?_ (hpre:=fun w2 hs=>Rd.own (Hc:=Hlt) hSl hs inferInstance)
    rintro _ _ ⟨Hn,⟨ev2,us,He,Hbe,rfl,hSe,hRe,rfl⟩,rfl⟩
    have hSe1:=hSe.isOne
    refine dU ?_
    refine dS 10 rfl (fA rfl rfl) ?_
    refine dS 11 rfl (yH rfl rfl rfl) ?_
    refine dS 12 rfl (yH rfl rfl rfl) ?_
   all_goals
    refine aX 14 ?_
    refine W.i ?_
    refine dS 15 rfl (rN rfl rfl) ?_
    refine SS.dn ?_
    refine bS.mk (b3,[dZ y.1,ev2],0,He++Hbe) ?_
    exact .inr ⟨y,ev2,us,He,Hbe,rfl,rfl,rfl,hSe,hRe,rfl⟩
 rintro⟨b3,lc3,e3,Hn⟩ hP;dsimp only at hP |-;rcases hP with ⟨hpl,rfl,rfl⟩|⟨⟨c,es⟩,ev2,us,He,Hbe,hpl,rfl,rfl,hSe,hRe,rfl⟩
 ·rw [hpl];refine W.k ?_;(refine SW.l [] [0,1,2,3,4,5,6,7,8,9] ?_;(first|refine cY 10 rfl ?_;refine SG.l [11,12,13,14] ?_|refine aX 10 ?_));refine W.k ?_;refine Fin.to ((fp,cl (bZ d tr s bk p t kind bv (.slice la ll lc) cnt Lv ev tv) 157)::(tr,cl (trc dt r) 201)::(Hk++(Hb++(Hlv++Hlt)))) ?_;exact F.f1 ⟨bv,cnt,Lv,Hk,Hb,o2,rfl,rfl,hB0,hK⟩
 have hSe1:=hSe.isOne;have hmay:=aBh hpl;rw [hpl];dsimp only at hSe hRe hmay |-;by_cases hc:¬ (c.toNat:Int)=r.c
 ·rw [if_neg hc];refine W.k ?_;(refine SW.l [] [0,1,2,3,4,5,6,7,8,9] ?_;(first|refine cY 10 rfl ?_;refine SG.l [11,12,13,14] ?_|refine aX 10 ?_));refine W.cq hrd ?_;(refine SL.l [11,12,13,14] ?_);refine W.k ?_;refine Fin.to ((fp,cl (bZ d tr s bk p t kind bv (.slice la ll lc) cnt Lv ev tv) 157)::(tr,cl (trc dt r) 201)::(Hk++(Hb++(Hlv++Hlt)))) ?_;exact F.f1 ⟨bv,cnt,Lv,Hk,Hb,o2,rfl,rfl,hB0,hK⟩
 have hc2:(c.toNat:Int)=r.c:=Decidable.not_not.1 hc;rw [if_pos hc2];dsimp only;refine W.k ?_;(refine SW.l [] [0,1,2,3,4,5,6,7,8,9] ?_;(first|refine cY 10 rfl ?_;refine SG.l [11,12,13,14] ?_|refine aX 10 ?_));refine W.cq hrd ?_;(refine SL.l [11,12,13,14] ?_);refine W.k ?_;rw [show List.take 9 (bZ d tr s bk p t kind bv (.slice la ll lc) cnt Lv ev tv)++[dZ c,ev2]++List.drop (9+2) (bZ d tr s bk p t kind bv (.slice la ll lc) cnt Lv ev tv)=bZ d tr s bk p t kind bv (.slice la ll lc) (c.toNat:Int) ev2 ev tv from rfl];have hpt:=aBi (fp:=fp) (d:=d) (tr:=tr) (s:=s) (kind:=kind) (cnt:=(c.toNat:Int)) (lv:=.slice la ll lc) (Lv:=ev2) (ev:=ev) (tv:=tv) h hK hB inferInstance hSe1 o3 o4 hn hb;rw [aHK bss hb oQ] at hpt;refine aF hpt ?_;rintro _ _ ⟨tp,be,Htr,Hk2,rfl,rfl,-,hK2⟩;clear hpt hpa hrd;obtain⟨vs,Hv,Ht0,hS,hR,rfl⟩:=hB;have hvl:=hR.1;rcases hS with ⟨-,hz,-⟩|⟨bb,len,cap,junk,rfl,hxl,hj,hlc,rfl⟩
 ·rw [hz] at hvl;simp at hvl;omega
 have hesl:1<=es.length/\es.length<=t:=by unfold iY at hmay;rw [bR,decide_eq_true_iff] at hmay;exact hmay.1
 have hmall:∀ (k:Nat) (x:Ent),es[k]?=some x -> -1<x.1/\x.1<(Gm.sealed p:Nat)/\x.2.length=256:=by unfold iY at hmay;rw [bR] at hmay;exact nF hmay.2
 have htlt:=uW hmay;have htle:=oH es;have hul:us.length=es.length:=by rw [hRe.1,aC]
 have hoc:=hRe.oc;have hebl:=tB p bss;have hSe0:=hSe;have hel2:=fL us es hul;rcases hSe with ⟨-,hz,-⟩|⟨eb,elen,ecap,ejunk,rfl,hexl,hej,hec,rfl⟩
 ·rw [hz] at hel2;simp at hel2;omega
 obtain rfl:elen=es.length:=by omega
 obtain rfl:len=vs.length:=by omega
 have hredo:qH p c es bss=rR (eD c (nZ p bss) es) (qX p bss es) (dA es):=rfl;rw [hredo];clear hredo hB0 hmay hc hpl;generalize nZ p bss=E0 at *;refine W.j ?_;refine bP [0,6] [(bb,cl (vs++junk) 31),(be,cl (uv E0) 23)] (fun _:LV=>[]) (fun y=>[(bb,cl (y++junk) 31),(be,cl (uv (eD c E0 es)) 23)]) (fun y=>RB (Ht0++Hbe) y (qX p bss es)) ?_ ?_
 ·rw [show uv E0=uv (eD c E0 (es.take 0)) from rfl];refine W.k ?_;refine bE [0,3,6,50,51] (fun y:Nat×LV=>[(52,.int .i64 (y.1:Int))]) (fun y=>[(bb,cl (y.2++junk) 31),(be,cl (uv (eD c E0 (es.take y.1))) 23)]) (fun y=>es.length-y.1) (fun y=>y.1<=es.length/\RB (Ht0++Hbe) y.2 (qX p bss (es.take y.1))) (0,vs) ⟨Nat.zero_le _,hR.mono fun x hx=>aO _ hx⟩ ?_;rintro⟨k,vs2⟩ ⟨hk,hR2⟩;dsimp only at hk hR2 |-;have hvl2:=hR2.1;rw [tT,hn] at hvl2;have hoc2:=hR2.oc;by_cases hkn:k<es.length
  ·have hx:=aA hkn;have htk:es.take (k+1)=es.take k++[es[k]]:=by rw [aY,hx];rfl
   obtain⟨u,huk,hru⟩:=hRe.2 k es[k].2 (by rw [aL,hx];rfl);have hrow:=uG (junk:=ejunk) hul huk hx;obtain⟨hx1,hx2,hx3⟩:=hmall k _ hx;have hSs:=aCT p bss (es.take k) es[k];have hEs:=uS c E0 (es.take k) es[k];rw [<-htk] at hSs hEs;have hEl:=lR c (es.take k) E0;have huo:=hru.one;generalize es[k]=x at *;obtain⟨K,hKK⟩:∃ K:Nat,x.1=(K:Int):=⟨x.1.toNat,oQ⟩;rw [show x.1.toNat=K by omega] at hSs hEs;rw [hKK] at hrow;have hsa:=qD h (K:Int);rw [show Gm.atK (Gm.sealed p) (1+Gm.epochs p) (K:Int)=((1+Gm.epochs p+K:Nat):Int) by unfold Gm.atK;rw [if_pos oQ];omega] at hsa;have hset:=uV (vs:=vs2) (junk:=junk) (i:=1+Gm.epochs p+K) oQ u;have hset2:=aE5 (eD c E0 (es.take k)) K c;rw [<-hEs] at hset2;have hlt1:1+Gm.epochs p+K<(vs2++junk).length:=by rw [aB];omega
   have hlt2:K<(uv (eD c E0 (es.take k))).length:=by rw [eN,hEl];omega
   refine W.k fun b_=>?_;(refine SW.l [] [0,1,2,3,4,5,6,7,8,9,10,12,13] ?_;refine aX 11 ?_);refine W.cq hsa ?_;(refine SL.l [14] ?_;refine aX 15 ?_;refine W.i ?_;refine SS.dn ?_);rw [hset];refine W.k ?_;rw [hset2];refine aN.mk (k+1,vs2.set (1+Gm.epochs p+K) u) ?_;refine⟨hkn,?_⟩;dsimp only;rw [hSs];exact hR2.set (hru.mono fun x hx=>aM _ hx) _
  have hkl:k=es.length:=oQ;rw [hkl,bO] at hR2 |-;subst hkl;refine W.k ?_;refine bS.mk vs2 ?_;exact hR2
 rintro vs2 hR2;have hEl:=lR c es E0;have hmt:=aI4 (fp:=fp) (d:=d) (tr:=tr) (s:=s) (bk:=bk) (p:=p) (t:=t) (kind:=kind) (cnt:=(c.toNat:Int)) (bv:=.slice (some ⟨bb,0,none⟩) vs.length cap) (lv:=.slice la ll lc) (ev:=ev) (tv:=tv) us es hul hoc (fun x hx=>by obtain⟨i,hi⟩:=cW.1 hx;have:=hmall i x hi;omega) oQ hSe0 inferInstance inferInstance o3 o4;have hvl2:=hR2.1;rw [tT,hn] at hvl2;generalize eD c E0 es=E1 at *;generalize qX p bss es=M1 at *;refine W.k ?_;refine aF hmt ?_;rintro v79 _ ⟨Hn,hSt,rfl⟩;have hSt1:=hSt.isOne;obtain⟨ta,tl,tc2,rfl,htl⟩:=hSt.form;rw [Nat.mul_one,aC] at htl;subst htl;refine W.j ?_;refine bP [] [(bb,cl (vs2++junk) 31)] (fun _:LV×Hp=>[]) (fun y=>(bb,cl (y.1++junk) 31)::y.2) (fun y=>RB ((Ht0++Hbe)++y.2) y.1 (rR E1 M1 (dA es))) ?_ ?_
 ·refine W.k ?_;refine bE [0,6,79,80] (fun y:Nat×LV×Hp=>[(81,.int .i64 (y.1:Int))]) (fun y=>(bb,cl (y.2.1++junk) 31)::y.2.2) (fun y=>(dA es).length-y.1) (fun y=>y.1<=(dA es).length/\RB ((Ht0++Hbe)++y.2.2) y.2.1 (rR E1 M1 ((dA es).take y.1))) (0,vs2,[]) ⟨Nat.zero_le _,by rw [aG];exact hR2⟩ ?_;rintro⟨k,vs3,Hn3⟩ ⟨hk,hR3⟩;dsimp only at hk hR3 |-;have hvl3:=hR3.1;rw [xN] at hvl3;have hM1:=hR2.1;have hoc3:=hR3.oc;by_cases hkn:k<(dA es).length
  ·rcases hSt with ⟨hz,hz2,-⟩|⟨qb,qlen,qcap,qjunk,hz,hqxl,hqj,hqc,rfl⟩
   ·simp only [Value.slice.injEq] at hz;omega
   simp only [Value.slice.injEq] at hz;obtain⟨rfl,rfl,rfl⟩:=hz;have hx:=aA hkn;have hlu:(nv (dA es)++qjunk)[k]?=some (.int .i64 (((dA es)[k]:Nat):Int)):=by rw [aJ (by rw [aC];exact hkn),aL,hx];rfl
   have htk:(dA es).take (k+1)=(dA es).take k++[(dA es)[k]]:=by rw [aY,hx];rfl
   have hlt:=htlt _ (dG hkn);have hTs:=aCU E1 M1 ((dA es).take k) (dA es)[k];rw [<-htk] at hTs;generalize (dA es)[k]=q at *;have hsb:=aAF h q hlt (.slice (some ⟨be,0,none⟩) (Gm.sealed p) (Gm.sealed p)) E1 oQ;have hea:=uK h (q:Int);rw [show Gm.atK (Gm.epochs p) 1 (q:Int)=((1+q:Nat):Int) by unfold Gm.atK;rw [if_pos oQ];omega] at hea;have hlt1:1+q<(vs3++junk).length:=by rw [aB];omega
   refine W.k ?_;refine aF hsb ?_ (hpre:=fun w2 hs=>Rd.own (Hc:=[]) (Sl.own 23 1 be (len:=Gm.sealed p) (xs:=uv E1) (by rw [eN];omega)) hs inferInstance);rintro _ _ ⟨b5,rfl,rfl⟩;have hset:=uV (vs:=vs3) (junk:=junk) (i:=1+q) oQ (.slice (some ⟨b5,0,none⟩) 256 256);refine W.k ?_;(refine SW.l [] [0,1,2,3,4,5,6,7,8,9,11] ?_;refine aX 10 ?_);refine W.cq hea ?_;(refine SL.l [12] ?_;refine aX 13 ?_;refine W.i ?_;refine SS.dn ?_);rw [hset];refine W.k ?_;refine aN.mk (k+1,vs3.set (1+q) (.slice (some ⟨b5,0,none⟩) 256 256),(b5,cl (cbs (epB q E1)) 5)::Hn3) ?_;refine⟨hkn,?_⟩;dsimp only;rw [hTs];refine (hR3.mono fun x hx=>?_).set ((RdH.of (Sl.own 5 1 b5 (len:=256) (xs:=cbs (epB q E1)) (by rw [aI,pP]))).mono fun x hx=>?_) _
   ·rcases bJ.1 hx with h|h
    ·exact aO _ h
    exact aM _ (cV _ h)
   rw [bW] at hx;subst hx;exact aM _ (gZ ..)
  have hkl:k=(dA es).length:=oQ;rw [hkl,bO] at hR3;subst hkl;refine W.k ?_;refine bS.mk (vs3,Hn3) ?_;exact hR3
 rintro⟨vs3,Hn3⟩ hR3;dsimp only at hR3 |-;have hvl3:=hR3.1;rw [xN,hR2.1.symm.trans hvl2] at hvl3;refine W.k ?_;refine Fin.to ((fp,cl (bZ d tr s bk p t kind (.slice (some ⟨bb,0,none⟩) vs.length cap) (.slice la ll lc) (c.toNat:Int) (.slice (some ⟨eb,0,none⟩) es.length ecap) ev tv) 157)::(tr,cl (trc dt r) 201)::(Hk2++(([(bb,cl (vs3++junk) 31)]++((Ht0++Hbe)++Hn3))++(Hlv++Hlt)))) ?_;refine F.f1 ⟨_,_,_,Hk2,_,inferInstance,rfl,rfl,⟨vs3,_,_,?_,hR3,rfl⟩,hK2⟩;exact .inr ⟨bb,vs.length,cap,junk,rfl,oQ,hj,hlc,rfl⟩
theorem pF{p t:Nat}{r:Rg}{l logs:LL}(h:lC p t r.root l=true):uJ p t r l logs=(1,l):=by unfold uJ;rw [if_pos h]
theorem nQ{p t:Nat}{r:Rg}{l logs:LL}(h:¬ lC p t r.root l=true)(h2:uP p t r logs=none):uJ p t r l logs=(3,l):=by
 unfold uJ uP at *;rw [if_neg h];cases hp:nN p t logs with
 | none=>rfl
 | some x=>
  rw [hp] at h2
  dsimp only at h2 |-
  split at h2
  ·cases h2
  ·rename_i hc
   rw [if_neg (fun hh=>hc hh.1)]
theorem qB{p t:Nat}{r:Rg}{l logs:LL}(h:¬ lC p t r.root l=true){x:UInt64×List Ent}(h2:uP p t r logs=some x):uJ p t r l logs=if lC p t r.root (qH p x.1 x.2 l)=true then (2,qH p x.1 x.2 l) else (3,l):=by
 unfold uJ uP at *;rw [if_neg h];cases hp:nN p t logs with
 | none=>rw [hp] at h2;cases h2
 | some y=>
  rw [hp] at h2
  dsimp only at h2 |-
  split at h2
  ·cases h2
   rename_i hc
   by_cases hf:lC p t r.root (qH p x.1 x.2 l)=true
   ·rw [if_pos ⟨hc,hf⟩,if_pos hf]
   ·rw [if_neg (fun hh=>hf hh.2),if_neg hf]
  ·cases h2
def tI(p t:Nat)(r:Rg)(l logs:LL)(D:Bk):Bk:=
 if lC p t r.root l=true then vI D l else match uP p t r logs with|some x=>vI (aCS (vI D l) l) (qH p x.1 x.2 l)|none=>vI D l
def aNF(fp d tr s bk p t k:Nat)(l:LL)(H:Hp):Prop:=
 ∃ bv lv cnt Lv ev tv Hx,(One bv/\One lv/\One Lv/\One ev/\One tv)/\H=(fp,cl (bZ d tr s bk p t (k:Int) bv lv cnt Lv ev tv) 157)::Hx /\
  (k≠3->∃ tp be Hb Ht Hz,Bls bv l Hb/\tv=ptv tp/\ev=.slice (some ⟨be,0,none⟩) (Gm.sealed p) (Gm.sealed p)/\rJ tp bk (gF l) Ht/\Hx=Hb++((be,cl (uv (nZ p l)) 23)::(Ht++Hz)))
theorem aJj{p t:Nat}:∀ {l:List Ent} {m:LL},(∀ x∈l,x.2.length=256)->(∀ b∈m,b.length=256)->∀ b∈qX p m l,b.length=256:=by
 intro l;unfold qX;induction l with
 | nil=>intro m _ h;exact h
 | cons x l ih=>
  intro m hl h
  rw [fC]
  refine ih (fun y hy=>hl y (cV _ hy)) fun b hb=>?_
  rcases gT hb with h1|h1
  ·exact h b h1
  ·rw [h1];exact hl x (gZ ..)
theorem aJk{es:List UInt64}:∀ {ts:List Nat} {m:LL},(∀ b∈m,b.length=256)->∀ b∈rR es m ts,b.length=256:=by
 intro l;unfold rR;induction l with
 | nil=>intro m h;exact h
 | cons x l ih=>
  intro m h
  rw [fC]
  refine ih fun b hb=>?_
  rcases gT hb with h1|h1
  ·exact h b h1
  ·rw [h1];exact pP _ _
theorem tS(p:Nat)(c:UInt64)(l:List Ent)(m:LL):(qH p c l m).length=m.length:=by unfold qH;rw [xN,tT]
theorem aBm{p t:Nat}{c:UInt64}{l:List Ent}{m:LL}(hm:iY p t l=true)(h:∀ b∈m,b.length=256):∀ b∈qH p c l m,b.length=256:=by unfold qH;refine aJk (aJj (t:=t) (fun x hx=>?_) h);obtain⟨i,hi⟩:=cW.1 hx;exact aAn hm i x hi
theorem aFZ{p t:Nat}{r:Rg}{logs:LL}{x:UInt64×List Ent}(h:uP p t r logs=some x):iY p t x.2=true:=by
 unfold uP at h;cases hp:nN p t logs with
 | none=>rw [hp] at h;cases h
 | some y=>
  rw [hp] at h
  dsimp only at h
  split at h
  ·cases h;exact aBh hp
  ·cases h
theorem Dv.blk_256{C:Dv}{m k:Nat}(hok:C.Ok)(hd:C.down=false)(hl:C.len=256*m)(hk:k<m):(C.blk k).length=256:=by
 unfold Dv.blk Dv.loadB;have hr:C.rdy ((256*k:Nat):Int) 256=0:=by unfold Dv.rdy;rw [if_neg (by rw [hd];decide),if_neg oQ]
 rw [if_pos hr,aH,bG,rM hok.ok,aS];unfold Dv.len at hl;show min 256 _=256;omega
theorem vX{C:Dv}{m a n:Nat}(hok:C.Ok)(hd:C.down=false)(hl:C.len=256*m)(hk:a+n<=m):∀ b∈C.blks a n,b.length=256:=fun b hb=>by
 unfold Dv.blks at hb
 obtain⟨i,hi,rfl⟩:=bM.1 hb
 have:=eK.1 hi
 exact Dv.blk_256 hok hd hl oQ
theorem aKu{dt d tr s bk tb p t:Nat}(h:Gm.Ok p t){C:Dv}{r:Rg}{D:Bk}{Hd Hk:Hp}(hD:eX d C Hd)(hlen:C.len=256*Gm.total p t)(hr:r.Ok)(hK:eP bk tb D Hk):Tri prog 58 [vW d tr s bk p t] ((tr,cl (trc dt r) 201)::(Hd++Hk)) NT (fun v H=>(C.down=true/\v=.tuple #[.pointer none,.int .i64 8]/\H=(tr,cl (trc dt r) 201)::(Hd++Hk)) \/ (C.down=false/\∃ fp Hk' Hf,v=.tuple #[ptv fp,.int .i64 0]/\aNF fp d tr s bk p t (eW p t C r).1 (eW p t C r).2 Hf/\eP bk tb (tI p t r (C.blks 0 (Gm.leaves p)) (C.blks (Gm.leaves p) (1+t)) D) Hk' /\ H=(tr,cl (trc dt r) 201)::(Hd++(Hk'++Hf)))):=by
 refine Tri.mt func58 ntmps58 fun w hw=>?_;have hmy:=aHa (tr:=tr) (s:=s) (bk:=bk) h hD hlen;have ht:=h.2.2.2;have hlv:=aDG h;have hla:=aCx h 0;have hll:=Gm.leaves_le h;have hl1:1<=Gm.leaves p:=by unfold Gm.leaves;omega
 have htot:Gm.total p t=Gm.leaves p+(1+t):=rfl;rw [show Gm.atK (1+t) (Gm.leaves p) 0=((Gm.leaves p:Nat):Int) by unfold Gm.atK;rw [if_pos oQ];omega] at hla;have hld1:=fun fp (k:Int)=>aHV (fp:=fp) (d:=d) (tr:=tr) (s:=s) (bk:=bk) (kind:=k) (cnt:=0) (bv:=.slice none 0 0) (lv:=.slice none 0 0) (Lv:=.slice none 0 0) (ev:=.slice none 0 0) (tv:=.pointer none) h ⟨rfl⟩ ⟨rfl⟩ ⟨rfl⟩ ⟨rfl⟩ ⟨rfl⟩ hD hlen 0 (Gm.leaves p) oQ;have hld2:=fun fp (k:Int) bv (hbv:One bv)=>aHV (fp:=fp) (d:=d) (tr:=tr) (s:=s) (bk:=bk) (kind:=k) (cnt:=0) (bv:=bv) (lv:=.slice none 0 0) (Lv:=.slice none 0 0) (ev:=.slice none 0 0) (tv:=.pointer none) h hbv ⟨rfl⟩ ⟨rfl⟩ ⟨rfl⟩ ⟨rfl⟩ hD hlen (Gm.leaves p) (1+t) oQ;rw [show ((1+t:Nat):Int)=1+(t:Int) by omega] at hld2;have hbf:bV (fun i=>[(0,6),(6,1),(7,1),(8,1),(9,2),(11,1),(12,1)][i]?) (List.replicate 4 (.pointer none)++[.int .i64 0,.int .i64 0,.int .i64 0]++[.slice none 0 0,.slice none 0 0]++[.int .u64 0]++[.slice none 0 0,.slice none 0 0]++[.pointer none]) [(0,vW d tr s bk p t),(1,.int .i64 3)]=some (bZ d tr s bk p t 3 (.slice none 0 0) (.slice none 0 0) 0 (.slice none 0 0) (.slice none 0 0) (.pointer none)):=rfl;by_cases hdn:C.down=true
 ·have e1:ldS C 0 (Gm.leaves p)=(8,[]):=by unfold ldS;rw [if_neg (by rw [hdn];simp;omega)]
  rw [e1] at hld1;dsimp only at hld1;refine W.k fun b_=>?_;refine aF hmy ?_;rintro _ Hd ⟨rfl,rfl⟩;refine W.k fun b_=>?_;refine W.cw hlv ?_;refine eC (hld1 b_ 3) rfl ?_;rintro _ _ ⟨v1,Hb,rfl,hB,rfl⟩;have hB1:=hB.one;refine W.k ?_;refine Fin.to ((tr,cl (trc dt r) 201)::(Hd++Hk)) ?_;exact F.f2 (.inl ⟨hdn,rfl,rfl⟩)
 have hdn2:C.down=false:=by simpa using hdn
 have e1:ldS C 0 (Gm.leaves p)=(0,C.blks 0 (Gm.leaves p)):=by unfold ldS;rw [if_pos (.inr hdn2)]
 have e2:ldS C (Gm.leaves p) (1+t)=(0,C.blks (Gm.leaves p) (1+t)):=by unfold ldS;rw [if_pos (.inr hdn2)]
 rw [e1] at hld1;rw [e2] at hld2;dsimp only at hld1 hld2;have hb1:=vX (a:=0) (n:=Gm.leaves p) hD.1 hdn2 hlen oQ;have hb2:=vX (a:=Gm.leaves p) (n:=1+t) hD.1 hdn2 hlen oQ;have hn1:=C.blks_len 0 (Gm.leaves p);have hn2:=C.blks_len (Gm.leaves p) (1+t);have hlb:eW p t C r=uJ p t r (C.blks 0 (Gm.leaves p)) (C.blks (Gm.leaves p) (1+t)):=rfl;rw [hlb];clear hlb e1 e2 hdn;generalize C.blks 0 (Gm.leaves p)=l at *;generalize C.blks (Gm.leaves p) (1+t)=logs at *;refine W.k fun b_=>?_;refine aF hmy ?_;rintro _ Hd ⟨rfl,rfl⟩;refine W.k fun b_=>?_;generalize b_=fp at *;refine W.cw hlv ?_;refine eC (hld1 fp 3) rfl ?_;rintro _ _ ⟨v1,Hb,rfl,hB,rfl⟩;have hB1:=hB.one;refine W.k ?_;rw [show (bZ d tr s bk p t 3 (.slice none 0 0) (.slice none 0 0) 0 (.slice none 0 0) (.slice none 0 0) (.pointer none)).set 7 v1=bZ d tr s bk p t 3 v1 (.slice none 0 0) 0 (.slice none 0 0) (.slice none 0 0) (.pointer none) from rfl];(refine SW.l [] [0,1,2,3,5,6,7,8] ?_;refine aX 4 ?_);refine W.cq hla ?_;(refine bB [] ?_;refine aX 9 ?_);refine aF (hld2 fp 3 v1 hB1) ?_;rintro _ _ ⟨v2,Hl,rfl,hL,rfl⟩;have hL1:=hL.one;(refine SL.l [10,11,12,13,14] ?_;refine aX 15 ?_;refine W.i ?_;refine SG.l [16,17] ?_);rw [show (bZ d tr s bk p t 3 v1 (.slice none 0 0) 0 (.slice none 0 0) (.slice none 0 0) (.pointer none)).set 8 v2=bZ d tr s bk p t 3 v1 v2 0 (.slice none 0 0) (.slice none 0 0) (.pointer none) from rfl];have hfi:=aKi (dt:=dt) (fp:=fp) (d:=d) (tr:=tr) (s:=s) (kind:=3) (cnt:=0) (lv:=v2) (Lv:=.slice none 0 0) (ev:=.slice none 0 0) (tv:=.pointer none) h hr hK hB hL1 ⟨rfl⟩ ⟨rfl⟩ ⟨rfl⟩ hn1 hb1;by_cases hf:lC p t r.root l=true
 ·rw [pF hf];simp only [hf,eq_self,if_true] at hfi;have hlk:tI p t r l logs D=vI D l:=by unfold tI;rw [if_pos hf]
  rw [hlk];refine W.k ?_;refine aF hfi ?_;rintro _ _ ⟨rfl,ev3,tv3,Hk3,Hx,hK3,rfl,tp,be,Ht,rfl,rfl,rfl,hT⟩;refine W.k ?_;rw [show (bZ d tr s bk p t 3 v1 v2 0 (.slice none 0 0) (.slice (some ⟨be,0,none⟩) (Gm.sealed p) (Gm.sealed p)) (ptv tp)).set 6 (.int .i64 1)=bZ d tr s bk p t ((1:Nat):Int) v1 v2 0 (.slice none 0 0) (.slice (some ⟨be,0,none⟩) (Gm.sealed p) (Gm.sealed p)) (ptv tp) from rfl];refine Fin.to ((tr,cl (trc dt r) 201)::(Hd++(Hk3++((fp,cl (bZ d tr s bk p t ((1:Nat):Int) v1 v2 0 (.slice none 0 0) (.slice (some ⟨be,0,none⟩) (Gm.sealed p) (Gm.sealed p)) (ptv tp)) 157)::(Hb++((be,cl (uv (nZ p l)) 23)::(Ht++[]))))))) ?_;exact F.f2 (.inr ⟨hdn2,fp,Hk3,_,rfl,⟨v1,v2,0,_,_,_,_,⟨hB1,hL1,⟨rfl⟩,⟨rfl⟩,⟨rfl⟩⟩,rfl,fun _=>⟨tp,be,Hb,Ht,[],hB,rfl,rfl,hT,rfl⟩⟩,hK3,rfl⟩)
 have hff:lC p t r.root l=false:=by simpa using hf
 simp only [hff,lE,if_false] at hfi;refine W.k ?_;refine aF hfi ?_;rintro _ _ ⟨rfl,ev3,tv3,Hk3,Hx,hK3,rfl,rfl,rfl,rfl⟩;have hre:=aOW (dt:=dt) (fp:=fp) (d:=d) (tr:=tr) (s:=s) (kind:=3) (cnt:=0) (Lv:=.slice none 0 0) (ev:=.slice none 0 0) (tv:=.pointer none) h hr hK3 hB hL ⟨rfl⟩ ⟨rfl⟩ ⟨rfl⟩ hn1 hb1 hn2 hb2;cases hlr:uP p t r logs with
 | none=>
  rw [nQ hf hlr]
  rw [hlr] at hre
  dsimp only at hre
  have hlk:tI p t r l logs D=vI D l:=by unfold tI;rw [if_neg hf,hlr]
  rw [hlk]
  refine W.k ?_
  refine aF hre ?_
  rintro _ _ ⟨bv4,cnt4,Lv4,Hk4,Hb4,o4,rfl,rfl,hB4,hK4⟩
  have hB41:=hB4.one
  refine W.k ?_
  refine Fin.to ((tr,cl (trc dt r) 201)::(Hd++(Hk4++[(fp,cl (bZ d tr s bk p t ((3:Nat):Int) bv4 v2 cnt4 Lv4 (.slice none 0 0) (.pointer none)) 157)]))) ?_
  exact F.f2 (.inr ⟨hdn2,fp,Hk4,_,rfl,⟨bv4,v2,cnt4,Lv4,_,_,[],⟨hB41,hL1,o4,⟨rfl⟩,⟨rfl⟩⟩,rfl,fun hh=>absurd rfl hh⟩,hK4,rfl⟩)
 | some x=>
  rw [qB hf hlr]
  rw [hlr] at hre
  dsimp only at hre
  have hlk:tI p t r l logs D=vI (aCS (vI D l) l) (qH p x.1 x.2 l):=by unfold tI;rw [if_neg hf,hlr]
  rw [hlk]
  have hm:=aFZ hlr
  have hl4:=tS p x.1 x.2 l
  have hl256:=aBm (c:=x.1) hm hb1
  generalize qH p x.1 x.2 l=l4 at *
  refine W.k ?_
  refine aF hre ?_
  rintro _ _ ⟨bv4,cnt4,Lv4,Hk4,Hb4,o4,rfl,rfl,hB4,hK4⟩
  have hB41:=hB4.one
  have hfi2:=aKi (dt:=dt) (fp:=fp) (d:=d) (tr:=tr) (s:=s) (kind:=3) (cnt:=cnt4) (lv:=v2) (Lv:=Lv4) (ev:=.slice none 0 0) (tv:=.pointer none) h hr hK4 hB4 hL1 o4 ⟨rfl⟩ ⟨rfl⟩ oQ hl256
  by_cases hf2:lC p t r.root l4=true
  ·rw [if_pos hf2]
   simp only [hf2,eq_self,if_true] at hfi2
   refine W.k ?_
   refine aF hfi2 ?_
   rintro _ _ ⟨rfl,ev5,tv5,Hk5,Hx5,hK5,rfl,tp,be,Ht,rfl,rfl,rfl,hT⟩
   refine W.k ?_
   rw [show (bZ d tr s bk p t 3 bv4 v2 cnt4 Lv4 (.slice (some ⟨be,0,none⟩) (Gm.sealed p) (Gm.sealed p)) (ptv tp)).set 6 (.int .i64 2)=bZ d tr s bk p t ((2:Nat):Int) bv4 v2 cnt4 Lv4 (.slice (some ⟨be,0,none⟩) (Gm.sealed p) (Gm.sealed p)) (ptv tp) from rfl]
   refine Fin.to ((tr,cl (trc dt r) 201)::(Hd++(Hk5++((fp,cl (bZ d tr s bk p t ((2:Nat):Int) bv4 v2 cnt4 Lv4 (.slice (some ⟨be,0,none⟩) (Gm.sealed p) (Gm.sealed p)) (ptv tp)) 157)::(Hb4++((be,cl (uv (nZ p l4)) 23)::(Ht++[]))))))) ?_
   exact F.f2 (.inr ⟨hdn2,fp,Hk5,_,rfl,⟨bv4,v2,cnt4,_,_,_,_,⟨hB41,hL1,o4,⟨rfl⟩,⟨rfl⟩⟩,rfl,fun _=>⟨tp,be,Hb4,Ht,[],hB4,rfl,rfl,hT,rfl⟩⟩,hK5,rfl⟩)
  ·rw [if_neg hf2]
   have hff2:lC p t r.root l4=false:=by simpa using hf2
   simp only [hff2,lE,if_false] at hfi2
   refine W.k ?_
   refine aF hfi2 ?_
   rintro _ _ ⟨rfl,ev5,tv5,Hk5,Hx5,hK5,rfl,rfl,rfl,rfl⟩
   refine W.k ?_
   refine Fin.to ((tr,cl (trc dt r) 201)::(Hd++(Hk5++[(fp,cl (bZ d tr s bk p t ((3:Nat):Int) bv4 v2 cnt4 Lv4 (.slice none 0 0) (.pointer none)) 157)]))) ?_
   exact F.f2 (.inr ⟨hdn2,fp,Hk5,_,rfl,⟨bv4,v2,cnt4,Lv4,_,_,[],⟨hB41,hL1,o4,⟨rfl⟩,⟨rfl⟩⟩,rfl,fun hh=>absurd rfl hh⟩,hK5,rfl⟩)
end
theorem rD{rows:List (Nat×LB)}{C σ2:Dv}{k:Nat}{x:Nat×LB}(hp:putL (rows.take k) C=(0,σ2))(hx:rows[k]?=some x):putL (rows.take (k+1)) C=(if (fM x.1 x.2 σ2).1=0 then (0,(fM x.1 x.2 σ2).2) else fM x.1 x.2 σ2)/\((fM x.1 x.2 σ2).1≠0->putL rows C=fM x.1 x.2 σ2):=by
 have e1:putL (rows.take (k+1)) C=(if (fM x.1 x.2 σ2).1=0 then (0,(fM x.1 x.2 σ2).2) else fM x.1 x.2 σ2):=by rw [aY,hx,dI,qG];show DS.and _ ((fM x.1 x.2).and fun C=>(0,C)) C=_;unfold DS.and;rw [hp];simp
 refine⟨e1,fun hne=>?_⟩;rw [<-dF (k+1) rows,qG];unfold DS.and;rw [e1,if_neg hne,if_neg hne]
theorem aAt{rows:List (Nat×LB)}{C:Dv}{k:Nat}(hk:rows.length<=k):putL (rows.take k) C=putL rows C:=by rw [aK hk]
structure aQH(p t n:Nat)(X:UInt64->Nat->LB->LB)(C:Dv)(s:So)(now:Nat->LB)(B:LL)(R:LB):Prop where
 sta:C.Sta n (B.flatten++R)
 b256:∀ b∈B,b.length=256
 bl:B.length=Gm.leaves p
 lv:s.lv=gF B
 w:s.w=true
 st:s.st=0
 es:s.es.length=Gm.sealed p
 rd:∀ j<Gm.sealed p,X (s.es.getD j 0) j (B.getD (Ks p j) [])=now j
theorem aAH{p t:Nat}{X:UInt64->Nat->LB->LB}(hX:∀ e k b,(X e k b).length=b.length)(c:UInt64)(l:List Ent):iY p t (dT X c l)=iY p t l:=by
 have key:∀ (l:List Ent) (a:Int),nE p a (dT X c l)=nE p a l:=fun l=>by
  induction l with
  | nil=>intro a;rfl
  | cons x r ih=>
   intro a
   show (decide (a<x.1/\x.1<(Gm.sealed p:Nat)/\(X c x.1.toNat x.2).length=256)&&nE p x.1 (dT X c r))=(decide (a<x.1/\x.1<(Gm.sealed p:Nat)/\x.2.length=256)&&nE p x.1 r)
   rw [ih,hX]
 unfold iY;rw [key,mS]
end Go.Proofs.YtdfclocfackkmaaGreat
