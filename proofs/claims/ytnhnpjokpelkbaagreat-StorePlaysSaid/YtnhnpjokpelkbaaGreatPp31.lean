/- The log: may one be, its blocks. -/
import Derived.Test.YtnhnpjokpelkbaaGreatPp29
set_option linter.unusedVariables false
set_option linter.unusedSimpArgs false
set_option linter.unusedSectionVars false
set_option maxHeartbeats 2000000
namespace Go.Proofs.YtnhnpjokpelkbaaGreat
open Go Go.Proofs.Tryz
section
attribute [local irreducible] SW SL SQ SH SA SS Pu Fin bT aQ
structure aMW(P:Program)(f:FuncId):Prop where
 fn:bD P f
 t:∀ u bs,Tri P f [u] [] (fun w=>Rd [] w 1 u (cbs bs)) (fun r H=>r=.bool (decide (bs.length≠256))∧H=[])
theorem aND{f:FuncId}(hf:aMW prog f){Ht:Hp}(v:Value)(vs:List Value)(bss:List (List UInt8))(hB:RB Ht vs bss)(hn:bss.length≤1000000):Tri prog 288 [v,.func (.func f) #[] #[]] Ht (fun w=>Rd (Ht.map Prod.fst) w 1 v vs)
  (fun r H=>∃ z:Int,r=.int .i64 z∧H=Ht∧(0≤z↔∃ b∈bss,b.length≠256)):=by
 haveI:=hf.fn
 refine Tri.mk func288 rfl ntmps288 rfl fun w hw=>?_
 obtain⟨a,la,ca,rfl,hl1,hc1,hr1⟩:=hw.get
 rw [Nat.mul_one,hB.1] at hl1
 subst hl1
 refine W.k ?_
 refine bF [0,1,7] (fun k:Nat=>[(8,.int .i64 (k:Int))]) (fun _=>Ht) (fun k=>bss.length-k) (fun k=>k≤bss.length∧∀ i b,i<k→bss[i]?=some b→b.length=256) 0 ⟨Nat.zero_le _,fun i b h=>by omega⟩ ?_
 rintro k ⟨hk,hk2⟩
 by_cases h:k<bss.length
 ·obtain⟨bb,o,l,T,fz,rfl,hb,hkK,hy⟩:=hr1 oQ
  obtain⟨u,hu1,hu2⟩:=hB.2 k _ (aA h)
  have hlu:l[o+k]?=some u:=by
   have h2:((l.drop o).take (bss.length*1))[k]?=vs[k]?:=by rw [hy]
   rw [bE,if_pos oQ,bI,hu1] at h2
   exact h2
  have hbl:=aA h
  generalize bss[k]=bs at *
  have huo:=hu2.one
  have h1:=hf.t u bs
  refine W.k ?_
  refine dV [] rfl rfl rfl rfl rfl rfl h1 (fun w2 hs=>hu2.rd (Hc:=[]) hs) ?_
  rintro _ _ ⟨rfl,rfl⟩
  by_cases h256:bs.length=256
  ·rw [decide_eq_false (by simp [h256])]
   refine W.k ?_
   refine aQ.mk (k+1) ?_
   refine⟨h,fun i b hi hib=>?_⟩
   by_cases hik:i=k
   ·subst hik;rw [hbl] at hib;cases hib;exact h256
   ·exact hk2 i b oQ hib
  ·rw [decide_eq_true h256]
   refine W.k ?_
   refine Fin.to Ht ?_
   exact F.f1 ⟨(k:Int),rfl,rfl,⟨fun _=>⟨bs,aT hbl,h256⟩,fun _=>by omega⟩⟩
 ·have hkn:k=bss.length:=oQ
  subst hkn
  refine W.k ?_
  refine Fin.to Ht ?_
  refine F.f1 ⟨-1,rfl,rfl,⟨fun h=>by omega,fun⟨b,hb,hne⟩=>?_⟩⟩
  obtain⟨i,hi⟩:=cC.1 hb
  exact absurd (hk2 i b (aE.1 hi).1 hi) hne
theorem aLw{f:FuncId}(hf:aMW prog f){Ht:Hp}(v:Value)(vs:List Value)(bss:List (List UInt8))(hB:RB Ht vs bss)(hn:bss.length≤1000000)(h256:∀ b∈bss,b.length=256):Tri prog 278 [v,.func (.func f) #[] #[]] Ht (fun w=>Rd (Ht.map Prod.fst) w 1 v vs)
  (fun r H=>r=.bool false∧H=Ht):=by
 haveI:=hf.fn
 refine Tri.mk func278 rfl ntmps278 rfl fun w hw=>?_
 have hv:=hw.isOne
 obtain⟨a,la,ca,rfl,-⟩:=hw.get
 refine W.k ?_
 refine aF (aND hf _ vs bss hB hn) ?_ (hpre:=fun w2 hs=>hw.ro (Hc:=Ht) hs)
 rintro _ Ht ⟨z,rfl,rfl,hz⟩
 have hz2:z<0:=by
  rcases zM z 0 with h|h
  ·exact h
  ·obtain⟨b,hb,hne⟩:=hz.1 h
   exact absurd (h256 b hb) hne
 refine W.k ?_
 refine Fin.to Ht ?_
 exact F.f1 ⟨rfl,rfl⟩
theorem aLX:aMW prog 281:=⟨inferInstance,fun u bs=>by
 refine Tri.mk func281 rfl ntmps281 rfl fun w hw=>?_
 obtain⟨a,la,ca,rfl,hl1,hc1,hr1⟩:=hw.get
 rw [aI,Nat.mul_one] at hl1
 subst hl1
 by_cases h:bs.length=256
 ·rw [decide_eq_false (by simp [h])]
  refine W.k ?_
  exact F.n
 ·rw [decide_eq_true h]
  refine W.k ?_
  refine Fin.to [] ?_
  exact F.f1 ⟨rfl,rfl⟩⟩
def eD(us:List Value)(l:List Ent):List Value:=(List.zipWith (fun u x=>[.int .i64 x.1,u]) us l).flatten
def LE(us:List Value)(l:List Ent):Prop:=us.length=l.length∧∀ (i:Nat) (x:Ent),l[i]?=some x→∃ a cap,us[i]?=some (.slice a x.2.length cap)
theorem RB.le{Ht:Hp}{us:List Value}{l:List Ent}(h:RB Ht us (l.map Prod.snd)):LE us l:=⟨by rw [h.1,aD],fun i x hx=>by
 obtain⟨v,h1,h2⟩:=h.2 i x.2 (by rw [aJ,hx];rfl)
 obtain⟨a,len,cap,rfl,e⟩:=(show RdH Ht v x.2 from h2)
 exact⟨a,cap,by rw [h1,e.1]⟩⟩
theorem mW(us:List Value)(l:List Ent):∀ y∈List.zipWith (fun u x=>[Value.int .i64 x.1,u]) us (l:List Ent),y.length=2:=fun y hy=>by
 obtain⟨i,hi⟩:=cC.1 hy
 rw [eK] at hi
 split at hi
 ·cases hi;rfl
 ·cases hi
theorem fI(us:List Value)(l:List Ent)(h:us.length=l.length):(eD us l).length=l.length*2:=by
 unfold eD
 rw [dI (n:=2) (mW us l),fL,h,iN]
theorem kA{us:List Value}{l:List Ent}(h:us.length=l.length)(u:Value)(x:Ent):eD (us++[u]) (l++[x])=eD us l++[.int .i64 x.1,u]:=by
 unfold eD
 rw [List.zipWith_append h]
 simp
theorem aFm{us:List Value}{l:List Ent}{i:Nat}{x:Ent}{u:Value}(hu:us[i]?=some u)(hx:l[i]?=some x):(((eD us l).drop (i*2)).take 2)=[.int .i64 x.1,u]:=by
 unfold eD
 have h1:(List.zipWith (fun u x=>[Value.int .i64 x.1,u]) us (l:List Ent))[i]?=some [.int .i64 x.1,u]:=by
  rw [eK,hu,hx]
 exact tO (mW us l) h1
theorem xJ(p:Nat)(last:Int)(x:Ent)(l:List Ent):mR p last (x::l)=(decide (last<x.1∧x.1<(Gm.sealed p:Nat)∧x.2.length=256)&&mR p x.1 l):=rfl
theorem LE.at{us:List Value}{l:List Ent}(h:LE us l){k:Nat}{x:Ent}(hx:l[k]?=some x):∃ a cap,(List.zipWith (fun u (x:Ent)=>[Value.int .i64 x.1,u]) us l)[k]?=some [.int .i64 x.1,.slice a x.2.length cap]:=by
 obtain⟨a,cap,hu⟩:=h.2 k x hx
 exact⟨a,cap,by rw [eK,hu,hx]⟩
theorem lX{p:Nat}:∀ {l:List Ent} {last:Int},mR p last l=true→∀ (k:Nat) (x:Ent),l[k]?=some x→last<x.1∧x.1<(Gm.sealed p:Nat)∧x.2.length=256
 | [],_,_,k,x,h=>by simp at h
 | y::l,last,hm,k,x,h=>by
  rw [xJ,bM,decide_eq_true_iff] at hm
  cases k with
  | zero=>cases h;exact hm.1
  | succ k=>
   have:=lX hm.2 k x h
   exact⟨by omega,this.2⟩
theorem rW{p t:Nat}{l:List Ent}(hm:gH p t l=true)(k:Nat)(x:Ent)(h:l[k]?=some x):x.2.length=256:=by
 unfold gH at hm
 rw [bM] at hm
 exact (lX hm.2 k x h).2.2
theorem aGB{p t:Nat}(h:Gm.Ok p t)(c:UInt64)(v:Value)(us:List Value)(l:List Ent)(hL:LE us l)(hn:l.length≤1000000) :
  Tri prog 112 [kF p t,.agg #[eG c,v]] [] (fun w=>Rd [] w 2 v (eD us l)) (fun r H=>r=.bool (gH p t l)∧H=[]):=by
 refine Tri.mk func112 rfl ntmps112 rfl fun w hw=>?_
 have hck:=qG h
 have hsa:=qH h
 unfold eD at hw
 obtain⟨a,ca,rfl,hcap,hg⟩:=hw.rows dQ (mW us l)
 have hzl:(List.zipWith (fun u (x:Ent)=>[Value.int .i64 x.1,u]) us l).length=l.length:=by rw [fL,hL.1,iN]
 rw [hzl] at hcap ⊢
 have hY:One (Value.slice a l.length ca):=⟨rfl⟩
 unfold gH
 by_cases h1:l.length<1
 ·rw [decide_eq_false oQ,gA]
  refine W.k fun _ b_=>?_
  refine W.cw hck ?_
  exact F.n
 by_cases h2:t<l.length
 ·rw [decide_eq_false oQ,gA]
  refine W.k fun _ b_=>?_
  refine W.cw hck ?_
  exact F.n
 rw [decide_eq_true oQ,iY]
 refine W.k fun _ b_=>?_
 refine W.cq hck ?_
 refine W.j ?_
 refine bQ [] [] (fun _:Unit=>[]) (fun _=>[]) (fun _=>mR p (-1) l=true) ?_ ?_
 ·refine W.k ?_
  refine bF [2,26,27] (fun x:Nat×Int=>[(5,.int .i64 x.2),(28,.int .i64 (x.1:Int))]) (fun _=>[]) (fun x=>l.length-x.1) (fun x=>(x.1≤l.length ∧ -1≤x.2)∧mR p (-1) l=mR p x.2 (l.drop x.1)) (0,-1) ⟨⟨Nat.zero_le _,Int.le_refl _⟩,rfl⟩ ?_
  rintro⟨k,last⟩ ⟨⟨hk,hla⟩,hm⟩
  dsimp only at hk hla hm ⊢
  by_cases hkn:k<l.length
  ·have hx:=aA hkn
   rw [bL hkn,xJ] at hm
   obtain⟨a2,cap2,hz⟩:=hL.at hx
   obtain⟨pb,po,lv,T,fz,rfl,hb,hkK,hv⟩:=hg k _ hz
   generalize l[k]=x at *
   have hsx:=hsa x.1
   unfold Gm.atK at hsx
   by_cases c1:x.1≤last
   ·rw [decide_eq_false oQ,gA] at hm
    rw [hm]
    refine W.k fun b_=>?_
    exact F.n
   by_cases c2:x.1<(Gm.sealed p:Nat)
   ·rw [if_pos oQ] at hsx
    by_cases c3:x.2.length=256
    ·rw [decide_eq_true oQ,iY] at hm
     refine W.k fun b_=>?_
     refine W.cw hsx ?_
     refine aQ.mk (k+1,x.1) ?_
     exact⟨⟨hkn,by omega⟩,hm⟩
    ·rw [decide_eq_false oQ,gA] at hm
     rw [hm]
     refine W.k fun b_=>?_
     refine W.cw hsx ?_
     exact F.n
   ·rw [decide_eq_false oQ,gA] at hm
    rw [if_neg oQ] at hsx
    rw [hm]
    refine W.k fun b_=>?_
    refine W.cw hsx ?_
    exact F.n
  ·have hkl:k=l.length:=oQ
   rw [hkl,tI] at hm
   subst hkl
   refine W.k ?_
   refine bT.mk () ?_
   exact hm
 rintro _ hm
 rw [hm]
 refine W.k ?_
 exact F.n
def qL:List UInt8:=[82,69,68,79,45,76,79,71]
theorem bsR:bX (fun i=>some (i*1,1)) (zs [.int .u8 0] 8) [(0,.int .u8 82),(1,.int .u8 69),(2,.int .u8 68),(3,.int .u8 79),(4,.int .u8 45),(5,.int .u8 76),(6,.int .u8 79),(7,.int .u8 71)]=some (cbs qL):=rfl
theorem bs3(a1 a2 a3:Option Addr)(l1 l2 l3 c1 c2 c3:Nat):bX (fun i=>some (i*1,1)) (zs [.slice none 0 0] 3) [(0,.slice a1 l1 c1),(1,.slice a2 l2 c2),(2,.slice a3 l3 c3)]=some [.slice a1 l1 c1,.slice a2 l2 c2,.slice a3 l3 c3]:=rfl
theorem aKR{K:List Nat}{vs:List Value}{a1 a2 a3:Option Addr}{l1 l2 l3 c1 c2 c3:Nat}{d1 d2 d3:List UInt8}{w:World}(hv:vs=[.slice a1 l1 c1,.slice a2 l2 c2,.slice a3 l3 c3])(h1:Rd K w 1 (.slice a1 l1 c1) (cbs d1))(h2:Rd K w 1 (.slice a2 l2 c2) (cbs d2))(h3:Rd K w 1 (.slice a3 l3 c3) (cbs d3)):∀ (i:Nat) (bs:List UInt8),[d1,d2,d3][i]?=some bs→∃ (a:Option Addr) (len cap:Nat),vs[i]?=some (Value.slice a len cap)∧Rd K w 1 (.slice a len cap) (cbs bs):=by
 subst hv
 intro i bs h
 match i,h with
 | 0,h=>cases h;exact⟨_,_,_,rfl,h1⟩
 | 1,h=>cases h;exact⟨_,_,_,rfl,h2⟩
 | 2,h=>cases h;exact⟨_,_,_,rfl,h3⟩
 | (n+3),h=>simp at h
def oA(c:UInt64)(n:Nat):List UInt8:=qL++leN 8 c++leN 2 (UInt64.ofNat n)
def mK(l:List Ent):List UInt8:=l.flatMap fun x=>leN 2 (UInt64.ofInt x.1)
theorem aA0(l:List Ent):(mK l).length=2*l.length:=by
 unfold mK
 induction l with
 | nil=>rfl
 | cons x l ih=>rw [dF,aB,ih,eC,aX];omega
theorem cvK(x:Int):Cv .u64 x ((UInt64.ofInt x).toNat:Int):=⟨by
 unfold UInt64.ofInt
 rw [nC,aW]
 omega⟩
theorem aJR(c:UInt64)(v:Value)(us:List Value)(l:List Ent)(hL:LE us l)(hn:l.length≤100) :
  Tri prog 165 [.agg #[eG c,v]] [] (fun w=>Rd [] w 2 v (eD us l)) (fun r H=>∃ b,r=.slice (some ⟨b,0,none⟩) 256 256∧H=[(b,cl (cbs (lJ c l)) 5)]):=by
 refine Tri.mk func165 rfl ntmps165 rfl fun w hw=>?_
 unfold eD at hw
 obtain⟨a,ca,rfl,hcap,hg⟩:=hw.rows dQ (mW us l)
 have hzl:(List.zipWith (fun u (x:Ent)=>[Value.int .i64 x.1,u]) us l).length=l.length:=by rw [fL,hL.1,iN]
 rw [hzl] at hcap ⊢
 have hY:One (Value.slice a l.length ca):=⟨rfl⟩
 have hp1:=yK 8 c oQ oQ
 have hp2:=yK 2 (UInt64.ofNat l.length) oQ oQ
 have hp3:=fun (x:Ent)=>yK 2 (UInt64.ofInt x.1) oQ oQ
 have hfl:[qL,leN 8 c,leN 2 (UInt64.ofNat l.length)].flatten=oA c l.length:=by unfold oA;simp
 have hfn:(oA c l.length).length=18:=by simp [oA,eC,qL]
 have hpd:=fun v=>aDP v (oA c l.length++mK l) 256 dQ dQ (by rw [aB,hfn,aA0];omega)
 rw [show pad 256 (oA c l.length++mK l)=lJ c l from rfl] at hpd
 refine W.k fun b_=>?_
 (refine SW.l [] [2,3,5,6,7,8] ?_;skip )
 repeat' (first
  | refine jA 0 4 ?_ ?_ rfl rfl (hok:=by decide +kernel)|refine jA 1 4 ?_ ?_ rfl rfl (hok:=by decide +kernel)|refine jA 0 9 ?_ ?_ rfl rfl (hok:=by decide +kernel)|refine jA 1 9 ?_ ?_ rfl rfl (hok:=by decide +kernel)
  | refine pT 0 ?_ rfl (by decide +kernel)|refine pT 1 ?_ rfl (by decide +kernel)|refine pT 4 ?_ rfl (by decide +kernel)|refine pT 9 ?_ rfl (by decide +kernel)
  | (refine iS (fun b1=>?_) (hr:=bsR);refine eB ?_)
  | (refine W.mk ?_;refine eB ?_)
  | (refine eJ hp1 rfl ?_;rintro _ _ ⟨b2,rfl,rfl⟩;refine eB ?_)
  | (refine eJ hp2 rfl ?_;rintro _ _ ⟨b3,rfl,rfl⟩;refine eB ?_))
 all_goals
  refine bA 10 ?_
  refine iS (fun b5=>?_) (hr:=bs3 ..)
  (refine bC [] ?_;refine bA 11 ?_)
  refine aF (vY _ [qL,leN 8 c,leN 2 (UInt64.ofNat l.length)] (by rw [hfl,hfn];decide) (by simp only [aX,List.length_nil];omega)) ?_ (hpre:=fun w2 hs=>RdS.at (T:=23) (fz:=(0,0)) (Hc:=[]) hs rfl (Nat.le_refl _) rfl (aKR rfl (Rd.atB (Hc:=[]) (b:=b1) (len:=8) (cap:=8) (T:=5) (fz:=((cbs qL).length,(cbs qL).length+1)) qL hs rfl (Nat.le_refl _)) (Rd.my (Hc:=[]) (T:=5) b2 _ hs (eC ..)) (Rd.my (Hc:=[]) (T:=5) b3 _ hs (eC ..))))
  rw [hfl]
  intro v6 H6 h6
  have h61:=h6.isOne
  (refine SL.l [12,13] ?_)
  refine W.j ?_
  refine bQ [] H6 (fun x:Value×Hp=>[(3,x.1)]) (fun x=>x.2) (fun x=>Sl 5 1 x.1 (cbs (oA c l.length++mK l)) x.2) ?_ ?_
  ·refine W.k ?_
   refine bF [19,20] (fun x:Nat×Value×Hp=>[(3,x.2.1),(21,.int .i64 (x.1:Int))]) (fun x=>x.2.2) (fun x=>l.length-x.1) (fun x=>x.1≤l.length∧Sl 5 1 x.2.1 (cbs (oA c l.length++mK (l.take x.1))) x.2.2) (0,v6,H6) ⟨Nat.zero_le _,by rw [cT,show mK []=[] from rfl,aH];exact h6⟩ ?_
   rintro⟨k,v2,H2⟩ ⟨hk,h2⟩
   dsimp only at hk h2 ⊢
   have h21:=h2.isOne
   by_cases hkn:k<l.length
   ·have hx:=aA hkn
    obtain⟨a2,cap2,hz⟩:=hL.at hx
    obtain⟨pb,po,lv,T,fz,rfl,hb,hkK,hv⟩:=hg k _ hz
    have hts:mK (l.take (k+1))=mK (l.take k)++leN 2 (UInt64.ofInt l[k].1):=by unfold mK;rw [aZ,hx,cU];simp
    have htl:(mK (l.take k)).length=2*k:=by rw [aA0,aG];omega
    generalize l[k]=x at *
    haveI:=cvK x.1
    refine W.k fun b_=>?_
    refine aF (hp3 x) ?_
    rintro _ _ ⟨b7,rfl,rfl⟩
    refine W.k ?_
    refine W.ap h2 (ys:=cbs (leN 2 (UInt64.ofInt x.1))) (mm:=2) (fun w2 hs=>(Sl.own 5 1 b7 (len:=2) (xs:=cbs (leN 2 (UInt64.ofInt x.1))) (by rw [aI,eC])).srcAt hs inferInstance) (fun v3 H3 h3=>?_) (hys:=by rw [aI,eC]) (hbytes:=by rw [aI,aI,aB,hfn,htl,eC];omega)
    have h31:=h3.isOne
    rw [show cbs (oA c l.length++mK (l.take k))++cbs (leN 2 (UInt64.ofInt x.1))=cbs (oA c l.length++mK (l.take (k+1))) by rw [hts];simp] at h3
    refine W.k ?_
    refine aQ.mk (k+1,v3,H3) ?_
    exact⟨hkn,h3⟩
   ·have hkl:k=l.length:=oQ
    rw [hkl,bN] at h2
    subst hkl
    refine W.k ?_
    refine bT.mk (v2,H2) ?_
    exact h2
  rintro⟨v2,H2⟩ h2
  dsimp only at h2 ⊢
  have h21:=h2.isOne
  refine W.k ?_
  refine aF (hpd v2) ?_ (hpre:=fun w2 hs=>Rd.own (Hc:=[]) h2 hs inferInstance)
  rintro _ _ ⟨b8,rfl,rfl⟩
  refine W.k ?_
  refine Fin.to [(b8,cl (cbs (lJ c l)) 5)] ?_
  exact F.f1 ⟨b8,rfl,rfl⟩
theorem aI2{p t:Nat}(h:Gm.Ok p t)(c:UInt64)(v:Value)(us:List Value)(l:List Ent){Ht:Hp}(hR:RB Ht us (l.map Prod.snd))(hm:gH p t l=true) :
  Tri prog 118 [kF p t,.agg #[eG c,v]] Ht (fun w=>Rd (Ht.map Prod.fst) w 2 v (eD us l)) (fun r H=>∃ bv Hb,r=.tuple #[bv,.int .i64 0]∧Bls bv (lJ c l::l.map Prod.snd) Hb∧H=Hb++Ht):=by
 refine Tri.mk func118 rfl ntmps118 rfl fun w hw=>?_
 have hL:=hR.le
 have ht:=h.2.2.2
 have hlt:1≤l.length∧l.length≤t:=by unfold gH at hm;simp at hm;exact hm.1
 have hw2:=hw
 unfold eD at hw2
 obtain⟨a,ca,rfl,hcap,hg⟩:=hw2.rows dQ (mW us l)
 have hzl:(List.zipWith (fun u (x:Ent)=>[Value.int .i64 x.1,u]) us l).length=l.length:=by rw [fL,hL.1,iN]
 rw [hzl] at hcap hw ⊢
 have hY:One (Value.slice a l.length ca):=⟨rfl⟩
 have hmy:=aGB h c (.slice a l.length ca) us l hL oQ
 rw [hm] at hmy
 have hhd:=aJR c (.slice a l.length ca) us l hL oQ
 have hmayx:=rW hm
 (refine W.k ?_;repeat intro b_)
 refine W.cw hmy ?_ (hpre:=fun w2 hs=>hw.ro (Hc:=[]) hs);repeat intro b_
 refine aF hhd ?_ (hpre:=fun w2 hs=>hw.ro (Hc:=[]) hs)
 rintro _ _ ⟨b1,rfl,rfl⟩
 have hb15:bX (fun i=>some (i*1,1)) (zs [.slice none 0 0] 1) [(0,.slice (some ⟨b1,0,none⟩) 256 256)]=some [.slice (some ⟨b1,0,none⟩) 256 256]:=rfl
 (refine W.j ?_;repeat intro b_)
 generalize b_=b2 at *
 have hE0:Sl 23 1 (.slice (some ⟨b2,0,none⟩) 1 1) [.slice (some ⟨b1,0,none⟩) 256 256] [(b2,cl [.slice (some ⟨b1,0,none⟩) 256 256] 23)]:=Sl.own _ 1 b2 (len:=1) rfl
 have hR0:RB [(b1,cl (cbs (lJ c l)) 5)] [.slice (some ⟨b1,0,none⟩) 256 256] [lJ c l]:=(RB.nil _).snoc (RdH.of (Sl.own 5 1 b1 (len:=256) (xs:=cbs (lJ c l)) (by rw [aI,rG])))
 refine bQ [] [(b2,cl [.slice (some ⟨b1,0,none⟩) 256 256] 23),(b1,cl (cbs (lJ c l)) 5)] (fun x:Value×Hp=>[(6,x.1)]) (fun x=>x.2) (fun x=>Bls x.1 (lJ c l::l.map Prod.snd) x.2) ?_ ?_
 ·(refine W.k ?_;repeat intro b_)
  refine bF [17,18] (fun x:Nat×Value×List Value×Hp×Hp=>[(6,x.2.1),(19,.int .i64 (x.1:Int))]) (fun x=>x.2.2.2.1++x.2.2.2.2) (fun x=>l.length-x.1) (fun x=>x.1≤l.length∧Sl 23 1 x.2.1 x.2.2.1 x.2.2.2.1∧RB x.2.2.2.2 x.2.2.1 (lJ c l::(l.take x.1).map Prod.snd)) (0,.slice (some ⟨b2,0,none⟩) 1 1,[.slice (some ⟨b1,0,none⟩) 256 256],[(b2,cl [.slice (some ⟨b1,0,none⟩) 256 256] 23)],[(b1,cl (cbs (lJ c l)) 5)]) ⟨Nat.zero_le _,hE0,by rw [cT];exact hR0⟩ ?_
  rintro⟨k,v2,vs2,H2,Ht2⟩ ⟨hk,h2,hR2⟩
  dsimp only at hk h2 hR2 ⊢
  have h21:=h2.isOne
  have hvl:vs2.length=1+k:=by rw [hR2.1];simp;omega
  by_cases hkn:k<l.length
  ·have hx:=aA hkn
   obtain⟨u,hu1,hu2⟩:=hR.2 k l[k].2 (by rw [aJ,hx];rfl)
   have hz:(List.zipWith (fun u (x:Ent)=>[Value.int .i64 x.1,u]) us l)[k]?=some [.int .i64 l[k].1,u]:=by rw [eK,hu1,hx]
   obtain⟨pb,po,lv,T,fz,rfl,hb,hkK,hv⟩:=hg k _ hz
   have hts:lJ c l::(l.take (k+1)).map Prod.snd=(lJ c l::(l.take k).map Prod.snd)++[l[k].2]:=by rw [aZ,hx,aV];rfl
   generalize l[k]=x at *
   have huo:=hu2.one
   obtain⟨ua,ul,uc,rfl,hux,-⟩:=(show RdH Ht u x.2 from hu2)
   have hxl:x.2.length≤1000000:=by
    have:=hmayx k x hx
    omega
   (refine W.k ?_;repeat intro b_)
   refine aF (wZ _ x.2 oQ) ?_ (hpre:=fun w2 hs=>hu2.rd (Hc:=[]) hs)
   intro v3 H3 h3
   have h31:=h3.isOne
   obtain⟨a3,l3,c3,rfl,-⟩:=h3.form
   have hb27:bX (fun i=>some (i*1,1)) (zs [.slice none 0 0] 1) [(0,.slice a3 l3 c3)]=some [.slice a3 l3 c3]:=rfl
   (refine W.k ?_;repeat intro b_)
   refine W.ap h2 (ys:=[.slice a3 l3 c3]) (mm:=1) (fun w2 hs=>(Sl.own 23 1 b_ (xs:=[.slice a3 l3 c3]) rfl).srcAt hs inferInstance) (fun v4 H4 h4=>?_) (hys:=rfl) (hbytes:=by rw [hvl];simp;omega)
   have h41:=h4.isOne
   (refine W.k ?_;repeat intro b_)
   refine aQ.mk (k+1,v4,vs2++[.slice a3 l3 c3],H4,H3++Ht2) ?_
   refine⟨hkn,h4,?_⟩
   dsimp only
   rw [hts]
   exact (hR2.mono fun x hx=>aN _ hx).snoc ((RdH.of h3).mono fun x hx=>aO _ hx)
  ·have hkl:k=l.length:=oQ
   rw [hkl,bN] at hR2
   subst hkl
   (refine W.k ?_;repeat intro b_)
   refine bT.mk (v2,H2++Ht2) ?_
   exact⟨vs2,H2,Ht2,h2,hR2,rfl⟩
 rintro⟨v2,Hb⟩ hB
 dsimp only at hB ⊢
 have hB1:=hB.one
 (refine W.k ?_;repeat intro b_)
 refine Fin.to (Hb++Ht) ?_
 exact F.f2 ⟨v2,Hb,rfl,hB,rfl⟩
theorem aCe(h:List UInt8)(logs:List (List UInt8))(n:Nat):jH h logs (n+1)=jH h logs n++[(((jU ((h.drop (18+2*n)).take 2):Nat):Int),logs.getD (1+n) [])]:=by unfold jH;rw [bV,aV];rfl
theorem tM(h:List UInt8)(logs:List (List UInt8))(n:Nat):(jH h logs n).length=n:=by unfold jH;simp
def aMw(o:Option (UInt64×List Ent))(r:Value)(H:Hp):Prop:=match o with
 | none=>r=.tuple #[.agg #[.int .u64 0,.slice none 0 0],.int .i64 4]∧H=[]
 | some x=>∃ ev us He Hb,r=.tuple #[.agg #[eG x.1,ev],.int .i64 0]∧Sl 136 2 ev (eD us x.2) He∧RB Hb us (x.2.map Prod.snd)∧H=He++Hb
theorem aK3{p t:Nat}(h:Gm.Ok p t)(v:Value)(vs:List Value)(logs:List (List UInt8)){Ht:Hp}(hR:RB Ht vs logs)(hn:logs.length=1+t)(hb:∀ b∈logs,b.length=256) :
  Tri prog 262 [kF p t,v] Ht (fun w=>Rd (Ht.map Prod.fst) w 1 v vs) (fun r H=>∃ Hn,aMw (nX p t logs) r Hn∧H=Hn++Ht):=by
 refine Tri.mk func262 rfl ntmps262 rfl fun w hw=>?_
 have ht:=h.2.2.2
 have hck:=qG h
 have hw0:=hw
 obtain⟨a,la,ca,rfl,hl1,hc1,hr1⟩:=hw.get
 rw [Nat.mul_one,hR.1] at hl1
 subst hl1
 have hY:One (Value.slice a logs.length ca):=⟨rfl⟩
 have hcf:=aLw aLX (.slice a logs.length ca) vs logs hR oQ hb
 obtain⟨bb,o,l,T,fz,rfl,hbh,hkK,hy⟩:=hr1 oQ
 have hat:∀ k,k<logs.length→∃ u,l[o+k]?=some u∧RdH Ht u (logs.getD k []):=fun k hk=>by
  obtain⟨u,hu1,hu2⟩:=hR.2 k _ (aA hk)
  refine⟨u,?_,by rw [aC,aA hk];exact hu2⟩
  have h2:((l.drop o).take (logs.length*1))[k]?=vs[k]?:=by rw [hy]
  rw [bE,if_pos oQ,bI,hu1] at h2
  exact h2
 have h256:∀ k,k<logs.length→(logs.getD k []).length=256:=fun k hk=>by
  rw [aC,aA hk];exact hb _ (cE hk)
 obtain⟨u0,hu0,hr0⟩:=hat 0 oQ
 have hx256:=h256 0 oQ
 have hpar:nX p t logs=if jU (((logs.getD 0 []).drop 16).take 2)≤t∧gH p t (jH (logs.getD 0 []) logs (jU (((logs.getD 0 []).drop 16).take 2)))=true∧lJ (yZ (((logs.getD 0 []).drop 8).take 8)) (jH (logs.getD 0 []) logs (jU (((logs.getD 0 []).drop 16).take 2)))=logs.getD 0 [] then some (yZ (((logs.getD 0 []).drop 8).take 8),jH (logs.getD 0 []) logs (jU (((logs.getD 0 []).drop 16).take 2))) else none:=rfl
 rw [hpar]
 clear hpar
 generalize hX:logs.getD 0 []=x at *
 have h0o:=hr0.one
 have hof:=aOJ u0 x oQ
 refine W.k fun _ b_=>?_
 refine W.cw hck ?_
 refine aF hcf ?_ (hpre:=fun w2 hs=>hw0.ro (Hc:=Ht) hs)
 rintro _ Ht ⟨rfl,rfl⟩
 refine W.k ?_
 refine aF hof ?_ (hpre:=fun w2 hs=>hr0.rd (Hc:=[]) hs)
 rintro _ H1 ⟨q,rfl,hQ⟩
 have hby:=aK0 hQ 8 oQ oQ
 refine W.k ?_
 refine aF hby ?_
 rintro _ _ ⟨H2,H2t,hQ2,hS2,rfl⟩
 have hs21:=hS2.isOne
 have hn1:=aG3 hQ2 8 dQ dQ (by rw [bG];omega) (by rw [bG];omega)
 refine W.k ?_
 refine dV H2 rfl rfl rfl rfl rfl rfl hn1 (fun _ _=>trivial) ?_
 rintro _ H3 ⟨rfl,hQ3⟩
 rw [cJ] at hQ3
 have hu:Value.int .u64 ((jU ((x.drop 8).take 8):Nat):Int)=eG (yZ ((x.drop 8).take 8)):=by unfold eG;rw [aAf]
 rw [hu]
 clear hu
 generalize yZ ((x.drop 8).take 8)=c at *
 have hb39:bX (fun i=>[(0,1),(1,1)][i]?) [.int .u64 0,.slice none 0 0] [(0,eG c)]=some [eG c,.slice none 0 0]:=rfl
 have hn2:=aG3 hQ3 2 dQ dQ (by rw [bG];omega) (by rw [bG];omega)
 refine W.k fun b_=>?_
 refine dV H3 rfl rfl rfl rfl rfl rfl hn2 (fun _ _=>trivial) ?_
 rintro _ H4 ⟨rfl,hQ4⟩
 rw [cJ] at hQ4
 have hnl:jU ((x.drop (8+8)).take 2)<65536:=aD7 (by rw [aG];omega)
 rw [show 8+8=16 from rfl] at hnl ⊢
 generalize jU ((x.drop 16).take 2)=n at *
 haveI:Cv .i64 (n:Int) (n:Int):=⟨w64 oQ⟩
 refine W.j ?_
 generalize b_=b9 at *
 have hmn:min n t≤24:=oQ
 refine bQ [1,2,4,9,10] ((b9,cl [eG c,.slice none 0 0] 224)::H4) (fun _:Value×List Value×Hp×Hp=>[]) (fun y=>(b9,cl [eG c,y.1] 224)::(y.2.2.1++y.2.2.2))
  (fun y=>Sl 136 2 y.1 (eD y.2.1 (jH x logs (min n t))) y.2.2.1∧RB y.2.2.2 y.2.1 ((jH x logs (min n t)).map Prod.snd)) ?_ ?_
 ·refine W.k ?_
  refine bF [1,2,4,8,9,10] (fun y:Nat×Hp×Value×List Value×Hp×Hp=>[(11,.int .i64 (y.1:Int))]) (fun y=>(b9,cl [eG c,y.2.2.1] 224)::(y.2.1++(y.2.2.2.2.1++y.2.2.2.2.2))) (fun y=>min n t-y.1)
   (fun y=>(y.1≤min n t∧aEL q (x.drop (18+2*y.1)) y.2.1)∧Sl 136 2 y.2.2.1 (eD y.2.2.2.1 (jH x logs y.1)) y.2.2.2.2.1∧RB y.2.2.2.2.2 y.2.2.2.1 ((jH x logs y.1).map Prod.snd)) (0,H4,.slice none 0 0,[],[],[]) ⟨⟨Nat.zero_le _,hQ4⟩,Sl.nil _ _,RB.nil _⟩ ?_
  rintro⟨k,Hq,ev,us,He,Hb⟩ ⟨⟨hk,hQk⟩,hSe,hRb⟩
  dsimp only at hk hQk hSe hRb ⊢
  have hSe1:=hSe.isOne
  have husl:us.length=(jH x logs k).length:=by rw [hRb.1,aD]
  by_cases hkn:k<n
  ·by_cases hkt:k<t
   ·obtain⟨u,hu,hru⟩:=hat (1+k) oQ
    have hul:=h256 (1+k) oQ
    have huo:=hru.one
    have hnm:=aG3 hQk 2 dQ dQ (by rw [bG];omega) (by rw [bG];omega)
    rw [cJ,show 18+2*k+2=18+2*(k+1) by omega] at hnm
    have hK:jU ((x.drop (18+2*k)).take 2)<65536:=aD7 (by rw [aG];omega)
    have hes:=aCe x logs k
    have hel:=tM x logs k
    generalize jU ((x.drop (18+2*k)).take 2)=K at *
    generalize logs.getD (1+k) []=d at *
    haveI:Cv .i64 (K:Int) (K:Int):=⟨w64 oQ⟩
    haveI:eI (1+(k:Int)) (1+k):=⟨by omega⟩
    refine W.k ?_
    (refine SW.l [13,15] [0,1,2,5,6,7,8,9] ?_;refine bA 3 ?_)
    refine dV Hq rfl rfl rfl rfl rfl rfl hnm (fun _ _=>trivial) ?_
    rintro _ Hq2 ⟨rfl,hQ5⟩
    (refine SL.l [4] ?_;refine bA 10 ?_)
    refine aF (wZ u d oQ) ?_ (hpre:=fun w2 hs=>hru.rd (Hc:=[]) hs)
    intro v3 H5 h5
    have h51:=h5.isOne
    obtain⟨a3,l3,c3,rfl,-⟩:=h5.form
    have hb65:bX (fun i=>[(0,1),(1,1)][i]?) [.int .i64 0,.slice none 0 0] [(0,.int .i64 (K:Int)),(1,.slice a3 l3 c3)]=some [.int .i64 (K:Int),.slice a3 l3 c3]:=rfl
    have hb66:bX (fun i=>some (i*2,2)) (zs [.int .i64 0,.slice none 0 0] 1) [(0,.agg [(.int .i64 (K:Int):Value),.slice a3 l3 c3].toArray)]=some [.int .i64 (K:Int),.slice a3 l3 c3]:=rfl
    (refine SL.l [11] ?_;refine bA 12 ?_)
    refine iS (fun b6=>?_) (hr:=hb66)
    (refine bC [] ?_;refine bO 13 ?_)
    refine W.ap hSe (ys:=[.int .i64 (K:Int),.slice a3 l3 c3]) (mm:=1) (fun w2 hs=>(Sl.own 136 2 b6 (xs:=[.int .i64 (K:Int),.slice a3 l3 c3]) rfl).srcAt hs inferInstance) (fun v7 H7 h7=>?_) (hys:=rfl) (hbytes:=by rw [fI _ _ husl,hel];simp;omega)
    have h71:=h7.isOne
    rw [← kA husl (.slice a3 l3 c3) ((K:Int),d),← hes] at h7
    (refine SL.l [14] ?_;refine bO 15 ?_;refine W.i ?_;refine SS.dn ?_)
    refine W.k ?_
    rw [show ([eG c,ev]:List Value).set 1 v7=[eG c,v7] from rfl]
    refine aQ.mk (k+1,Hq2,v7,us++[.slice a3 l3 c3],H7,H5++Hb) ?_
    refine⟨⟨by dsimp only;omega,hQ5⟩,h7,?_⟩
    dsimp only
    rw [hes,aV]
    exact (hRb.mono fun x hx=>aN _ hx).snoc ((RdH.of h5).mono fun x hx=>aO _ hx)
   ·have hkm:k=min n t:=oQ
    rw [hkm] at hSe hRb
    refine W.k ?_
    refine bT.mk (ev,us,He,Hb) ?_
    exact⟨hSe,hRb⟩
  ·have hkm:k=min n t:=oQ
   rw [hkm] at hSe hRb
   refine W.k ?_
   refine bT.mk (ev,us,He,Hb) ?_
   exact⟨hSe,hRb⟩
 rintro⟨ev,us,He,Hb⟩ ⟨hSe,hRb⟩
 dsimp only at hSe hRb ⊢
 have hSe1:=hSe.isOne
 have hel:=tM x logs (min n t)
 have husl:us.length=(jH x logs (min n t)).length:=by rw [hRb.1,aD]
 have hLE:=hRb.le
 obtain⟨ea,el,ec,rfl,hell⟩:=hSe.form
 rw [fI _ _ husl,hel] at hell
 obtain rfl:el=min n t:=by omega
 have hnone:aMw none (.tuple #[.agg #[.int .u64 0,.slice none 0 0],.int .i64 4]) []:=⟨rfl,rfl⟩
 have hl2:([eG c,.slice ea (min n t) ec]:List Value).length=2:=rfl
 by_cases hnt:n≤t
 ·rw [show min n t=n by omega] at *
  have hmy:=aGB h c (.slice ea n ec) us _ hLE (by rw [hel];omega)
  have hhd:=aJR c (.slice ea n ec) us _ hLE (by rw [hel];omega)
  have hhl:=rG c (jH x logs n)
  by_cases hm:gH p t (jH x logs n)=true
  ·rw [hm] at hmy
   by_cases he:lJ c (jH x logs n)=x
   ·rw [if_pos ⟨hnt,hm,he⟩]
    refine W.k ?_
    (refine SW.l [] [0,1,2,3,4,5,6,7] ?_;(first|refine dB 8 rfl ?_;refine SG.l [9,10,11,12,14,15,16] ?_;(first|refine dB 13 rfl ?_;(first|refine dB 17 rfl ?_;refine SG.l [18,19,20] ?_|refine bA 17 ?_)|refine bA 13 ?_)|refine bA 8 ?_))
    refine W.cq hmy ?_ (hpre:=fun w2 hs=>Rd.own (Hc:=[]) hSe hs inferInstance)
    (refine SL.l [9,10,11,12,14,15,16] ?_;(first|refine dB 13 rfl ?_;(first|refine dB 17 rfl ?_;refine SG.l [18,19,20] ?_|refine bA 17 ?_)|refine bA 13 ?_))
    refine aF hhd ?_ (hpre:=fun w2 hs=>Rd.own (Hc:=[]) hSe hs inferInstance)
    rintro _ _ ⟨b8,rfl,rfl⟩
    (refine bC [] ?_;(first|refine dB 17 rfl ?_;refine SG.l [18,19,20] ?_|refine bA 17 ?_))
    refine W.cq (zL _ _ (lJ c (jH x logs n)) x) ?_ (hpre:=fun w2 hs=>⟨Rd.my (Hc:=[]) (T:=5) b8 _ hs hhl,hr0.rd (Hc:=[]) hs⟩)
    rw [decide_eq_true he]
    (refine SL.l [18,19,20] ?_)
    refine W.k ?_
    refine rM ((He++Hb)++Ht) [eG c,.slice ea n ec] ?_
    exact⟨He++Hb,⟨_,us,He,Hb,rfl,hSe,hRb,rfl⟩,rfl⟩
   ·rw [if_neg (fun hc=>he hc.2.2)]
    refine W.k ?_
    (refine SW.l [] [0,1,2,3,4,5,6,7] ?_;(first|refine dB 8 rfl ?_;refine SG.l [9,10,11,12,14,15,16] ?_;(first|refine dB 13 rfl ?_;(first|refine dB 17 rfl ?_;refine SG.l [18,19,20] ?_|refine bA 17 ?_)|refine bA 13 ?_)|refine bA 8 ?_))
    refine W.cq hmy ?_ (hpre:=fun w2 hs=>Rd.own (Hc:=[]) hSe hs inferInstance)
    (refine SL.l [9,10,11,12,14,15,16] ?_;(first|refine dB 13 rfl ?_;(first|refine dB 17 rfl ?_;refine SG.l [18,19,20] ?_|refine bA 17 ?_)|refine bA 13 ?_))
    refine aF hhd ?_ (hpre:=fun w2 hs=>Rd.own (Hc:=[]) hSe hs inferInstance)
    rintro _ _ ⟨b8,rfl,rfl⟩
    (refine bC [] ?_;(first|refine dB 17 rfl ?_;refine SG.l [18,19,20] ?_|refine bA 17 ?_))
    refine W.cq (zL _ _ (lJ c (jH x logs n)) x) ?_ (hpre:=fun w2 hs=>⟨Rd.my (Hc:=[]) (T:=5) b8 _ hs hhl,hr0.rd (Hc:=[]) hs⟩)
    rw [decide_eq_false he]
    (refine SL.l [18,19,20] ?_)
    refine W.k ?_
    refine rM Ht [.int .u64 0,.slice none 0 0] ?_
    exact⟨[],hnone,rfl⟩
  ·rw [if_neg (fun hc=>hm hc.2.1)]
   rw [show gH p t (jH x logs n)=false by simpa using hm] at hmy
   refine W.k ?_
   (refine SW.l [] [0,1,2,3,4,5,6,7] ?_;(first|refine dB 8 rfl ?_;refine SG.l [9,10,11,12,14,15,16] ?_;(first|refine dB 13 rfl ?_;(first|refine dB 17 rfl ?_;refine SG.l [18,19,20] ?_|refine bA 17 ?_)|refine bA 13 ?_)|refine bA 8 ?_))
   refine W.cq hmy ?_ (hpre:=fun w2 hs=>Rd.own (Hc:=[]) hSe hs inferInstance)
   (refine SL.l [9,10,11,12,14,15,16] ?_;(first|refine dB 13 rfl ?_;(first|refine dB 17 rfl ?_;refine SG.l [18,19,20] ?_|refine bA 17 ?_)|refine bA 13 ?_))
   refine W.k ?_
   refine rM Ht [.int .u64 0,.slice none 0 0] ?_
   exact⟨[],hnone,rfl⟩
 ·rw [if_neg (fun hc=>hnt hc.1)]
  refine W.k ?_
  (refine SW.l [] [0,1,2,3,4,5,6,7] ?_;(first|refine dB 8 rfl ?_;refine SG.l [9,10,11,12,14,15,16] ?_;(first|refine dB 13 rfl ?_;(first|refine dB 17 rfl ?_;refine SG.l [18,19,20] ?_|refine bA 17 ?_)|refine bA 13 ?_)|refine bA 8 ?_))
  refine W.k ?_
  refine rM Ht [.int .u64 0,.slice none 0 0] ?_
  exact⟨[],hnone,rfl⟩
end
section
open Go.ChangeShapes Go.WideShapes Go.ChangeAt Go.RowKit
def aC8(w:World)(v:Value)(us:List Value)(l:List Ent):Prop:=Rd [] w 2 v (eD us l)∧us.length=l.length∧∀ (i:Nat) (x:Ent),l[i]?=some x→∃ u,us[i]?=some u∧Rd [] w 1 u (cbs x.2)
structure oG where
 kind:Int
 lv:Value
 full:Bool
 k:Int
 n:Int
 at':Int
 bv:Value
 wr:Bool
 pv:Value
abbrev oG.c(o:oG):List Value:=[.int .i64 o.kind,o.lv,.bool o.full,.int .i64 o.k,.int .i64 o.n,.int .i64 o.at',o.bv,.bool o.wr,o.pv]
structure aI0(w:World)(o:oG):Prop where
 l:∃ us l,aC8 w o.lv us l∧l.length≤maxLen∧∀ x∈l,IntKind.i64.min≤x.1∧x.1≤IntKind.i64.max
 b:∃ b,Rd [] w 1 o.bv (cbs b)
 p:∃ p,Rd [] w 1 o.pv (cbs p)
 i:IntKind.i64.min≤o.at'∧o.at'≤IntKind.i64.max
structure aMs(w:World)(a:Option Addr)(len cap:Nat)(ys:List Value):Prop where
 rd:Rd [] w 9 (.slice a len cap) ys
 each:∀ i,i<len→∃ o:oG,aI0 w o∧(ys.drop (i*9)).take 9=o.c
theorem aFU{w:World}:∀ (len:Nat) (ys:List Value),ys.length=len*2→(∀ i,i<len→∃ (k:Int) (dv:Value) (d:List UInt8),Rd [] w 1 dv (cbs d)∧(IntKind.i64.min≤k∧k≤IntKind.i64.max)∧(ys.drop (i*2)).take 2=[.int .i64 k,dv]) →
  ∃ us l,ys=eD us l∧us.length=len∧l.length=len∧(∀ (i:Nat) (x:Ent),l[i]?=some x→∃ u,us[i]?=some u∧Rd [] w 1 u (cbs x.2))∧∀ x∈l,IntKind.i64.min≤x.1∧x.1≤IntKind.i64.max
 | 0,ys,hl,_=>⟨[],[],bJ oQ,rfl,rfl,by simp,by simp⟩
 | len+1,ys,hl,h=>by
  obtain⟨k,dv,d,h1,h2,h3⟩:=h 0 oQ
  obtain⟨us,l,e,e1,e2,e3,e4⟩:=aFU len (ys.drop 2) (by rw [bG];omega) fun i hi=>by
   obtain⟨k,dv,d,h1,h2,h3⟩:=h (i+1) oQ
   refine⟨k,dv,d,h1,h2,?_⟩
   rw [cJ,show 2+i*2=(i+1)*2 by omega]
   exact h3
  rw [jR,bR] at h3
  refine⟨dv::us,(k,d)::l,?_,by simp [e1],by simp [e2],fun i x hx=>?_,fun x hx=>?_⟩
  ·rw [← dG 2 ys,h3,e]
   rfl
  ·cases i with
   | zero=>simp only [jJ,cV] at hx ⊢;subst hx;exact⟨dv,rfl,h1⟩
   | succ i=>simp only [List.getElem?_cons_succ] at hx ⊢;exact e3 i x hx
  ·rcases bZ.1 hx with rfl|hx
   ·exact h2
   ·exact e4 x hx
section
variable {H:Type}{enc:TypeId×Value→H}{w:World}{sp:Nat→Bool}{hd:Bool}
set_option maxRecDepth 100000 in
theorem aKT{fuel:Nat}{cs:List Value}{x:DataW H×List MemPlace}(h:DataW.trod enc prog w 0 sp hd fuel 72 cs=some x):∃ (k:Int) (dv:Value) (d:List UInt8),Rd [] w 1 dv (cbs d)∧(IntKind.i64.min≤k∧k≤IntKind.i64.max)∧cs=[.int .i64 k,dv]:=by
 obtain⟨xs,m,-,-,hl,hxl,hx⟩:=DataW.trod_struct underlying72 h
 have c0:prog.cellsOf 3=1:=by kernel_rfl
 have c1:prog.cellsOf 23=1:=by kernel_rfl
 have c2:prog.cellsOf 5=1:=by kernel_rfl
 have c4:prog.cellsOf 72=2:=by kernel_rfl
 rw [c4] at hl
 have hn:xs.length=2:=hxl
 have h0:DataW.trod enc prog w 0 sp hd m 3 ((cs.drop 0).take (prog.cellsOf 3))=xs[0]?:=hx 0 _ rfl
 have h1:DataW.trod enc prog w 0 sp hd m 23 ((cs.drop 1).take (prog.cellsOf 23))=xs[1]?:=hx 1 _ rfl
 rw [c0] at h0
 rw [c1] at h1
 rw [aA oQ] at h0 h1
 obtain⟨n0,e0,a0,b0⟩:=pQ underlying3 h0
 obtain⟨v1,s1,e1,r1⟩:=aED underlying23 c2 underlying5 h1
 refine⟨n0,v1,s1,r1,⟨a0,b0⟩,?_⟩
 match cs,hl with
 | [x0,x1],_=>
  simp at e0 e1
  subst e0 e1
  rfl
set_option maxRecDepth 100000 in
theorem aKS{fuel:Nat}{cs:List Value}{x:DataW H×List MemPlace}(h:DataW.trod enc prog w 0 sp hd fuel 67 cs=some x):∃ o:oG,aI0 w o∧cs=o.c:=by
 obtain⟨xs,m,-,-,hl,hxl,hx⟩:=DataW.trod_struct underlying67 h
 have c0:prog.cellsOf 3=1:=by kernel_rfl
 have c1:prog.cellsOf 23=1:=by kernel_rfl
 have c2:prog.cellsOf 5=1:=by kernel_rfl
 have c3:prog.cellsOf 4=1:=by kernel_rfl
 have c5:prog.cellsOf 65=1:=by kernel_rfl
 have c6:prog.cellsOf 72=2:=by kernel_rfl
 have c4:prog.cellsOf 67=9:=by kernel_rfl
 rw [c4] at hl
 have hn:xs.length=9:=hxl
 have h0:DataW.trod enc prog w 0 sp hd m 3 ((cs.drop 0).take (prog.cellsOf 3))=xs[0]?:=hx 0 _ rfl
 have h1:DataW.trod enc prog w 0 sp hd m 65 ((cs.drop 1).take (prog.cellsOf 65))=xs[1]?:=hx 1 _ rfl
 have h2:DataW.trod enc prog w 0 sp hd m 4 ((cs.drop 2).take (prog.cellsOf 4))=xs[2]?:=hx 2 _ rfl
 have h3:DataW.trod enc prog w 0 sp hd m 3 ((cs.drop 3).take (prog.cellsOf 3))=xs[3]?:=hx 3 _ rfl
 have h4:DataW.trod enc prog w 0 sp hd m 3 ((cs.drop 4).take (prog.cellsOf 3))=xs[4]?:=hx 4 _ rfl
 have h5:DataW.trod enc prog w 0 sp hd m 3 ((cs.drop 5).take (prog.cellsOf 3))=xs[5]?:=hx 5 _ rfl
 have h6:DataW.trod enc prog w 0 sp hd m 23 ((cs.drop 6).take (prog.cellsOf 23))=xs[6]?:=hx 6 _ rfl
 have h7:DataW.trod enc prog w 0 sp hd m 4 ((cs.drop 7).take (prog.cellsOf 4))=xs[7]?:=hx 7 _ rfl
 have h8:DataW.trod enc prog w 0 sp hd m 23 ((cs.drop 8).take (prog.cellsOf 23))=xs[8]?:=hx 8 _ rfl
 rw [c0] at h0 h3 h4 h5
 rw [c1] at h6 h8
 rw [c3] at h2 h7
 rw [c5] at h1
 rw [aA oQ] at h0 h1 h2 h3 h4 h5 h6 h7 h8
 obtain⟨n0,e0,-,-⟩:=pQ underlying3 h0
 obtain⟨a1,len1,cap1,ys1,e1,q1,q2,hrd1,hyl1,hG1⟩:=aFJ (G:=fun cs=>∃ (k:Int) (dv:Value) (d:List UInt8),Rd [] w 1 dv (cbs d)∧(IntKind.i64.min≤k∧k≤IntKind.i64.max)∧cs=[.int .i64 k,dv]) underlying65 c6 dQ h1 (fun fuel cells z h=>aKT h)
 obtain⟨us,l,rfl,u1,u2,u3,u4⟩:=aFU len1 ys1 hyl1 hG1
 obtain⟨f2,e2,-⟩:=DataW.trod_bool underlying4 h2
 obtain⟨n3,e3,-,-⟩:=pQ underlying3 h3
 obtain⟨n4,e4,-,-⟩:=pQ underlying3 h4
 obtain⟨n5,e5,a5,b5⟩:=pQ underlying3 h5
 obtain⟨v6,s6,e6,r6⟩:=aED underlying23 c2 underlying5 h6
 obtain⟨f7,e7,-⟩:=DataW.trod_bool underlying4 h7
 obtain⟨v8,s8,e8,r8⟩:=aED underlying23 c2 underlying5 h8
 refine⟨⟨n0,.slice a1 len1 cap1,f2,n3,n4,n5,v6,f7,v8⟩,⟨⟨us,l,⟨hrd1,by omega,u3⟩,by omega,u4⟩,⟨s6,r6⟩,⟨s8,r8⟩,⟨a5,b5⟩⟩,?_⟩
 match cs,hl with
 | [x0,x1,x2,x3,x4,x5,x6,x7,x8],_=>
  simp at e0 e1 e2 e3 e4 e5 e6 e7 e8
  subst e0 e1 e2 e3 e4 e5 e6 e7 e8
  rfl
set_option maxRecDepth 100000 in
theorem aFI{b:Nat}{r:Reach}{v:Value}{d:DataW H}{ps:List MemPlace}(hval:Value.okWide prog w r b 61 v)(hd':DataW.Trod enc prog w 0 sp hd 61 v d ps) :
  ∃ (a:Option Addr) (len cap:Nat) (ys:List Value),v=.slice a len cap∧len≤maxLen∧aMs w a len cap ys:=by
 obtain⟨a,len,cap,ys,rfl,hlc,hcm,hrd,hyl,hops⟩:=aLP (n:=9) (G:=fun cs=>∃ o:oG,aI0 w o∧cs=o.c) underlying61 kQ dQ hval hd' (fun fuel cells z h=>aKS h)
 exact⟨a,len,cap,ys,rfl,fN hlc hcm,hrd,hops⟩
end
end
end Go.Proofs.YtnhnpjokpelkbaaGreat
