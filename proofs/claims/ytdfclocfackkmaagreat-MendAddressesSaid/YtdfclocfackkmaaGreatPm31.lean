/- The log: may one be, its blocks. -/
import Derived.Test.YtdfclocfackkmaaGreatPm29
set_option linter.unusedVariables false
set_option linter.unusedSimpArgs false
set_option linter.unusedSectionVars false
set_option maxHeartbeats 2000000
namespace Go.Proofs.YtdfclocfackkmaaGreat
open Go Go.Proofs.Tryz
section
attribute [local irreducible] SW SL SQ SH SA SS Pu Fin bS aN
structure aND(P:Program)(f:FuncId):Prop where
 fn:bC P f
 t:∀ u bs,Tri P f [u] [] (fun w=>Rd [] w 1 u (cbs bs)) (fun r H=>r=.bool (decide (bs.length≠256))/\H=[])
theorem aOo{f:FuncId}(hf:aND prog f){Ht:Hp}(v:Value)(vs:LV)(bss:LL)(hB:RB Ht vs bss)(hn:bss.length<=1000000):Tri prog 271 [v,.func (.func f) #[] #[]] Ht (fun w=>Rd (Ht.map Prod.fst) w 1 v vs) (fun r H=>∃ z:Int,r=.int .i64 z/\H=Ht/\(0<=z↔∃ b∈bss,b.length≠256)):=by
 haveI:=hf.fn;refine Tri.mt func271 ntmps271 fun w hw=>?_;obtain⟨a,la,ca,rfl,hl1,hc1,hr1⟩:=hw.get;rw [Nat.mul_one,hB.1] at hl1;subst hl1;refine W.k ?_;refine bE [0,1,7] (fun k:Nat=>[(8,.int .i64 (k:Int))]) (fun _=>Ht) (fun k=>bss.length-k) (fun k=>k<=bss.length/\∀ i b,i<k->bss[i]?=some b->b.length=256) 0 ⟨Nat.zero_le _,fun i b h=>by omega⟩ ?_;rintro k ⟨hk,hk2⟩;by_cases h:k<bss.length
 ·obtain⟨bb,o,l,T,fz,rfl,hb,hkK,hy⟩:=hr1 oQ;obtain⟨u,hu1,hu2⟩:=hB.2 k _ (aA h);have hlu:l[o+k]?=some u:=by
   have h2:((l.drop o).take (bss.length*1))[k]?=vs[k]?:=by rw [hy]
   rw [bD,if_pos oQ,bH,hu1] at h2;exact h2
  have hbl:=aA h;generalize bss[k]=bs at *;have huo:=hu2.one;have h1:=hf.t u bs;refine W.k ?_;refine dN [] rfl rfl rfl rfl rfl rfl h1 (fun w2 hs=>hu2.rd (Hc:=[]) hs) ?_;rintro _ _ ⟨rfl,rfl⟩;by_cases h256:bs.length=256
  ·rw [decide_eq_false (by simp [h256])];refine W.k ?_;refine aN.mk (k+1) ?_;refine⟨h,fun i b hi hib=>?_⟩;by_cases hik:i=k
   ·subst hik;rw [hbl] at hib;cases hib;exact h256
   exact hk2 i b oQ hib
  rw [decide_eq_true h256];refine W.k ?_;refine Fin.to Ht ?_;exact F.f1 ⟨(k:Int),rfl,rfl,⟨fun _=>⟨bs,aP hbl,h256⟩,fun _=>by omega⟩⟩
 have hkn:k=bss.length:=oQ;subst hkn;refine W.k ?_;refine Fin.to Ht ?_;refine F.f1 ⟨-1,rfl,rfl,⟨fun h=>by omega,fun⟨b,hb,hne⟩=>?_⟩⟩;obtain⟨i,hi⟩:=cW.1 hb;exact absurd (hk2 i b (aD.1 hi).1 hi) hne
theorem aMa{f:FuncId}(hf:aND prog f){Ht:Hp}(v:Value)(vs:LV)(bss:LL)(hB:RB Ht vs bss)(hn:bss.length<=1000000)(h256:∀ b∈bss,b.length=256):Tri prog 249 [v,.func (.func f) #[] #[]] Ht (fun w=>Rd (Ht.map Prod.fst) w 1 v vs) (fun r H=>r=.bool false/\H=Ht):=by
 haveI:=hf.fn;refine Tri.mt func249 ntmps249 fun w hw=>?_;have hv:=hw.isOne;obtain⟨a,la,ca,rfl,-⟩:=hw.get;refine W.k ?_;refine aF (aOo hf _ vs bss hB hn) ?_ (hpre:=fun w2 hs=>hw.ro (Hc:=Ht) hs);rintro _ Ht ⟨z,rfl,rfl,hz⟩;have hz2:z<0:=by
  rcases zO z 0 with h|h
  ·exact h
  obtain⟨b,hb,hne⟩:=hz.1 h;exact absurd (h256 b hb) hne
 refine W.k ?_;refine Fin.to Ht ?_;exact F.f1 ⟨rfl,rfl⟩
theorem aME:aND prog 248:=⟨inferInstance,fun u bs=>by
 refine Tri.mt func248 ntmps248 fun w hw=>?_
 obtain⟨a,la,ca,rfl,hl1,hc1,hr1⟩:=hw.get
 rw [aI,Nat.mul_one] at hl1
 subst hl1
 by_cases h:bs.length=256
 ·rw [decide_eq_false (by simp [h])]
  refine W.k ?_
  exact F.n
 ·rw [decide_eq_true h]
  refine W.k ?_
  refine Fin.to [] ?_
  exact F.f1 ⟨rfl,rfl⟩⟩
def eH(us:LV)(l:List Ent):LV:=(List.zipWith (fun u x=>[.int .i64 x.1,u]) us l).flatten
def LE(us:LV)(l:List Ent):Prop:=us.length=l.length/\∀ (i:Nat) (x:Ent),l[i]?=some x->∃ a cap,us[i]?=some (.slice a x.2.length cap)
theorem RB.le{Ht:Hp}{us:LV}{l:List Ent}(h:RB Ht us (l.map Prod.snd)):LE us l:=⟨by rw [h.1,aC],fun i x hx=>by
 obtain⟨v,h1,h2⟩:=h.2 i x.2 (by rw [aL,hx];rfl)
 obtain⟨a,len,cap,rfl,e⟩:=(show RdH Ht v x.2 from h2)
 exact⟨a,cap,by rw [h1,e.1]⟩⟩
theorem nH(us:LV)(l:List Ent):∀ y∈List.zipWith (fun u x=>[Value.int .i64 x.1,u]) us (l:List Ent),y.length=2:=fun y hy=>by
 obtain⟨i,hi⟩:=cW.1 hy
 rw [eV] at hi
 split at hi
 ·cases hi;rfl
 ·cases hi
theorem fL(us:LV)(l:List Ent)(h:us.length=l.length):(eH us l).length=l.length*2:=by unfold eH;rw [dH (n:=2) (nH us l),fZ,h,iS]
theorem kL{us:LV}{l:List Ent}(h:us.length=l.length)(u:Value)(x:Ent):eH (us++[u]) (l++[x])=eH us l++[.int .i64 x.1,u]:=by unfold eH;rw [List.zipWith_append h];simp
theorem aFN{us:LV}{l:List Ent}{i:Nat}{x:Ent}{u:Value}(hu:us[i]?=some u)(hx:l[i]?=some x):(((eH us l).drop (i*2)).take 2)=[.int .i64 x.1,u]:=by
 unfold eH;have h1:(List.zipWith (fun u x=>[Value.int .i64 x.1,u]) us (l:List Ent))[i]?=some [.int .i64 x.1,u]:=by rw [eV,hu,hx]
 exact tC (nH us l) h1
theorem xI(p:Nat)(last:Int)(x:Ent)(l:List Ent):nE p last (x::l)=(decide (last<x.1/\x.1<(Gm.sealed p:Nat)/\x.2.length=256)&&nE p x.1 l):=rfl
theorem LE.at{us:LV}{l:List Ent}(h:LE us l){k:Nat}{x:Ent}(hx:l[k]?=some x):∃ a cap,(List.zipWith (fun u (x:Ent)=>[Value.int .i64 x.1,u]) us l)[k]?=some [.int .i64 x.1,.slice a x.2.length cap]:=by obtain⟨a,cap,hu⟩:=h.2 k x hx;exact⟨a,cap,by rw [eV,hu,hx]⟩
theorem nF{p:Nat}:∀ {l:List Ent} {last:Int},nE p last l=true->∀ (k:Nat) (x:Ent),l[k]?=some x->last<x.1/\x.1<(Gm.sealed p:Nat)/\x.2.length=256
 | [],_,_,k,x,h=>by simp at h
 | y::l,last,hm,k,x,h=>by
  rw [xI,bR,decide_eq_true_iff] at hm;cases k with
  | zero=>cases h;exact hm.1
  | succ k=>
   have:=nF hm.2 k x h
   exact⟨oQ,this.2⟩
theorem aAn{p t:Nat}{l:List Ent}(hm:iY p t l=true)(k:Nat)(x:Ent)(h:l[k]?=some x):x.2.length=256:=by unfold iY at hm;rw [bR] at hm;exact (nF hm.2 k x h).2.2
theorem aG6{p t:Nat}(h:Gm.Ok p t)(c:UInt64)(v:Value)(us:LV)(l:List Ent)(hL:LE us l)(hn:l.length<=1000000):Tri prog 170 [kM p t,.agg #[dZ c,v]] [] (fun w=>Rd [] w 2 v (eH us l)) (fun r H=>r=.bool (iY p t l)/\H=[]):=by
 refine Tri.mt func170 ntmps170 fun w hw=>?_;have hck:=qC h;have hsa:=qD h;unfold eH at hw;obtain⟨a,ca,rfl,hcap,hg⟩:=hw.rows dQ (nH us l);have hzl:(List.zipWith (fun u (x:Ent)=>[Value.int .i64 x.1,u]) us l).length=l.length:=by rw [fZ,hL.1,iS]
 rw [hzl] at hcap |-;have hY:One (Value.slice a l.length ca):=⟨rfl⟩;unfold iY;by_cases h1:l.length<1
 ·rw [decide_eq_false oQ,fX];refine W.k fun _ b_=>?_;refine W.cw hck ?_;exact F.n
 by_cases h2:t<l.length
 ·rw [decide_eq_false oQ,fX];refine W.k fun _ b_=>?_;refine W.cw hck ?_;exact F.n
 rw [decide_eq_true oQ,jO];refine W.k fun _ b_=>?_;refine W.cq hck ?_;refine W.j ?_;refine bP [] [] (fun _:Unit=>[]) (fun _=>[]) (fun _=>nE p (-1) l=true) ?_ ?_
 ·refine W.k ?_;refine bE [2,26,27] (fun x:Nat×Int=>[(5,.int .i64 x.2),(28,.int .i64 (x.1:Int))]) (fun _=>[]) (fun x=>l.length-x.1) (fun x=>(x.1<=l.length /\ -1<=x.2)/\nE p (-1) l=nE p x.2 (l.drop x.1)) (0,-1) ⟨⟨Nat.zero_le _,Int.le_refl _⟩,rfl⟩ ?_;rintro⟨k,last⟩ ⟨⟨hk,hla⟩,hm⟩;dsimp only at hk hla hm |-;by_cases hkn:k<l.length
  ·have hx:=aA hkn;rw [bK hkn,xI] at hm;obtain⟨a2,cap2,hz⟩:=hL.at hx;obtain⟨pb,po,lv,T,fz,rfl,hb,hkK,hv⟩:=hg k _ hz;generalize l[k]=x at *;have hsx:=hsa x.1;unfold Gm.atK at hsx;by_cases c1:x.1<=last
   ·rw [decide_eq_false oQ,fX] at hm;rw [hm];refine W.k fun b_=>?_;exact F.n
   by_cases c2:x.1<(Gm.sealed p:Nat)
   ·rw [if_pos oQ] at hsx;by_cases c3:x.2.length=256
    ·rw [decide_eq_true oQ,jO] at hm;refine W.k fun b_=>?_;refine W.cw hsx ?_;refine aN.mk (k+1,x.1) ?_;exact⟨⟨hkn,oQ⟩,hm⟩
    rw [decide_eq_false oQ,fX] at hm;rw [hm];refine W.k fun b_=>?_;refine W.cw hsx ?_;exact F.n
   rw [decide_eq_false oQ,fX] at hm;rw [if_neg oQ] at hsx;rw [hm];refine W.k fun b_=>?_;refine W.cw hsx ?_;exact F.n
  have hkl:k=l.length:=oQ;rw [hkl,sV] at hm;subst hkl;refine W.k ?_;refine bS.mk () ?_;exact hm
 rintro _ hm;rw [hm];refine W.k ?_;exact F.n
def qI:LB:=[82,69,68,79,45,76,79,71]
theorem bsR:bV (fun i=>some (i*1,1)) (zs [.int .u8 0] 8) [(0,.int .u8 82),(1,.int .u8 69),(2,.int .u8 68),(3,.int .u8 79),(4,.int .u8 45),(5,.int .u8 76),(6,.int .u8 79),(7,.int .u8 71)]=some (cbs qI):=rfl
theorem bs3(a1 a2 a3:Option Addr)(l1 l2 l3 c1 c2 c3:Nat):bV (fun i=>some (i*1,1)) (zs [.slice none 0 0] 3) [(0,.slice a1 l1 c1),(1,.slice a2 l2 c2),(2,.slice a3 l3 c3)]=some [.slice a1 l1 c1,.slice a2 l2 c2,.slice a3 l3 c3]:=rfl
theorem aLt{K:List Nat}{vs:LV}{a1 a2 a3:Option Addr}{l1 l2 l3 c1 c2 c3:Nat}{d1 d2 d3:LB}{w:World}(hv:vs=[.slice a1 l1 c1,.slice a2 l2 c2,.slice a3 l3 c3])(h1:Rd K w 1 (.slice a1 l1 c1) (cbs d1))(h2:Rd K w 1 (.slice a2 l2 c2) (cbs d2))(h3:Rd K w 1 (.slice a3 l3 c3) (cbs d3)):∀ (i:Nat) (bs:LB),[d1,d2,d3][i]?=some bs->∃ (a:Option Addr) (len cap:Nat),vs[i]?=some (Value.slice a len cap)/\Rd K w 1 (.slice a len cap) (cbs bs):=by
 subst hv;intro i bs h;match i,h with
 | 0,h=>cases h;exact⟨_,_,_,rfl,h1⟩
 | 1,h=>cases h;exact⟨_,_,_,rfl,h2⟩
 | 2,h=>cases h;exact⟨_,_,_,rfl,h3⟩
 | (n+3),h=>simp at h
def nR(c:UInt64)(n:Nat):LB:=qI++leN 8 c++leN 2 (UInt64.ofNat n)
def mD(l:List Ent):LB:=l.flatMap fun x=>leN 2 (UInt64.ofInt x.1)
theorem aBd(l:List Ent):(mD l).length=2*l.length:=by
 unfold mD;induction l with
 | nil=>rfl
 | cons x l ih=>rw [dE,aB,ih,dV,aW];omega
theorem cvK(x:Int):Cv .u64 x ((UInt64.ofInt x).toNat:Int):=⟨by
 unfold UInt64.ofInt
 rw [mT,aU]
 omega⟩
theorem aKo(c:UInt64)(v:Value)(us:LV)(l:List Ent)(hL:LE us l)(hn:l.length<=100):Tri prog 225 [.agg #[dZ c,v]] [] (fun w=>Rd [] w 2 v (eH us l)) (fun r H=>∃ b,r=.slice (some ⟨b,0,none⟩) 256 256/\H=[(b,cl (cbs (lO c l)) 5)]):=by
 refine Tri.mt func225 ntmps225 fun w hw=>?_;unfold eH at hw;obtain⟨a,ca,rfl,hcap,hg⟩:=hw.rows dQ (nH us l);have hzl:(List.zipWith (fun u (x:Ent)=>[Value.int .i64 x.1,u]) us l).length=l.length:=by rw [fZ,hL.1,iS]
 rw [hzl] at hcap |-;have hY:One (Value.slice a l.length ca):=⟨rfl⟩;have hp1:=yK 8 c oQ oQ;have hp2:=yK 2 (UInt64.ofNat l.length) oQ oQ;have hp3:=fun (x:Ent)=>yK 2 (UInt64.ofInt x.1) oQ oQ;have hfl:[qI,leN 8 c,leN 2 (UInt64.ofNat l.length)].flatten=nR c l.length:=by unfold nR;simp
 have hfn:(nR c l.length).length=18:=by simp [nR,dV,qI]
 have hpd:=fun v=>aD5 v (nR c l.length++mD l) 256 dQ dQ (by rw [aB,hfn,aBd];omega);rw [show pad 256 (nR c l.length++mD l)=lO c l from rfl] at hpd;refine W.k fun b_=>?_;(refine SW.l [] [2,3,5,6,7,8] ?_;skip );repeat' (first
  | refine iV 0 4 ?_ ?_ rfl rfl (hok:=by decide +kernel)|refine iV 1 4 ?_ ?_ rfl rfl (hok:=by decide +kernel)|refine iV 0 9 ?_ ?_ rfl rfl (hok:=by decide +kernel)|refine iV 1 9 ?_ ?_ rfl rfl (hok:=by decide +kernel)
  | refine pO 0 ?_ rfl (by decide +kernel)|refine pO 1 ?_ rfl (by decide +kernel)|refine pO 4 ?_ rfl (by decide +kernel)|refine pO 9 ?_ rfl (by decide +kernel)
  | (refine iQ (fun b1=>?_) (hr:=bsR);refine dU ?_)
  | (refine W.mk ?_;refine dU ?_)
  | (refine eC hp1 rfl ?_;rintro _ _ ⟨b2,rfl,rfl⟩;refine dU ?_)
  | (refine eC hp2 rfl ?_;rintro _ _ ⟨b3,rfl,rfl⟩;refine dU ?_))
 all_goals
  refine aX 10 ?_;refine iQ (fun b5=>?_) (hr:=bs3 ..);(refine bB [] ?_;refine aX 11 ?_);refine aF (vS _ [qI,leN 8 c,leN 2 (UInt64.ofNat l.length)] (by rw [hfl,hfn];decide) (by simp only [aW,List.length_nil];omega)) ?_ (hpre:=fun w2 hs=>RdS.at (T:=31) (fz:=(0,0)) (Hc:=[]) hs rfl (Nat.le_refl _) rfl (aLt rfl (Rd.atB (Hc:=[]) (b:=b1) (len:=8) (cap:=8) (T:=5) (fz:=((cbs qI).length,(cbs qI).length+1)) qI hs rfl (Nat.le_refl _)) (Rd.my (Hc:=[]) (T:=5) b2 _ hs (dV ..)) (Rd.my (Hc:=[]) (T:=5) b3 _ hs (dV ..))));rw [hfl];intro v6 H6 h6;have h61:=h6.isOne;(refine SL.l [12,13] ?_);refine W.j ?_;refine bP [] H6 (fun x:Value×Hp=>[(3,x.1)]) (fun x=>x.2) (fun x=>Sl 5 1 x.1 (cbs (nR c l.length++mD l)) x.2) ?_ ?_
  ·refine W.k ?_;refine bE [19,20] (fun x:Nat×Value×Hp=>[(3,x.2.1),(21,.int .i64 (x.1:Int))]) (fun x=>x.2.2) (fun x=>l.length-x.1) (fun x=>x.1<=l.length/\Sl 5 1 x.2.1 (cbs (nR c l.length++mD (l.take x.1))) x.2.2) (0,v6,H6) ⟨Nat.zero_le _,by rw [cU,show mD []=[] from rfl,aG];exact h6⟩ ?_;rintro⟨k,v2,H2⟩ ⟨hk,h2⟩;dsimp only at hk h2 |-;have h21:=h2.isOne;by_cases hkn:k<l.length
   ·have hx:=aA hkn;obtain⟨a2,cap2,hz⟩:=hL.at hx;obtain⟨pb,po,lv,T,fz,rfl,hb,hkK,hv⟩:=hg k _ hz;have hts:mD (l.take (k+1))=mD (l.take k)++leN 2 (UInt64.ofInt l[k].1):=by unfold mD;rw [aY,hx,cP];simp
    have htl:(mD (l.take k)).length=2*k:=by rw [aBd,aH];omega
    generalize l[k]=x at *;haveI:=cvK x.1;refine W.k fun b_=>?_;refine aF (hp3 x) ?_;rintro _ _ ⟨b7,rfl,rfl⟩;refine W.k ?_;refine W.ap h2 (ys:=cbs (leN 2 (UInt64.ofInt x.1))) (mm:=2) (fun w2 hs=>(Sl.own 5 1 b7 (len:=2) (xs:=cbs (leN 2 (UInt64.ofInt x.1))) (by rw [aI,dV])).srcAt hs inferInstance) (fun v3 H3 h3=>?_) (hys:=by rw [aI,dV]) (hbytes:=by rw [aI,aI,aB,hfn,htl,dV];omega);have h31:=h3.isOne;rw [show cbs (nR c l.length++mD (l.take k))++cbs (leN 2 (UInt64.ofInt x.1))=cbs (nR c l.length++mD (l.take (k+1))) by rw [hts];simp] at h3;refine W.k ?_;refine aN.mk (k+1,v3,H3) ?_;exact⟨hkn,h3⟩
   have hkl:k=l.length:=oQ;rw [hkl,bO] at h2;subst hkl;refine W.k ?_;refine bS.mk (v2,H2) ?_;exact h2
  rintro⟨v2,H2⟩ h2;dsimp only at h2 |-;have h21:=h2.isOne;refine W.k ?_;refine aF (hpd v2) ?_ (hpre:=fun w2 hs=>Rd.own (Hc:=[]) h2 hs inferInstance);rintro _ _ ⟨b8,rfl,rfl⟩;refine W.k ?_;refine Fin.to [(b8,cl (cbs (lO c l)) 5)] ?_;exact F.f1 ⟨b8,rfl,rfl⟩
theorem aJC{p t:Nat}(h:Gm.Ok p t)(c:UInt64)(v:Value)(us:LV)(l:List Ent){Ht:Hp}(hR:RB Ht us (l.map Prod.snd))(hm:iY p t l=true):Tri prog 176 [kM p t,.agg #[dZ c,v]] Ht (fun w=>Rd (Ht.map Prod.fst) w 2 v (eH us l)) (fun r H=>∃ bv Hb,r=.tuple #[bv,.int .i64 0]/\Bls bv (lO c l::l.map Prod.snd) Hb/\H=Hb++Ht):=by
 refine Tri.mt func176 ntmps176 fun w hw=>?_;have hL:=hR.le;have ht:=h.2.2.2;have hlt:1<=l.length/\l.length<=t:=by unfold iY at hm;simp at hm;exact hm.1
 have hw2:=hw;unfold eH at hw2;obtain⟨a,ca,rfl,hcap,hg⟩:=hw2.rows dQ (nH us l);have hzl:(List.zipWith (fun u (x:Ent)=>[Value.int .i64 x.1,u]) us l).length=l.length:=by rw [fZ,hL.1,iS]
 rw [hzl] at hcap hw |-;have hY:One (Value.slice a l.length ca):=⟨rfl⟩;have hmy:=aG6 h c (.slice a l.length ca) us l hL oQ;rw [hm] at hmy;have hhd:=aKo c (.slice a l.length ca) us l hL oQ;have hmayx:=aAn hm;(refine W.k ?_;repeat intro b_);refine W.cw hmy ?_ (hpre:=fun w2 hs=>hw.ro (Hc:=[]) hs);repeat intro b_
 refine aF hhd ?_ (hpre:=fun w2 hs=>hw.ro (Hc:=[]) hs);rintro _ _ ⟨b1,rfl,rfl⟩;have hb15:bV (fun i=>some (i*1,1)) (zs [.slice none 0 0] 1) [(0,.slice (some ⟨b1,0,none⟩) 256 256)]=some [.slice (some ⟨b1,0,none⟩) 256 256]:=rfl;(refine W.j ?_;repeat intro b_);generalize b_=b2 at *;have hE0:Sl 31 1 (.slice (some ⟨b2,0,none⟩) 1 1) [.slice (some ⟨b1,0,none⟩) 256 256] [(b2,cl [.slice (some ⟨b1,0,none⟩) 256 256] 31)]:=Sl.own _ 1 b2 (len:=1) rfl;have hR0:RB [(b1,cl (cbs (lO c l)) 5)] [.slice (some ⟨b1,0,none⟩) 256 256] [lO c l]:=(RB.nil _).snoc (RdH.of (Sl.own 5 1 b1 (len:=256) (xs:=cbs (lO c l)) (by rw [aI,xE])));refine bP [] [(b2,cl [.slice (some ⟨b1,0,none⟩) 256 256] 31),(b1,cl (cbs (lO c l)) 5)] (fun x:Value×Hp=>[(6,x.1)]) (fun x=>x.2) (fun x=>Bls x.1 (lO c l::l.map Prod.snd) x.2) ?_ ?_
 ·(refine W.k ?_;repeat intro b_);refine bE [17,18] (fun x:Nat×Value×LV×Hp×Hp=>[(6,x.2.1),(19,.int .i64 (x.1:Int))]) (fun x=>x.2.2.2.1++x.2.2.2.2) (fun x=>l.length-x.1) (fun x=>x.1<=l.length/\Sl 31 1 x.2.1 x.2.2.1 x.2.2.2.1/\RB x.2.2.2.2 x.2.2.1 (lO c l::(l.take x.1).map Prod.snd)) (0,.slice (some ⟨b2,0,none⟩) 1 1,[.slice (some ⟨b1,0,none⟩) 256 256],[(b2,cl [.slice (some ⟨b1,0,none⟩) 256 256] 31)],[(b1,cl (cbs (lO c l)) 5)]) ⟨Nat.zero_le _,hE0,by rw [cU];exact hR0⟩ ?_;rintro⟨k,v2,vs2,H2,Ht2⟩ ⟨hk,h2,hR2⟩;dsimp only at hk h2 hR2 |-;have h21:=h2.isOne;have hvl:vs2.length=1+k:=by rw [hR2.1];simp;omega
  by_cases hkn:k<l.length
  ·have hx:=aA hkn;obtain⟨u,hu1,hu2⟩:=hR.2 k l[k].2 (by rw [aL,hx];rfl);have hz:(List.zipWith (fun u (x:Ent)=>[Value.int .i64 x.1,u]) us l)[k]?=some [.int .i64 l[k].1,u]:=by rw [eV,hu1,hx]
   obtain⟨pb,po,lv,T,fz,rfl,hb,hkK,hv⟩:=hg k _ hz;have hts:lO c l::(l.take (k+1)).map Prod.snd=(lO c l::(l.take k).map Prod.snd)++[l[k].2]:=by rw [aY,hx,aZ];rfl
   generalize l[k]=x at *;have huo:=hu2.one;obtain⟨ua,ul,uc,rfl,hux,-⟩:=(show RdH Ht u x.2 from hu2);have hxl:x.2.length<=1000000:=by have:=hmayx k x hx;omega
   (refine W.k ?_;repeat intro b_);refine aF (wY _ x.2 oQ) ?_ (hpre:=fun w2 hs=>hu2.rd (Hc:=[]) hs);intro v3 H3 h3;have h31:=h3.isOne;obtain⟨a3,l3,c3,rfl,-⟩:=h3.form;have hb27:bV (fun i=>some (i*1,1)) (zs [.slice none 0 0] 1) [(0,.slice a3 l3 c3)]=some [.slice a3 l3 c3]:=rfl;(refine W.k ?_;repeat intro b_);refine W.ap h2 (ys:=[.slice a3 l3 c3]) (mm:=1) (fun w2 hs=>(Sl.own 31 1 b_ (xs:=[.slice a3 l3 c3]) rfl).srcAt hs inferInstance) (fun v4 H4 h4=>?_) (hys:=rfl) (hbytes:=by rw [hvl];simp;omega);have h41:=h4.isOne;(refine W.k ?_;repeat intro b_);refine aN.mk (k+1,v4,vs2++[.slice a3 l3 c3],H4,H3++Ht2) ?_;refine⟨hkn,h4,?_⟩;dsimp only;rw [hts];exact (hR2.mono fun x hx=>aM _ hx).snoc ((RdH.of h3).mono fun x hx=>aO _ hx)
  have hkl:k=l.length:=oQ;rw [hkl,bO] at hR2;subst hkl;(refine W.k ?_;repeat intro b_);refine bS.mk (v2,H2++Ht2) ?_;exact⟨vs2,H2,Ht2,h2,hR2,rfl⟩
 rintro⟨v2,Hb⟩ hB;dsimp only at hB |-;have hB1:=hB.one;(refine W.k ?_;repeat intro b_);refine Fin.to (Hb++Ht) ?_;exact F.f2 ⟨v2,Hb,rfl,hB,rfl⟩
theorem aCr(h:LB)(logs:LL)(n:Nat):jC h logs (n+1)=jC h logs n++[(((jR ((h.drop (18+2*n)).take 2):Nat):Int),logs.getD (1+n) [])]:=by unfold jC;rw [bT,aZ];rfl
theorem tA(h:LB)(logs:LL)(n:Nat):(jC h logs n).length=n:=by unfold jC;simp
def aNe(o:Option (UInt64×List Ent))(r:Value)(H:Hp):Prop:=match o with
 | none=>r=.tuple #[.agg #[.int .u64 0,.slice none 0 0],.int .i64 4]/\H=[]
 | some x=>∃ ev us He Hb,r=.tuple #[.agg #[dZ x.1,ev],.int .i64 0]/\Sl 112 2 ev (eH us x.2) He/\RB Hb us (x.2.map Prod.snd)/\H=He++Hb
theorem aLH{p t:Nat}(h:Gm.Ok p t)(v:Value)(vs:LV)(logs:LL){Ht:Hp}(hR:RB Ht vs logs)(hn:logs.length=1+t)(hb:∀ b∈logs,b.length=256):Tri prog 207 [kM p t,v] Ht (fun w=>Rd (Ht.map Prod.fst) w 1 v vs) (fun r H=>∃ Hn,aNe (nN p t logs) r Hn/\H=Hn++Ht):=by
 refine Tri.mt func207 ntmps207 fun w hw=>?_;have ht:=h.2.2.2;have hck:=qC h;have hw0:=hw;obtain⟨a,la,ca,rfl,hl1,hc1,hr1⟩:=hw.get;rw [Nat.mul_one,hR.1] at hl1;subst hl1;have hY:One (Value.slice a logs.length ca):=⟨rfl⟩;have hcf:=aMa aME (.slice a logs.length ca) vs logs hR oQ hb;obtain⟨bb,o,l,T,fz,rfl,hbh,hkK,hy⟩:=hr1 oQ;have hat:∀ k,k<logs.length->∃ u,l[o+k]?=some u/\RdH Ht u (logs.getD k []):=fun k hk=>by
  obtain⟨u,hu1,hu2⟩:=hR.2 k _ (aA hk);refine⟨u,?_,by rw [aE,aA hk];exact hu2⟩;have h2:((l.drop o).take (logs.length*1))[k]?=vs[k]?:=by rw [hy]
  rw [bD,if_pos oQ,bH,hu1] at h2;exact h2
 have h256:∀ k,k<logs.length->(logs.getD k []).length=256:=fun k hk=>by rw [aE,aA hk];exact hb _ (dG hk)
 obtain⟨u0,hu0,hr0⟩:=hat 0 oQ;have hx256:=h256 0 oQ;have hpar:nN p t logs=if jR (((logs.getD 0 []).drop 16).take 2)<=t/\iY p t (jC (logs.getD 0 []) logs (jR (((logs.getD 0 []).drop 16).take 2)))=true/\lO (zA (((logs.getD 0 []).drop 8).take 8)) (jC (logs.getD 0 []) logs (jR (((logs.getD 0 []).drop 16).take 2)))=logs.getD 0 [] then some (zA (((logs.getD 0 []).drop 8).take 8),jC (logs.getD 0 []) logs (jR (((logs.getD 0 []).drop 16).take 2))) else none:=rfl
 rw [hpar];clear hpar;generalize hX:logs.getD 0 []=x at *;have h0o:=hr0.one;have hof:=aPu u0 x oQ;refine W.k fun _ b_=>?_;refine W.cw hck ?_;refine aF hcf ?_ (hpre:=fun w2 hs=>hw0.ro (Hc:=Ht) hs);rintro _ Ht ⟨rfl,rfl⟩;refine W.k ?_;refine aF hof ?_ (hpre:=fun w2 hs=>hr0.rd (Hc:=[]) hs);rintro _ H1 ⟨q,rfl,hQ⟩;have hby:=aLC hQ 8 oQ oQ;refine W.k ?_;refine aF hby ?_;rintro _ _ ⟨H2,H2t,hQ2,hS2,rfl⟩;have hs21:=hS2.isOne;have hn1:=aHx hQ2 8 dQ dQ (by rw [bG];omega) (by rw [bG];omega);refine W.k ?_;refine dN H2 rfl rfl rfl rfl rfl rfl hn1 (fun _ _=>trivial) ?_;rintro _ H3 ⟨rfl,hQ3⟩;rw [cG] at hQ3;have hu:Value.int .u64 ((jR ((x.drop 8).take 8):Nat):Int)=dZ (zA ((x.drop 8).take 8)):=by unfold dZ;rw [aAh]
 rw [hu];clear hu;generalize zA ((x.drop 8).take 8)=c at *;have hb39:bV (fun i=>[(0,1),(1,1)][i]?) [.int .u64 0,.slice none 0 0] [(0,dZ c)]=some [dZ c,.slice none 0 0]:=rfl;have hn2:=aHx hQ3 2 dQ dQ (by rw [bG];omega) (by rw [bG];omega);refine W.k fun b_=>?_;refine dN H3 rfl rfl rfl rfl rfl rfl hn2 (fun _ _=>trivial) ?_;rintro _ H4 ⟨rfl,hQ4⟩;rw [cG] at hQ4;have hnl:jR ((x.drop (8+8)).take 2)<65536:=aEr (by rw [aH];omega);rw [show 8+8=16 from rfl] at hnl |-;generalize jR ((x.drop 16).take 2)=n at *;haveI:Cv .i64 (n:Int) (n:Int):=⟨w64 oQ⟩;refine W.j ?_;generalize b_=b9 at *;have hmn:min n t<=24:=oQ;refine bP [1,2,4,9,10] ((b9,cl [dZ c,.slice none 0 0] 154)::H4) (fun _:Value×LV×Hp×Hp=>[]) (fun y=>(b9,cl [dZ c,y.1] 154)::(y.2.2.1++y.2.2.2))
  (fun y=>Sl 112 2 y.1 (eH y.2.1 (jC x logs (min n t))) y.2.2.1/\RB y.2.2.2 y.2.1 ((jC x logs (min n t)).map Prod.snd)) ?_ ?_
 ·refine W.k ?_;refine bE [1,2,4,8,9,10] (fun y:Nat×Hp×Value×LV×Hp×Hp=>[(11,.int .i64 (y.1:Int))]) (fun y=>(b9,cl [dZ c,y.2.2.1] 154)::(y.2.1++(y.2.2.2.2.1++y.2.2.2.2.2))) (fun y=>min n t-y.1)
   (fun y=>(y.1<=min n t/\aFc q (x.drop (18+2*y.1)) y.2.1)/\Sl 112 2 y.2.2.1 (eH y.2.2.2.1 (jC x logs y.1)) y.2.2.2.2.1/\RB y.2.2.2.2.2 y.2.2.2.1 ((jC x logs y.1).map Prod.snd)) (0,H4,.slice none 0 0,[],[],[]) ⟨⟨Nat.zero_le _,hQ4⟩,Sl.nil _ _,RB.nil _⟩ ?_
  rintro⟨k,Hq,ev,us,He,Hb⟩ ⟨⟨hk,hQk⟩,hSe,hRb⟩;dsimp only at hk hQk hSe hRb |-;have hSe1:=hSe.isOne;have husl:us.length=(jC x logs k).length:=by rw [hRb.1,aC]
  by_cases hkn:k<n
  ·by_cases hkt:k<t
   ·obtain⟨u,hu,hru⟩:=hat (1+k) oQ;have hul:=h256 (1+k) oQ;have huo:=hru.one;have hnm:=aHx hQk 2 dQ dQ (by rw [bG];omega) (by rw [bG];omega);rw [cG,show 18+2*k+2=18+2*(k+1) by omega] at hnm;have hK:jR ((x.drop (18+2*k)).take 2)<65536:=aEr (by rw [aH];omega);have hes:=aCr x logs k;have hel:=tA x logs k;generalize jR ((x.drop (18+2*k)).take 2)=K at *;generalize logs.getD (1+k) []=d at *;haveI:Cv .i64 (K:Int) (K:Int):=⟨w64 oQ⟩;haveI:eB (1+(k:Int)) (1+k):=⟨oQ⟩;refine W.k ?_;(refine SW.l [13,15] [0,1,2,5,6,7,8,9] ?_;refine aX 3 ?_);refine dN Hq rfl rfl rfl rfl rfl rfl hnm (fun _ _=>trivial) ?_;rintro _ Hq2 ⟨rfl,hQ5⟩;(refine SL.l [4] ?_;refine aX 10 ?_);refine aF (wY u d oQ) ?_ (hpre:=fun w2 hs=>hru.rd (Hc:=[]) hs);intro v3 H5 h5;have h51:=h5.isOne;obtain⟨a3,l3,c3,rfl,-⟩:=h5.form;have hb65:bV (fun i=>[(0,1),(1,1)][i]?) [.int .i64 0,.slice none 0 0] [(0,.int .i64 (K:Int)),(1,.slice a3 l3 c3)]=some [.int .i64 (K:Int),.slice a3 l3 c3]:=rfl;have hb66:bV (fun i=>some (i*2,2)) (zs [.int .i64 0,.slice none 0 0] 1) [(0,.agg [(.int .i64 (K:Int):Value),.slice a3 l3 c3].toArray)]=some [.int .i64 (K:Int),.slice a3 l3 c3]:=rfl;(refine SL.l [11] ?_;refine aX 12 ?_);refine iQ (fun b6=>?_) (hr:=hb66);(refine bB [] ?_;refine bL 13 ?_);refine W.ap hSe (ys:=[.int .i64 (K:Int),.slice a3 l3 c3]) (mm:=1) (fun w2 hs=>(Sl.own 112 2 b6 (xs:=[.int .i64 (K:Int),.slice a3 l3 c3]) rfl).srcAt hs inferInstance) (fun v7 H7 h7=>?_) (hys:=rfl) (hbytes:=by rw [fL _ _ husl,hel];simp;omega);have h71:=h7.isOne;rw [<-kL husl (.slice a3 l3 c3) ((K:Int),d),<-hes] at h7;(refine SL.l [14] ?_;refine bL 15 ?_;refine W.i ?_;refine SS.dn ?_);refine W.k ?_;rw [show ([dZ c,ev]:LV).set 1 v7=[dZ c,v7] from rfl];refine aN.mk (k+1,Hq2,v7,us++[.slice a3 l3 c3],H7,H5++Hb) ?_;refine⟨⟨by dsimp only;omega,hQ5⟩,h7,?_⟩;dsimp only;rw [hes,aZ];exact (hRb.mono fun x hx=>aM _ hx).snoc ((RdH.of h5).mono fun x hx=>aO _ hx)
   have hkm:k=min n t:=oQ;rw [hkm] at hSe hRb;refine W.k ?_;refine bS.mk (ev,us,He,Hb) ?_;exact⟨hSe,hRb⟩
  have hkm:k=min n t:=oQ;rw [hkm] at hSe hRb;refine W.k ?_;refine bS.mk (ev,us,He,Hb) ?_;exact⟨hSe,hRb⟩
 rintro⟨ev,us,He,Hb⟩ ⟨hSe,hRb⟩;dsimp only at hSe hRb |-;have hSe1:=hSe.isOne;have hel:=tA x logs (min n t);have husl:us.length=(jC x logs (min n t)).length:=by rw [hRb.1,aC]
 have hLE:=hRb.le;obtain⟨ea,el,ec,rfl,hell⟩:=hSe.form;rw [fL _ _ husl,hel] at hell;obtain rfl:el=min n t:=by omega
 have hnone:aNe none (.tuple #[.agg #[.int .u64 0,.slice none 0 0],.int .i64 4]) []:=⟨rfl,rfl⟩;have hl2:([dZ c,.slice ea (min n t) ec]:LV).length=2:=rfl;by_cases hnt:n<=t
 ·rw [show min n t=n by omega] at *;have hmy:=aG6 h c (.slice ea n ec) us _ hLE (by rw [hel];omega);have hhd:=aKo c (.slice ea n ec) us _ hLE (by rw [hel];omega);have hhl:=xE c (jC x logs n);by_cases hm:iY p t (jC x logs n)=true
  ·rw [hm] at hmy;by_cases he:lO c (jC x logs n)=x
   ·rw [if_pos ⟨hnt,hm,he⟩];refine W.k ?_;(refine SW.l [] [0,1,2,3,4,5,6,7] ?_;(first|refine cY 8 rfl ?_;refine SG.l [9,10,11,12,14,15,16] ?_;(first|refine cY 13 rfl ?_;(first|refine cY 17 rfl ?_;refine SG.l [18,19,20] ?_|refine aX 17 ?_)|refine aX 13 ?_)|refine aX 8 ?_));refine W.cq hmy ?_ (hpre:=fun w2 hs=>Rd.own (Hc:=[]) hSe hs inferInstance);(refine SL.l [9,10,11,12,14,15,16] ?_;(first|refine cY 13 rfl ?_;(first|refine cY 17 rfl ?_;refine SG.l [18,19,20] ?_|refine aX 17 ?_)|refine aX 13 ?_));refine aF hhd ?_ (hpre:=fun w2 hs=>Rd.own (Hc:=[]) hSe hs inferInstance);rintro _ _ ⟨b8,rfl,rfl⟩;(refine bB [] ?_;(first|refine cY 17 rfl ?_;refine SG.l [18,19,20] ?_|refine aX 17 ?_));refine W.cq (zN _ _ (lO c (jC x logs n)) x) ?_ (hpre:=fun w2 hs=>⟨Rd.my (Hc:=[]) (T:=5) b8 _ hs hhl,hr0.rd (Hc:=[]) hs⟩);rw [decide_eq_true he];(refine SL.l [18,19,20] ?_);refine W.k ?_;refine pT ((He++Hb)++Ht) [dZ c,.slice ea n ec] ?_;exact⟨He++Hb,⟨_,us,He,Hb,rfl,hSe,hRb,rfl⟩,rfl⟩
   rw [if_neg (fun hc=>he hc.2.2)];refine W.k ?_;(refine SW.l [] [0,1,2,3,4,5,6,7] ?_;(first|refine cY 8 rfl ?_;refine SG.l [9,10,11,12,14,15,16] ?_;(first|refine cY 13 rfl ?_;(first|refine cY 17 rfl ?_;refine SG.l [18,19,20] ?_|refine aX 17 ?_)|refine aX 13 ?_)|refine aX 8 ?_));refine W.cq hmy ?_ (hpre:=fun w2 hs=>Rd.own (Hc:=[]) hSe hs inferInstance);(refine SL.l [9,10,11,12,14,15,16] ?_;(first|refine cY 13 rfl ?_;(first|refine cY 17 rfl ?_;refine SG.l [18,19,20] ?_|refine aX 17 ?_)|refine aX 13 ?_));refine aF hhd ?_ (hpre:=fun w2 hs=>Rd.own (Hc:=[]) hSe hs inferInstance);rintro _ _ ⟨b8,rfl,rfl⟩;(refine bB [] ?_;(first|refine cY 17 rfl ?_;refine SG.l [18,19,20] ?_|refine aX 17 ?_));refine W.cq (zN _ _ (lO c (jC x logs n)) x) ?_ (hpre:=fun w2 hs=>⟨Rd.my (Hc:=[]) (T:=5) b8 _ hs hhl,hr0.rd (Hc:=[]) hs⟩);rw [decide_eq_false he];(refine SL.l [18,19,20] ?_);refine W.k ?_;refine pT Ht [.int .u64 0,.slice none 0 0] ?_;exact⟨[],hnone,rfl⟩
  rw [if_neg (fun hc=>hm hc.2.1)];rw [show iY p t (jC x logs n)=false by simpa using hm] at hmy;refine W.k ?_;(refine SW.l [] [0,1,2,3,4,5,6,7] ?_;(first|refine cY 8 rfl ?_;refine SG.l [9,10,11,12,14,15,16] ?_;(first|refine cY 13 rfl ?_;(first|refine cY 17 rfl ?_;refine SG.l [18,19,20] ?_|refine aX 17 ?_)|refine aX 13 ?_)|refine aX 8 ?_));refine W.cq hmy ?_ (hpre:=fun w2 hs=>Rd.own (Hc:=[]) hSe hs inferInstance);(refine SL.l [9,10,11,12,14,15,16] ?_;(first|refine cY 13 rfl ?_;(first|refine cY 17 rfl ?_;refine SG.l [18,19,20] ?_|refine aX 17 ?_)|refine aX 13 ?_));refine W.k ?_;refine pT Ht [.int .u64 0,.slice none 0 0] ?_;exact⟨[],hnone,rfl⟩
 rw [if_neg (fun hc=>hnt hc.1)];refine W.k ?_;(refine SW.l [] [0,1,2,3,4,5,6,7] ?_;(first|refine cY 8 rfl ?_;refine SG.l [9,10,11,12,14,15,16] ?_;(first|refine cY 13 rfl ?_;(first|refine cY 17 rfl ?_;refine SG.l [18,19,20] ?_|refine aX 17 ?_)|refine aX 13 ?_)|refine aX 8 ?_));refine W.k ?_;refine pT Ht [.int .u64 0,.slice none 0 0] ?_;exact⟨[],hnone,rfl⟩
end
section
open Go.ChangeShapes Go.WideShapes Go.ChangeAt Go.RowKit
def aDp(w:World)(v:Value)(us:LV)(l:List Ent):Prop:=Rd [] w 2 v (eH us l)/\us.length=l.length/\∀ (i:Nat) (x:Ent),l[i]?=some x->∃ u,us[i]?=some u/\Rd [] w 1 u (cbs x.2)
structure lU where
 kind:Int
 lv:Value
 full:Bool
 k:Int
 n:Int
 at':Int
 bv:Value
 wr:Bool
 pv:Value
abbrev lU.c(o:lU):LV:=[.int .i64 o.kind,o.lv,.bool o.full,.int .i64 o.k,.int .i64 o.n,.int .i64 o.at',o.bv,.bool o.wr,o.pv]
structure aJA(w:World)(o:lU):Prop where
 l:∃ us l,aDp w o.lv us l/\l.length<=maxLen/\∀ x∈l,IntKind.i64.min<=x.1/\x.1<=IntKind.i64.max
 b:∃ b,Rd [] w 1 o.bv (cbs b)
 p:∃ p,Rd [] w 1 o.pv (cbs p)
 i:IntKind.i64.min<=o.at'/\o.at'<=IntKind.i64.max
structure yB(w:World)(a:Option Addr)(len cap:Nat)(ys:LV):Prop where
 rd:Rd [] w 9 (.slice a len cap) ys
 each:∀ i,i<len->∃ o:lU,aJA w o/\(ys.drop (i*9)).take 9=o.c
theorem aGp{w:World}:∀ (len:Nat) (ys:LV),ys.length=len*2->(∀ i,i<len->∃ (k:Int) (dv:Value) (d:LB),Rd [] w 1 dv (cbs d)/\(IntKind.i64.min<=k/\k<=IntKind.i64.max)/\(ys.drop (i*2)).take 2=[.int .i64 k,dv]) ->
  ∃ us l,ys=eH us l/\us.length=len/\l.length=len/\(∀ (i:Nat) (x:Ent),l[i]?=some x->∃ u,us[i]?=some u/\Rd [] w 1 u (cbs x.2))/\∀ x∈l,IntKind.i64.min<=x.1/\x.1<=IntKind.i64.max
 | 0,ys,hl,_=>⟨[],[],bI oQ,rfl,rfl,by simp,by simp⟩
 | len+1,ys,hl,h=>by
  obtain⟨k,dv,d,h1,h2,h3⟩:=h 0 oQ;obtain⟨us,l,e,e1,e2,e3,e4⟩:=aGp len (ys.drop 2) (by rw [bG];omega) fun i hi=>by obtain⟨k,dv,d,h1,h2,h3⟩:=h (i+1) oQ;refine⟨k,dv,d,h1,h2,?_⟩;rw [cG,show 2+i*2=(i+1)*2 by omega];exact h3
  rw [jM,bQ] at h3;refine⟨dv::us,(k,d)::l,?_,by simp [e1],by simp [e2],fun i x hx=>?_,fun x hx=>?_⟩
  ·rw [<-dF 2 ys,h3,e];rfl
  ·cases i with
   | zero=>simp only [jF,cR] at hx |-;subst hx;exact⟨dv,rfl,h1⟩
   | succ i=>simp only [List.getElem?_cons_succ] at hx |-;exact e3 i x hx
  rcases cD.1 hx with rfl|hx
  ·exact h2
  exact e4 x hx
section
variable {H:Type}{enc:TypeId×Value->H}{w:World}{sp:Nat->Bool}{hd:Bool}
set_option maxRecDepth 100000 in
theorem aLv{fuel:Nat}{cs:LV}{x:DataW H×List MemPlace}(h:DataW.trod enc prog w 0 sp hd fuel 166 cs=some x):∃ (k:Int) (dv:Value) (d:LB),Rd [] w 1 dv (cbs d)/\(IntKind.i64.min<=k/\k<=IntKind.i64.max)/\cs=[.int .i64 k,dv]:=by
 obtain⟨xs,m,-,-,hl,hxl,hx⟩:=DataW.trod_struct underlying166 h;have c0:prog.cellsOf 3=1:=kQ;have c1:prog.cellsOf 31=1:=kQ;have c2:prog.cellsOf 5=1:=kQ;have c4:prog.cellsOf 166=2:=kQ;rw [c4] at hl;have hn:xs.length=2:=hxl;have h0:DataW.trod enc prog w 0 sp hd m 3 ((cs.drop 0).take (prog.cellsOf 3))=xs[0]?:=hx 0 _ rfl;have h1:DataW.trod enc prog w 0 sp hd m 31 ((cs.drop 1).take (prog.cellsOf 31))=xs[1]?:=hx 1 _ rfl;rw [c0] at h0;rw [c1] at h1;rw [aA oQ] at h0 h1;obtain⟨n0,e0,a0,b0⟩:=pL underlying3 h0;obtain⟨v1,s1,e1,r1⟩:=aE3 underlying31 c2 underlying5 h1;refine⟨n0,v1,s1,r1,⟨a0,b0⟩,?_⟩;match cs,hl with
 | [x0,x1],_=>
  simp at e0 e1
  subst e0 e1
  rfl
set_option maxRecDepth 100000 in
theorem aLu{fuel:Nat}{cs:LV}{x:DataW H×List MemPlace}(h:DataW.trod enc prog w 0 sp hd fuel 33 cs=some x):∃ o:lU,aJA w o/\cs=o.c:=by
 obtain⟨xs,m,-,-,hl,hxl,hx⟩:=DataW.trod_struct underlying33 h;have c0:prog.cellsOf 3=1:=kQ;have c1:prog.cellsOf 31=1:=kQ;have c2:prog.cellsOf 5=1:=kQ;have c3:prog.cellsOf 4=1:=kQ;have c5:prog.cellsOf 30=1:=kQ;have c6:prog.cellsOf 166=2:=kQ;have c4:prog.cellsOf 33=9:=kQ;rw [c4] at hl;have hn:xs.length=9:=hxl;have h0:DataW.trod enc prog w 0 sp hd m 3 ((cs.drop 0).take (prog.cellsOf 3))=xs[0]?:=hx 0 _ rfl;have h1:DataW.trod enc prog w 0 sp hd m 30 ((cs.drop 1).take (prog.cellsOf 30))=xs[1]?:=hx 1 _ rfl;have h2:DataW.trod enc prog w 0 sp hd m 4 ((cs.drop 2).take (prog.cellsOf 4))=xs[2]?:=hx 2 _ rfl;have h3:DataW.trod enc prog w 0 sp hd m 3 ((cs.drop 3).take (prog.cellsOf 3))=xs[3]?:=hx 3 _ rfl;have h4:DataW.trod enc prog w 0 sp hd m 3 ((cs.drop 4).take (prog.cellsOf 3))=xs[4]?:=hx 4 _ rfl;have h5:DataW.trod enc prog w 0 sp hd m 3 ((cs.drop 5).take (prog.cellsOf 3))=xs[5]?:=hx 5 _ rfl;have h6:DataW.trod enc prog w 0 sp hd m 31 ((cs.drop 6).take (prog.cellsOf 31))=xs[6]?:=hx 6 _ rfl;have h7:DataW.trod enc prog w 0 sp hd m 4 ((cs.drop 7).take (prog.cellsOf 4))=xs[7]?:=hx 7 _ rfl;have h8:DataW.trod enc prog w 0 sp hd m 31 ((cs.drop 8).take (prog.cellsOf 31))=xs[8]?:=hx 8 _ rfl;rw [c0] at h0 h3 h4 h5;rw [c1] at h6 h8;rw [c3] at h2 h7;rw [c5] at h1;rw [aA oQ] at h0 h1 h2 h3 h4 h5 h6 h7 h8;obtain⟨n0,e0,-,-⟩:=pL underlying3 h0;obtain⟨a1,len1,cap1,ys1,e1,q1,q2,hrd1,hyl1,hG1⟩:=aGd (G:=fun cs=>∃ (k:Int) (dv:Value) (d:LB),Rd [] w 1 dv (cbs d)/\(IntKind.i64.min<=k/\k<=IntKind.i64.max)/\cs=[.int .i64 k,dv]) underlying30 c6 dQ h1 (fun fuel cells z h=>aLv h);obtain⟨us,l,rfl,u1,u2,u3,u4⟩:=aGp len1 ys1 hyl1 hG1;obtain⟨f2,e2,-⟩:=DataW.trod_bool underlying4 h2;obtain⟨n3,e3,-,-⟩:=pL underlying3 h3;obtain⟨n4,e4,-,-⟩:=pL underlying3 h4;obtain⟨n5,e5,a5,b5⟩:=pL underlying3 h5;obtain⟨v6,s6,e6,r6⟩:=aE3 underlying31 c2 underlying5 h6;obtain⟨f7,e7,-⟩:=DataW.trod_bool underlying4 h7;obtain⟨v8,s8,e8,r8⟩:=aE3 underlying31 c2 underlying5 h8;refine⟨⟨n0,.slice a1 len1 cap1,f2,n3,n4,n5,v6,f7,v8⟩,⟨⟨us,l,⟨hrd1,oQ,u3⟩,oQ,u4⟩,⟨s6,r6⟩,⟨s8,r8⟩,⟨a5,b5⟩⟩,?_⟩;match cs,hl with
 | [x0,x1,x2,x3,x4,x5,x6,x7,x8],_=>
  simp at e0 e1 e2 e3 e4 e5 e6 e7 e8
  subst e0 e1 e2 e3 e4 e5 e6 e7 e8
  rfl
set_option maxRecDepth 100000 in
theorem wL{b:Nat}{r:Reach}{v:Value}{d:DataW H}{ps:List MemPlace}(hval:Value.okWide prog w r b 24 v)(hd':DataW.Trod enc prog w 0 sp hd 24 v d ps):∃ (a:Option Addr) (len cap:Nat) (ys:LV),v=.slice a len cap/\len<=maxLen/\yB w a len cap ys:=by obtain⟨a,len,cap,ys,rfl,hlc,hcm,hrd,hyl,hops⟩:=aMv (n:=9) (G:=fun cs=>∃ o:lU,aJA w o/\cs=o.c) underlying24 kQ dQ hval hd' (fun fuel cells z h=>aLu h);exact⟨a,len,cap,ys,rfl,cZ hlc hcm,hrd,hops⟩
end
end
end Go.Proofs.YtdfclocfackkmaaGreat
