/- The log: may one be, its blocks. -/
import Derived.Test.YtmceanmblcadcaaGreatPn24
import Derived.Test.YtmceanmblcadcaaGreatPn10
import Derived.Test.YtmceanmblcadcaaGreatPn13
import Derived.Test.YtmceanmblcadcaaGreatPn22
import Derived.Test.YtmceanmblcadcaaGreatPn21
set_option linter.unusedVariables false
set_option linter.unusedSimpArgs false
set_option linter.unusedSectionVars false
set_option maxHeartbeats 2000000
namespace Go.Proofs.YtmceanmblcadcaaGreat
open Go Go.Proofs.Tryz
section
attribute [local irreducible] SW SL SQ SH SA SS Pu Fin bU aP
structure aIQ(P:Program)(f:FuncId):Prop where
 fn:aZ P f
 t:∀ u bs,Tri P f [u] [] (fun w=>Rd [] w 1 u (cbs bs)) (fun r H=>r=.bool (decide (bs.length≠256))∧H=[])
theorem aJw{f:FuncId}(hf:aIQ prog f){Ht:Hp}(v:Value)(vs:List Value)(bss:List (List UInt8))(hB:RB Ht vs bss)(hn:bss.length≤1000000):Tri prog 303 [v,.func (.func f) #[] #[]] Ht (fun w=>Rd (Ht.map Prod.fst) w 1 v vs)
  (fun r H=>∃ z:Int,r=.int .i64 z∧H=Ht∧(0≤z↔∃ b∈bss,b.length≠256)):=by
 haveI:=hf.fn
 refine Tri.mk func303 rfl ntmps303 rfl fun w hw=>?_
 obtain⟨a,la,ca,rfl,hl1,hc1,hr1⟩:=hw.get
 rw [Nat.mul_one,hB.1] at hl1
 subst hl1
 refine W.k ?_
 refine bH [0,1,7] (fun k:Nat=>[(8,.int .i64 (k:Int))]) (fun _=>Ht) (fun k=>bss.length-k) (fun k=>k≤bss.length∧∀ i b,i<k→bss[i]?=some b→b.length=256) 0 ⟨Nat.zero_le _,fun i b h=>by omega⟩ ?_
 rintro k ⟨hk,hk2⟩
 by_cases h:k<bss.length
 ·obtain⟨bb,o,l,T,fz,rfl,hb,hkK,hy⟩:=hr1 oQ
  obtain⟨u,hu1,hu2⟩:=hB.2 k _ (aA h)
  have hlu:l[o+k]?=some u:=by
   have h2:((l.drop o).take (bss.length*1))[k]?=vs[k]?:=by rw [hy]
   rw [bB,if_pos oQ,bA,hu1] at h2
   exact h2
  have hbl:=aA h
  generalize bss[k]=bs at *
  have huo:=hu2.one
  have h1:=hf.t u bs
  refine W.k ?_
  refine dN [] rfl rfl rfl rfl rfl rfl h1 (fun w2 hs=>hu2.rd (Hc:=[]) hs) ?_
  rintro _ _ ⟨rfl,rfl⟩
  by_cases h256:bs.length=256
  ·rw [decide_eq_false (by simp [h256])]
   refine W.k ?_
   refine aP.mk (k+1) ?_
   refine⟨h,fun i b hi hib=>?_⟩
   by_cases hik:i=k
   ·subst hik;rw [hbl] at hib;cases hib;exact h256
   ·exact hk2 i b oQ hib
  ·rw [decide_eq_true h256]
   refine W.k ?_
   refine Fin.to Ht ?_
   exact F.f1 ⟨(k:Int),rfl,rfl,⟨fun _=>⟨bs,aQ hbl,h256⟩,fun _=>by omega⟩⟩
 ·have hkn:k=bss.length:=oQ
  subst hkn
  refine W.k ?_
  refine Fin.to Ht ?_
  refine F.f1 ⟨-1,rfl,rfl,⟨fun h=>by omega,fun⟨b,hb,hne⟩=>?_⟩⟩
  obtain⟨i,hi⟩:=dI.1 hb
  exact absurd (hk2 i b (aD.1 hi).1 hi) hne
theorem aHH{f:FuncId}(hf:aIQ prog f){Ht:Hp}(v:Value)(vs:List Value)(bss:List (List UInt8))(hB:RB Ht vs bss)(hn:bss.length≤1000000)(h256:∀ b∈bss,b.length=256):Tri prog 290 [v,.func (.func f) #[] #[]] Ht (fun w=>Rd (Ht.map Prod.fst) w 1 v vs)
  (fun r H=>r=.bool false∧H=Ht):=by
 haveI:=hf.fn
 refine Tri.mk func290 rfl ntmps290 rfl fun w hw=>?_
 have hv:=hw.isOne
 obtain⟨a,la,ca,rfl,-⟩:=hw.get
 refine W.k ?_
 refine aH (aJw hf _ vs bss hB hn) ?_ (hpre:=fun w2 hs=>hw.ro (Hc:=Ht) hs)
 rintro _ Ht ⟨z,rfl,rfl,hz⟩
 have hz2:z<0:=by
  rcases vL z 0 with h|h
  ·exact h
  ·obtain⟨b,hb,hne⟩:=hz.1 h
   exact absurd (h256 b hb) hne
 refine W.k ?_
 refine Fin.to Ht ?_
 exact F.f1 ⟨rfl,rfl⟩
theorem aH4:aIQ prog 297:=⟨inferInstance,fun u bs=>by
 refine Tri.mk func297 rfl ntmps297 rfl fun w hw=>?_
 obtain⟨a,la,ca,rfl,hl1,hc1,hr1⟩:=hw.get
 rw [aF,Nat.mul_one] at hl1
 subst hl1
 by_cases h:bs.length=256
 ·rw [decide_eq_false (by simp [h])]
  refine W.k ?_
  exact F.n
 ·rw [decide_eq_true h]
  refine W.k ?_
  refine Fin.to [] ?_
  exact F.f1 ⟨rfl,rfl⟩⟩
def jO(us:List Value)(l:List Ent):List Value:=(List.zipWith (fun u x=>[.int .i64 x.1,u]) us l).flatten
def LE(us:List Value)(l:List Ent):Prop:=us.length=l.length∧∀ (i:Nat) (x:Ent),l[i]?=some x→∃ a cap,us[i]?=some (.slice a x.2.length cap)
theorem RB.le{Ht:Hp}{us:List Value}{l:List Ent}(h:RB Ht us (l.map Prod.snd)):LE us l:=⟨by rw [h.1,aJ],fun i x hx=>by
 obtain⟨v,h1,h2⟩:=h.2 i x.2 (by rw [aL,hx];rfl)
 obtain⟨a,len,cap,rfl,e⟩:=(show RdH Ht v x.2 from h2)
 exact⟨a,cap,by rw [h1,e.1]⟩⟩
theorem pE(us:List Value)(l:List Ent):∀ y∈List.zipWith (fun u x=>[Value.int .i64 x.1,u]) us (l:List Ent),y.length=2:=fun y hy=>by
 obtain⟨i,hi⟩:=dI.1 hy
 rw [fP] at hi
 split at hi
 ·cases hi;rfl
 ·cases hi
theorem lH(us:List Value)(l:List Ent)(h:us.length=l.length):(jO us l).length=l.length*2:=by
 unfold jO
 rw [eI (n:=2) (pE us l),iE,h,jV]
theorem zV{us:List Value}{l:List Ent}(h:us.length=l.length)(u:Value)(x:Ent):jO (us++[u]) (l++[x])=jO us l++[.int .i64 x.1,u]:=by
 unfold jO
 rw [List.zipWith_append h]
 simp
theorem aCu{us:List Value}{l:List Ent}{i:Nat}{x:Ent}{u:Value}(hu:us[i]?=some u)(hx:l[i]?=some x):(((jO us l).drop (i*2)).take 2)=[.int .i64 x.1,u]:=by
 unfold jO
 have h1:(List.zipWith (fun u x=>[Value.int .i64 x.1,u]) us (l:List Ent))[i]?=some [.int .i64 x.1,u]:=by
  rw [fP,hu,hx]
 exact qG (pE us l) h1
theorem tU(p:Nat)(last:Int)(x:Ent)(l:List Ent):vC p last (x::l)=(decide (last<x.1∧x.1<(Gm.sealed p:Nat)∧x.2.length=256)&&vC p x.1 l):=rfl
theorem LE.at{us:List Value}{l:List Ent}(h:LE us l){k:Nat}{x:Ent}(hx:l[k]?=some x):∃ a cap,(List.zipWith (fun u (x:Ent)=>[Value.int .i64 x.1,u]) us l)[k]?=some [.int .i64 x.1,.slice a x.2.length cap]:=by
 obtain⟨a,cap,hu⟩:=h.2 k x hx
 exact⟨a,cap,by rw [fP,hu,hx]⟩
theorem oU{p:Nat}:∀ {l:List Ent} {last:Int},vC p last l=true→∀ (k:Nat) (x:Ent),l[k]?=some x→last<x.1∧x.1<(Gm.sealed p:Nat)∧x.2.length=256
 | [],_,_,k,x,h=>by simp at h
 | y::l,last,hm,k,x,h=>by
  rw [tU,bY,decide_eq_true_iff] at hm
  cases k with
  | zero=>cases h;exact hm.1
  | succ k=>
   have:=oU hm.2 k x h
   exact⟨by omega,this.2⟩
theorem aGi{p t:Nat}{l:List Ent}(hm:oD p t l=true)(k:Nat)(x:Ent)(h:l[k]?=some x):x.2.length=256:=by
 unfold oD at hm
 rw [bY] at hm
 exact (oU hm.2 k x h).2.2
theorem aJy{p t:Nat}(h:Gm.Ok p t)(c:UInt64)(v:Value)(us:List Value)(l:List Ent)(hL:LE us l)(hn:l.length≤1000000) :
  Tri prog 109 [jQ p t,.agg #[dX c,v]] [] (fun w=>Rd [] w 2 v (jO us l)) (fun r H=>r=.bool (oD p t l)∧H=[]):=by
 refine Tri.mk func109 rfl ntmps109 rfl fun w hw=>?_
 have hck:=nF h
 have hsa:=sX h
 unfold jO at hw
 obtain⟨a,ca,rfl,hcap,hg⟩:=hw.rows dQ (pE us l)
 have hzl:(List.zipWith (fun u (x:Ent)=>[Value.int .i64 x.1,u]) us l).length=l.length:=by rw [iE,hL.1,jV]
 rw [hzl] at hcap ⊢
 have hY:One (Value.slice a l.length ca):=⟨rfl⟩
 unfold oD
 by_cases h1:l.length<1
 ·rw [decide_eq_false oQ,eZ]
  refine W.k fun _ b_=>?_
  refine W.cw hck ?_
  exact F.n
 by_cases h2:t<l.length
 ·rw [decide_eq_false oQ,eZ]
  refine W.k fun _ b_=>?_
  refine W.cw hck ?_
  exact F.n
 rw [decide_eq_true oQ,kA]
 refine W.k fun _ b_=>?_
 refine W.cq hck ?_
 refine W.j ?_
 refine bZ [] [] (fun _:Unit=>[]) (fun _=>[]) (fun _=>vC p (-1) l=true) ?_ ?_
 ·refine W.k ?_
  refine bH [2,26,27] (fun x:Nat×Int=>[(5,.int .i64 x.2),(28,.int .i64 (x.1:Int))]) (fun _=>[]) (fun x=>l.length-x.1) (fun x=>(x.1≤l.length ∧ -1≤x.2)∧vC p (-1) l=vC p x.2 (l.drop x.1)) (0,-1) ⟨⟨Nat.zero_le _,Int.le_refl _⟩,rfl⟩ ?_
  rintro⟨k,last⟩ ⟨⟨hk,hla⟩,hm⟩
  dsimp only at hk hla hm ⊢
  by_cases hkn:k<l.length
  ·have hx:=aA hkn
   rw [bS hkn,tU] at hm
   obtain⟨a2,cap2,hz⟩:=hL.at hx
   obtain⟨pb,po,lv,T,fz,rfl,hb,hkK,hv⟩:=hg k _ hz
   generalize l[k]=x at *
   have hsx:=hsa x.1
   unfold Gm.atK at hsx
   by_cases c1:x.1≤last
   ·rw [decide_eq_false oQ,eZ] at hm
    rw [hm]
    refine W.k fun b_=>?_
    exact F.n
   by_cases c2:x.1<(Gm.sealed p:Nat)
   ·rw [if_pos oQ] at hsx
    by_cases c3:x.2.length=256
    ·rw [decide_eq_true oQ,kA] at hm
     refine W.k fun b_=>?_
     refine W.cw hsx ?_
     refine aP.mk (k+1,x.1) ?_
     exact⟨⟨hkn,by omega⟩,hm⟩
    ·rw [decide_eq_false oQ,eZ] at hm
     rw [hm]
     refine W.k fun b_=>?_
     refine W.cw hsx ?_
     exact F.n
   ·rw [decide_eq_false oQ,eZ] at hm
    rw [if_neg oQ] at hsx
    rw [hm]
    refine W.k fun b_=>?_
    refine W.cw hsx ?_
    exact F.n
  ·have hkl:k=l.length:=oQ
   rw [hkl,pY] at hm
   subst hkl
   refine W.k ?_
   refine bU.mk () ?_
   exact hm
 rintro _ hm
 rw [hm]
 refine W.k ?_
 exact F.n
def nJ:List UInt8:=[82,69,68,79,45,76,79,71]
theorem bsR:bP (fun i=>some (i*1,1)) (zs [.int .u8 0] 8) [(0,.int .u8 82),(1,.int .u8 69),(2,.int .u8 68),(3,.int .u8 79),(4,.int .u8 45),(5,.int .u8 76),(6,.int .u8 79),(7,.int .u8 71)]=some (cbs nJ):=rfl
theorem bs3(a1 a2 a3:Option Addr)(l1 l2 l3 c1 c2 c3:Nat):bP (fun i=>some (i*1,1)) (zs [.slice none 0 0] 3) [(0,.slice a1 l1 c1),(1,.slice a2 l2 c2),(2,.slice a3 l3 c3)]=some [.slice a1 l1 c1,.slice a2 l2 c2,.slice a3 l3 c3]:=rfl
theorem aG1{K:List Nat}{vs:List Value}{a1 a2 a3:Option Addr}{l1 l2 l3 c1 c2 c3:Nat}{d1 d2 d3:List UInt8}{w:World}(hv:vs=[.slice a1 l1 c1,.slice a2 l2 c2,.slice a3 l3 c3])(h1:Rd K w 1 (.slice a1 l1 c1) (cbs d1))(h2:Rd K w 1 (.slice a2 l2 c2) (cbs d2))(h3:Rd K w 1 (.slice a3 l3 c3) (cbs d3)):∀ (i:Nat) (bs:List UInt8),[d1,d2,d3][i]?=some bs→∃ (a:Option Addr) (len cap:Nat),vs[i]?=some (Value.slice a len cap)∧Rd K w 1 (.slice a len cap) (cbs bs):=by
 subst hv
 intro i bs h
 match i,h with
 | 0,h=>cases h;exact⟨_,_,_,rfl,h1⟩
 | 1,h=>cases h;exact⟨_,_,_,rfl,h2⟩
 | 2,h=>cases h;exact⟨_,_,_,rfl,h3⟩
 | (n+3),h=>simp at h
def lV(c:UInt64)(n:Nat):List UInt8:=nJ++leN 8 c++leN 2 (UInt64.ofNat n)
def kK(l:List Ent):List UInt8:=l.flatMap fun x=>leN 2 (UInt64.ofInt x.1)
theorem xJ(l:List Ent):(kK l).length=2*l.length:=by
 unfold kK
 induction l with
 | nil=>rfl
 | cons x l ih=>rw [eQ,aB,ih,dD,aY];omega
theorem cvK(x:Int):Cv .u64 x ((UInt64.ofInt x).toNat:Int):=⟨by
 unfold UInt64.ofInt
 rw [lI,aV]
 omega⟩
theorem aJt(c:UInt64)(v:Value)(us:List Value)(l:List Ent)(hL:LE us l)(hn:l.length≤100) :
  Tri prog 156 [.agg #[dX c,v]] [] (fun w=>Rd [] w 2 v (jO us l)) (fun r H=>∃ b,r=.slice (some ⟨b,0,none⟩) 256 256∧H=[(b,cl (cbs (qJ c l)) 5)]):=by
 refine Tri.mk func156 rfl ntmps156 rfl fun w hw=>?_
 unfold jO at hw
 obtain⟨a,ca,rfl,hcap,hg⟩:=hw.rows dQ (pE us l)
 have hzl:(List.zipWith (fun u (x:Ent)=>[Value.int .i64 x.1,u]) us l).length=l.length:=by rw [iE,hL.1,jV]
 rw [hzl] at hcap ⊢
 have hY:One (Value.slice a l.length ca):=⟨rfl⟩
 have hp1:=uO 8 c oQ oQ
 have hp2:=uO 2 (UInt64.ofNat l.length) oQ oQ
 have hp3:=fun (x:Ent)=>uO 2 (UInt64.ofInt x.1) oQ oQ
 have hfl:[nJ,leN 8 c,leN 2 (UInt64.ofNat l.length)].flatten=lV c l.length:=by unfold lV;simp
 have hfn:(lV c l.length).length=18:=by simp [lV,dD,nJ]
 have hpd:=fun v=>aBk v (lV c l.length++kK l) 256 dQ dQ (by rw [aB,hfn,xJ];omega)
 rw [show pad 256 (lV c l.length++kK l)=qJ c l from rfl] at hpd
 refine W.k fun b_=>?_
 (refine SW.l [] [2,3,5,6,7,8] ?_;skip )
 repeat' (first
  | refine gT 0 4 ?_ ?_ rfl rfl (hok:=by decide +kernel)|refine gT 1 4 ?_ ?_ rfl rfl (hok:=by decide +kernel)|refine gT 0 9 ?_ ?_ rfl rfl (hok:=by decide +kernel)|refine gT 1 9 ?_ ?_ rfl rfl (hok:=by decide +kernel)
  | refine mW 0 ?_ rfl (by decide +kernel)|refine mW 1 ?_ rfl (by decide +kernel)|refine mW 4 ?_ rfl (by decide +kernel)|refine mW 9 ?_ rfl (by decide +kernel)
  | (refine iO (fun b1=>?_) (hr:=bsR);refine cW ?_)
  | (refine W.mk ?_;refine cW ?_)
  | (refine dL hp1 rfl ?_;rintro _ _ ⟨b2,rfl,rfl⟩;refine cW ?_)
  | (refine dL hp2 rfl ?_;rintro _ _ ⟨b3,rfl,rfl⟩;refine cW ?_))
 all_goals
  refine aU 10 ?_
  refine iO (fun b5=>?_) (hr:=bs3 ..)
  (refine bI [] ?_;refine aU 11 ?_)
  refine aH (sI _ [nJ,leN 8 c,leN 2 (UInt64.ofNat l.length)] (by rw [hfl,hfn];decide) (by simp only [aY,cM];omega)) ?_ (hpre:=fun w2 hs=>RdS.at (T:=23) (fz:=(0,0)) (Hc:=[]) hs rfl (Nat.le_refl _) rfl (aG1 rfl (Rd.atB (Hc:=[]) (b:=b1) (len:=8) (cap:=8) (T:=5) (fz:=((cbs nJ).length,(cbs nJ).length+1)) nJ hs rfl (Nat.le_refl _)) (Rd.my (Hc:=[]) (T:=5) b2 _ hs (dD ..)) (Rd.my (Hc:=[]) (T:=5) b3 _ hs (dD ..))))
  rw [hfl]
  intro v6 H6 h6
  have h61:=h6.isOne
  (refine SL.l [12,13] ?_)
  refine W.j ?_
  refine bZ [] H6 (fun x:Value×Hp=>[(3,x.1)]) (fun x=>x.2) (fun x=>Sl 5 1 x.1 (cbs (lV c l.length++kK l)) x.2) ?_ ?_
  ·refine W.k ?_
   refine bH [19,20] (fun x:Nat×Value×Hp=>[(3,x.2.1),(21,.int .i64 (x.1:Int))]) (fun x=>x.2.2) (fun x=>l.length-x.1) (fun x=>x.1≤l.length∧Sl 5 1 x.2.1 (cbs (lV c l.length++kK (l.take x.1))) x.2.2) (0,v6,H6) ⟨Nat.zero_le _,by rw [dF,show kK []=[] from rfl,aE];exact h6⟩ ?_
   rintro⟨k,v2,H2⟩ ⟨hk,h2⟩
   dsimp only at hk h2 ⊢
   have h21:=h2.isOne
   by_cases hkn:k<l.length
   ·have hx:=aA hkn
    obtain⟨a2,cap2,hz⟩:=hL.at hx
    obtain⟨pb,po,lv,T,fz,rfl,hb,hkK,hv⟩:=hg k _ hz
    have hts:kK (l.take (k+1))=kK (l.take k)++leN 2 (UInt64.ofInt l[k].1):=by unfold kK;rw [bG,hx,cO];simp
    have htl:(kK (l.take k)).length=2*k:=by rw [xJ,aI];omega
    generalize l[k]=x at *
    haveI:=cvK x.1
    refine W.k fun b_=>?_
    refine aH (hp3 x) ?_
    rintro _ _ ⟨b7,rfl,rfl⟩
    refine W.k ?_
    refine W.ap h2 (ys:=cbs (leN 2 (UInt64.ofInt x.1))) (mm:=2) (fun w2 hs=>(Sl.own 5 1 b7 (len:=2) (xs:=cbs (leN 2 (UInt64.ofInt x.1))) (by rw [aF,dD])).srcAt hs inferInstance) (fun v3 H3 h3=>?_) (hys:=by rw [aF,dD]) (hbytes:=by rw [aF,aF,aB,hfn,htl,dD];omega)
    have h31:=h3.isOne
    rw [show cbs (lV c l.length++kK (l.take k))++cbs (leN 2 (UInt64.ofInt x.1))=cbs (lV c l.length++kK (l.take (k+1))) by rw [hts];simp] at h3
    refine W.k ?_
    refine aP.mk (k+1,v3,H3) ?_
    exact⟨hkn,h3⟩
   ·have hkl:k=l.length:=oQ
    rw [hkl,cK] at h2
    subst hkl
    refine W.k ?_
    refine bU.mk (v2,H2) ?_
    exact h2
  rintro⟨v2,H2⟩ h2
  dsimp only at h2 ⊢
  have h21:=h2.isOne
  refine W.k ?_
  refine aH (hpd v2) ?_ (hpre:=fun w2 hs=>Rd.own (Hc:=[]) h2 hs inferInstance)
  rintro _ _ ⟨b8,rfl,rfl⟩
  refine W.k ?_
  refine Fin.to [(b8,cl (cbs (qJ c l)) 5)] ?_
  exact F.f1 ⟨b8,rfl,rfl⟩
theorem zW(h:List UInt8)(logs:List (List UInt8))(n:Nat):gX h logs (n+1)=gX h logs n++[(((iJ ((h.drop (18+2*n)).take 2):Nat):Int),logs.getD (1+n) [])]:=by unfold gX;rw [bJ,bC];rfl
theorem qD(h:List UInt8)(logs:List (List UInt8))(n:Nat):(gX h logs n).length=n:=by unfold gX;simp
def aIv(o:Option (UInt64×List Ent))(r:Value)(H:Hp):Prop:=match o with
 | none=>r=.tuple #[.agg #[.int .u64 0,.slice none 0 0],.int .i64 4]∧H=[]
 | some x=>∃ ev us He Hb,r=.tuple #[.agg #[dX x.1,ev],.int .i64 0]∧Sl 135 2 ev (jO us x.2) He∧RB Hb us (x.2.map Prod.snd)∧H=He++Hb
theorem aHc{p t:Nat}(h:Gm.Ok p t)(v:Value)(vs:List Value)(logs:List (List UInt8)){Ht:Hp}(hR:RB Ht vs logs)(hn:logs.length=1+t)(hb:∀ b∈logs,b.length=256) :
  Tri prog 270 [jQ p t,v] Ht (fun w=>Rd (Ht.map Prod.fst) w 1 v vs) (fun r H=>∃ Hn,aIv (lR p t logs) r Hn∧H=Hn++Ht):=by
 refine Tri.mk func270 rfl ntmps270 rfl fun w hw=>?_
 have ht:=h.2.2.2
 have hck:=nF h
 have hw0:=hw
 obtain⟨a,la,ca,rfl,hl1,hc1,hr1⟩:=hw.get
 rw [Nat.mul_one,hR.1] at hl1
 subst hl1
 have hY:One (Value.slice a logs.length ca):=⟨rfl⟩
 have hcf:=aHH aH4 (.slice a logs.length ca) vs logs hR oQ hb
 obtain⟨bb,o,l,T,fz,rfl,hbh,hkK,hy⟩:=hr1 oQ
 have hat:∀ k,k<logs.length→∃ u,l[o+k]?=some u∧RdH Ht u (logs.getD k []):=fun k hk=>by
  obtain⟨u,hu1,hu2⟩:=hR.2 k _ (aA hk)
  refine⟨u,?_,by rw [aC,aA hk];exact hu2⟩
  have h2:((l.drop o).take (logs.length*1))[k]?=vs[k]?:=by rw [hy]
  rw [bB,if_pos oQ,bA,hu1] at h2
  exact h2
 have h256:∀ k,k<logs.length→(logs.getD k []).length=256:=fun k hk=>by
  rw [aC,aA hk];exact hb _ (dO hk)
 obtain⟨u0,hu0,hr0⟩:=hat 0 oQ
 have hx256:=h256 0 oQ
 have hpar:lR p t logs=if iJ (((logs.getD 0 []).drop 16).take 2)≤t∧oD p t (gX (logs.getD 0 []) logs (iJ (((logs.getD 0 []).drop 16).take 2)))=true∧qJ (vB (((logs.getD 0 []).drop 8).take 8)) (gX (logs.getD 0 []) logs (iJ (((logs.getD 0 []).drop 16).take 2)))=logs.getD 0 [] then some (vB (((logs.getD 0 []).drop 8).take 8),gX (logs.getD 0 []) logs (iJ (((logs.getD 0 []).drop 16).take 2))) else none:=rfl
 rw [hpar]
 clear hpar
 generalize hX:logs.getD 0 []=x at *
 have h0o:=hr0.one
 have hof:=aKw u0 x oQ
 refine W.k fun _ b_=>?_
 refine W.cw hck ?_
 refine aH hcf ?_ (hpre:=fun w2 hs=>hw0.ro (Hc:=Ht) hs)
 rintro _ Ht ⟨rfl,rfl⟩
 refine W.k ?_
 refine aH hof ?_ (hpre:=fun w2 hs=>hr0.rd (Hc:=[]) hs)
 rintro _ H1 ⟨q,rfl,hQ⟩
 have hby:=aHa hQ 8 oQ oQ
 refine W.k ?_
 refine aH hby ?_
 rintro _ _ ⟨H2,H2t,hQ2,hS2,rfl⟩
 have hs21:=hS2.isOne
 have hn1:=aDL hQ2 8 dQ dQ (by rw [aW];omega) (by rw [aW];omega)
 refine W.k ?_
 refine dN H2 rfl rfl rfl rfl rfl rfl hn1 (fun _ _=>trivial) ?_
 rintro _ H3 ⟨rfl,hQ3⟩
 rw [cG] at hQ3
 have hu:Value.int .u64 ((iJ ((x.drop 8).take 8):Nat):Int)=dX (vB ((x.drop 8).take 8)):=by unfold dX;rw [vZ]
 rw [hu]
 clear hu
 generalize vB ((x.drop 8).take 8)=c at *
 have hb39:bP (fun i=>[(0,1),(1,1)][i]?) [.int .u64 0,.slice none 0 0] [(0,dX c)]=some [dX c,.slice none 0 0]:=rfl
 have hn2:=aDL hQ3 2 dQ dQ (by rw [aW];omega) (by rw [aW];omega)
 refine W.k fun b_=>?_
 refine dN H3 rfl rfl rfl rfl rfl rfl hn2 (fun _ _=>trivial) ?_
 rintro _ H4 ⟨rfl,hQ4⟩
 rw [cG] at hQ4
 have hnl:iJ ((x.drop (8+8)).take 2)<65536:=aBx (by rw [aI];omega)
 rw [show 8+8=16 from rfl] at hnl ⊢
 generalize iJ ((x.drop 16).take 2)=n at *
 haveI:Cv .i64 (n:Int) (n:Int):=⟨w64 oQ⟩
 refine W.j ?_
 generalize b_=b9 at *
 have hmn:min n t≤24:=oQ
 refine bZ [1,2,4,9,10] ((b9,cl [dX c,.slice none 0 0] 223)::H4) (fun _:Value×List Value×Hp×Hp=>[]) (fun y=>(b9,cl [dX c,y.1] 223)::(y.2.2.1++y.2.2.2))
  (fun y=>Sl 135 2 y.1 (jO y.2.1 (gX x logs (min n t))) y.2.2.1∧RB y.2.2.2 y.2.1 ((gX x logs (min n t)).map Prod.snd)) ?_ ?_
 ·refine W.k ?_
  refine bH [1,2,4,8,9,10] (fun y:Nat×Hp×Value×List Value×Hp×Hp=>[(11,.int .i64 (y.1:Int))]) (fun y=>(b9,cl [dX c,y.2.2.1] 223)::(y.2.1++(y.2.2.2.2.1++y.2.2.2.2.2))) (fun y=>min n t-y.1)
   (fun y=>(y.1≤min n t∧aBX q (x.drop (18+2*y.1)) y.2.1)∧Sl 135 2 y.2.2.1 (jO y.2.2.2.1 (gX x logs y.1)) y.2.2.2.2.1∧RB y.2.2.2.2.2 y.2.2.2.1 ((gX x logs y.1).map Prod.snd)) (0,H4,.slice none 0 0,[],[],[]) ⟨⟨Nat.zero_le _,hQ4⟩,Sl.nil _ _,RB.nil _⟩ ?_
  rintro⟨k,Hq,ev,us,He,Hb⟩ ⟨⟨hk,hQk⟩,hSe,hRb⟩
  dsimp only at hk hQk hSe hRb ⊢
  have hSe1:=hSe.isOne
  have husl:us.length=(gX x logs k).length:=by rw [hRb.1,aJ]
  by_cases hkn:k<n
  ·by_cases hkt:k<t
   ·obtain⟨u,hu,hru⟩:=hat (1+k) oQ
    have hul:=h256 (1+k) oQ
    have huo:=hru.one
    have hnm:=aDL hQk 2 dQ dQ (by rw [aW];omega) (by rw [aW];omega)
    rw [cG,show 18+2*k+2=18+2*(k+1) by omega] at hnm
    have hK:iJ ((x.drop (18+2*k)).take 2)<65536:=aBx (by rw [aI];omega)
    have hes:=zW x logs k
    have hel:=qD x logs k
    generalize iJ ((x.drop (18+2*k)).take 2)=K at *
    generalize logs.getD (1+k) []=d at *
    haveI:Cv .i64 (K:Int) (K:Int):=⟨w64 oQ⟩
    haveI:dK (1+(k:Int)) (1+k):=⟨by omega⟩
    refine W.k ?_
    (refine SW.l [13,15] [0,1,2,5,6,7,8,9] ?_;refine aU 3 ?_)
    refine dN Hq rfl rfl rfl rfl rfl rfl hnm (fun _ _=>trivial) ?_
    rintro _ Hq2 ⟨rfl,hQ5⟩
    (refine SL.l [4] ?_;refine aU 10 ?_)
    refine aH (rB u d oQ) ?_ (hpre:=fun w2 hs=>hru.rd (Hc:=[]) hs)
    intro v3 H5 h5
    have h51:=h5.isOne
    obtain⟨a3,l3,c3,rfl,-⟩:=h5.form
    have hb65:bP (fun i=>[(0,1),(1,1)][i]?) [.int .i64 0,.slice none 0 0] [(0,.int .i64 (K:Int)),(1,.slice a3 l3 c3)]=some [.int .i64 (K:Int),.slice a3 l3 c3]:=rfl
    have hb66:bP (fun i=>some (i*2,2)) (zs [.int .i64 0,.slice none 0 0] 1) [(0,.agg [(.int .i64 (K:Int):Value),.slice a3 l3 c3].toArray)]=some [.int .i64 (K:Int),.slice a3 l3 c3]:=rfl
    (refine SL.l [11] ?_;refine aU 12 ?_)
    refine iO (fun b6=>?_) (hr:=hb66)
    (refine bI [] ?_;refine cQ 13 ?_)
    refine W.ap hSe (ys:=[.int .i64 (K:Int),.slice a3 l3 c3]) (mm:=1) (fun w2 hs=>(Sl.own 135 2 b6 (xs:=[.int .i64 (K:Int),.slice a3 l3 c3]) rfl).srcAt hs inferInstance) (fun v7 H7 h7=>?_) (hys:=rfl) (hbytes:=by rw [lH _ _ husl,hel];simp;omega)
    have h71:=h7.isOne
    rw [← zV husl (.slice a3 l3 c3) ((K:Int),d),← hes] at h7
    (refine SL.l [14] ?_;refine cQ 15 ?_;refine W.i ?_;refine eH ?_)
    refine W.k ?_
    rw [show ([dX c,ev]:List Value).set 1 v7=[dX c,v7] from rfl]
    refine aP.mk (k+1,Hq2,v7,us++[.slice a3 l3 c3],H7,H5++Hb) ?_
    refine⟨⟨by dsimp only;omega,hQ5⟩,h7,?_⟩
    dsimp only
    rw [hes,bC]
    exact (hRb.mono fun x hx=>aN _ hx).snoc ((RdH.of h5).mono fun x hx=>aT _ hx)
   ·have hkm:k=min n t:=oQ
    rw [hkm] at hSe hRb
    refine W.k ?_
    refine bU.mk (ev,us,He,Hb) ?_
    exact⟨hSe,hRb⟩
  ·have hkm:k=min n t:=oQ
   rw [hkm] at hSe hRb
   refine W.k ?_
   refine bU.mk (ev,us,He,Hb) ?_
   exact⟨hSe,hRb⟩
 rintro⟨ev,us,He,Hb⟩ ⟨hSe,hRb⟩
 dsimp only at hSe hRb ⊢
 have hSe1:=hSe.isOne
 have hel:=qD x logs (min n t)
 have husl:us.length=(gX x logs (min n t)).length:=by rw [hRb.1,aJ]
 have hLE:=hRb.le
 obtain⟨ea,el,ec,rfl,hell⟩:=hSe.form
 rw [lH _ _ husl,hel] at hell
 obtain rfl:el=min n t:=by omega
 have hnone:aIv none (.tuple #[.agg #[.int .u64 0,.slice none 0 0],.int .i64 4]) []:=⟨rfl,rfl⟩
 have hl2:([dX c,.slice ea (min n t) ec]:List Value).length=2:=rfl
 by_cases hnt:n≤t
 ·rw [show min n t=n by omega] at *
  have hmy:=aJy h c (.slice ea n ec) us _ hLE (by rw [hel];omega)
  have hhd:=aJt c (.slice ea n ec) us _ hLE (by rw [hel];omega)
  have hhl:=aEQ c (gX x logs n)
  by_cases hm:oD p t (gX x logs n)=true
  ·rw [hm] at hmy
   by_cases he:qJ c (gX x logs n)=x
   ·rw [if_pos ⟨hnt,hm,he⟩]
    refine W.k ?_
    (refine SW.l [] [0,1,2,3,4,5,6,7] ?_;(first|refine dU 8 rfl ?_;refine SG.l [9,10,11,12,14,15,16] ?_;(first|refine dU 13 rfl ?_;(first|refine dU 17 rfl ?_;refine SG.l [18,19,20] ?_|refine aU 17 ?_)|refine aU 13 ?_)|refine aU 8 ?_))
    refine W.cq hmy ?_ (hpre:=fun w2 hs=>Rd.own (Hc:=[]) hSe hs inferInstance)
    (refine SL.l [9,10,11,12,14,15,16] ?_;(first|refine dU 13 rfl ?_;(first|refine dU 17 rfl ?_;refine SG.l [18,19,20] ?_|refine aU 17 ?_)|refine aU 13 ?_))
    refine aH hhd ?_ (hpre:=fun w2 hs=>Rd.own (Hc:=[]) hSe hs inferInstance)
    rintro _ _ ⟨b8,rfl,rfl⟩
    (refine bI [] ?_;(first|refine dU 17 rfl ?_;refine SG.l [18,19,20] ?_|refine aU 17 ?_))
    refine W.cq (vK _ _ (qJ c (gX x logs n)) x) ?_ (hpre:=fun w2 hs=>⟨Rd.my (Hc:=[]) (T:=5) b8 _ hs hhl,hr0.rd (Hc:=[]) hs⟩)
    rw [decide_eq_true he]
    (refine SL.l [18,19,20] ?_)
    refine W.k ?_
    refine oN ((He++Hb)++Ht) [dX c,.slice ea n ec] ?_
    exact⟨He++Hb,⟨_,us,He,Hb,rfl,hSe,hRb,rfl⟩,rfl⟩
   ·rw [if_neg (fun hc=>he hc.2.2)]
    refine W.k ?_
    (refine SW.l [] [0,1,2,3,4,5,6,7] ?_;(first|refine dU 8 rfl ?_;refine SG.l [9,10,11,12,14,15,16] ?_;(first|refine dU 13 rfl ?_;(first|refine dU 17 rfl ?_;refine SG.l [18,19,20] ?_|refine aU 17 ?_)|refine aU 13 ?_)|refine aU 8 ?_))
    refine W.cq hmy ?_ (hpre:=fun w2 hs=>Rd.own (Hc:=[]) hSe hs inferInstance)
    (refine SL.l [9,10,11,12,14,15,16] ?_;(first|refine dU 13 rfl ?_;(first|refine dU 17 rfl ?_;refine SG.l [18,19,20] ?_|refine aU 17 ?_)|refine aU 13 ?_))
    refine aH hhd ?_ (hpre:=fun w2 hs=>Rd.own (Hc:=[]) hSe hs inferInstance)
    rintro _ _ ⟨b8,rfl,rfl⟩
    (refine bI [] ?_;(first|refine dU 17 rfl ?_;refine SG.l [18,19,20] ?_|refine aU 17 ?_))
    refine W.cq (vK _ _ (qJ c (gX x logs n)) x) ?_ (hpre:=fun w2 hs=>⟨Rd.my (Hc:=[]) (T:=5) b8 _ hs hhl,hr0.rd (Hc:=[]) hs⟩)
    rw [decide_eq_false he]
    (refine SL.l [18,19,20] ?_)
    refine W.k ?_
    refine oN Ht [.int .u64 0,.slice none 0 0] ?_
    exact⟨[],hnone,rfl⟩
  ·rw [if_neg (fun hc=>hm hc.2.1)]
   rw [show oD p t (gX x logs n)=false by simpa using hm] at hmy
   refine W.k ?_
   (refine SW.l [] [0,1,2,3,4,5,6,7] ?_;(first|refine dU 8 rfl ?_;refine SG.l [9,10,11,12,14,15,16] ?_;(first|refine dU 13 rfl ?_;(first|refine dU 17 rfl ?_;refine SG.l [18,19,20] ?_|refine aU 17 ?_)|refine aU 13 ?_)|refine aU 8 ?_))
   refine W.cq hmy ?_ (hpre:=fun w2 hs=>Rd.own (Hc:=[]) hSe hs inferInstance)
   (refine SL.l [9,10,11,12,14,15,16] ?_;(first|refine dU 13 rfl ?_;(first|refine dU 17 rfl ?_;refine SG.l [18,19,20] ?_|refine aU 17 ?_)|refine aU 13 ?_))
   refine W.k ?_
   refine oN Ht [.int .u64 0,.slice none 0 0] ?_
   exact⟨[],hnone,rfl⟩
 ·rw [if_neg (fun hc=>hnt hc.1)]
  refine W.k ?_
  (refine SW.l [] [0,1,2,3,4,5,6,7] ?_;(first|refine dU 8 rfl ?_;refine SG.l [9,10,11,12,14,15,16] ?_;(first|refine dU 13 rfl ?_;(first|refine dU 17 rfl ?_;refine SG.l [18,19,20] ?_|refine aU 17 ?_)|refine aU 13 ?_)|refine aU 8 ?_))
  refine W.k ?_
  refine oN Ht [.int .u64 0,.slice none 0 0] ?_
  exact⟨[],hnone,rfl⟩
end
end Go.Proofs.YtmceanmblcadcaaGreat
