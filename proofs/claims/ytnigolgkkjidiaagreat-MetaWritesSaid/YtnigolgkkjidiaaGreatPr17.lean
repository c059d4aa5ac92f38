/- Where the blocks of a geometry stand. -/
import Derived.Test.YtnigolgkkjidiaaGreatPr16
import Derived.Test.YtnigolgkkjidiaaGreatPr8
import Derived.Test.YtnigolgkkjidiaaGreatPr9
import Derived.Test.YtnigolgkkjidiaaGreatPr12
import Derived.Test.YtnigolgkkjidiaaGreatPr11
set_option linter.unusedVariables false
set_option linter.unusedSimpArgs false
set_option linter.unusedSectionVars false
set_option maxHeartbeats 8000000
namespace Go.Proofs.YtnigolgkkjidiaaGreat
open Go Go.Proofs.Tryz
section
attribute [local irreducible] SW SL SQ SH SA SS Pu Fin bZ aT
theorem aHH{p t:Nat}(h:Gm.Ok p t){K:Nat}(hK:2≤K)(hK4:K≤4):Tri prog 180 [iX p t,.int .i64 (K:Int)] [] (fun _=>True) (fun v H=>v=.int .i64 (Gm.sumK p t (K-1):Nat)∧H=[]):=by
 refine Tri.mk func180 rfl ntmps180 rfl fun w hw=>?_
 have c0:=aC7 p t
 have c1:=wT h
 have c2:=tG h
 have hs:=Gm.sealed_le h
 have he:=Gm.epochs_le h
 have s0:Gm.sumK p t 0=0:=rfl
 have s1:Gm.sumK p t 1=1:=rfl
 have s2:Gm.sumK p t 2=1+Gm.epochs p:=rfl
 have s3:Gm.sumK p t 3=1+Gm.epochs p+Gm.sealed p:=rfl
 refine W.j fun b_=>?_
 refine W.cq aEW ?_
 refine W.j ?_
 refine SW.cut [] [] (fun _:Unit=>[(5,.int .i64 (Gm.sumK p t (K-1):Nat))]) (fun _=>[]) (fun _=>True) ?_ ?_
 ·refine W.k ?_
  refine bN [1,2,8] (fun k:Nat=>[(5,.int .i64 (Gm.sumK p t (min k (K-1)):Nat)),(9,.int .i64 (k:Int))]) (fun k=>[(b_,cl (uL p t) 267)]) (fun k=>4-k) (fun k=>k≤4) 0 (Nat.zero_le _) ?_
  intro k hk
  by_cases h4:k<4
  ·by_cases hkK:k+1<K
   ·rw [show min k (K-1)=k by omega]
    have hn:min (k+1) (K-1)=k+1:=om
    rcases (by omega:k=0∨k=1∨k=2) with rfl|rfl|rfl
    ·refine W.k ?_
     refine dH [] rfl rfl rfl rfl rfl rfl c0 (fun _ _=>trivial) ?_
     rintro _ _ ⟨rfl,rfl⟩
     refine W.k ?_
     rw [show ((Gm.sumK p t 0:Nat):Int)+(1:Nat)=((Gm.sumK p t (min (0+1) (K-1)):Nat):Int) by rw [hn];show _=((Gm.sumK p t 1:Nat):Int);omega]
     refine aT.mk (0+1) ?_
     decide
    ·refine W.k ?_
     refine dH [] rfl rfl rfl rfl rfl rfl c1 (fun _ _=>trivial) ?_
     rintro _ _ ⟨rfl,rfl⟩
     refine W.k ?_
     rw [show ((Gm.sumK p t 1:Nat):Int)+(Gm.epochs p:Nat)=((Gm.sumK p t (min (1+1) (K-1)):Nat):Int) by rw [hn];show _=((Gm.sumK p t 2:Nat):Int);omega]
     refine aT.mk (1+1) ?_
     decide
    ·refine W.k ?_
     refine dH [] rfl rfl rfl rfl rfl rfl c2 (fun _ _=>trivial) ?_
     rintro _ _ ⟨rfl,rfl⟩
     refine W.k ?_
     rw [show ((Gm.sumK p t 2:Nat):Int)+(Gm.sealed p:Nat)=((Gm.sumK p t (min (2+1) (K-1)):Nat):Int) by rw [hn];show _=((Gm.sumK p t 3:Nat):Int);omega]
     refine aT.mk (2+1) ?_
     decide
   ·rw [show min k (K-1)=min (k+1) (K-1) by omega]
    rcases (by omega:k=1∨k=2∨k=3) with rfl|rfl|rfl
    ·refine W.k ?_
     refine aT.mk (1+1) ?_
     decide
    ·refine W.k ?_
     refine aT.mk (2+1) ?_
     decide
    ·refine W.k ?_
     refine aT.mk (3+1) ?_
     decide
  ·have:k=4:=om
   subst this
   rw [show min 4 (K-1)=K-1 by omega]
   refine W.k ?_
   refine bZ.mk () ?_
   trivial
 rintro _ -
 refine W.k ?_
 exact F.n
def Gm.atK(n base:Nat)(k:Int):Int:=if 0≤k∧k<n then base+k else -1
theorem aIY{p t:Nat}(h:Gm.Ok p t){K n:Nat}(hK:2≤K)(hK4:K≤4){f:FuncId} [aZ prog f](hc:Tri prog f [iX p t] [] (fun _=>True) (fun v H=>v=.int .i64 (n:Int)∧H=[]))(k:Int)(hn:n≤1000):Tri prog 138 [iX p t,.int .i64 (K:Int),.int .i64 k,.func (.func f) #[] #[]] [] (fun _=>True) (fun v H=>v=.int .i64 (Gm.atK n (Gm.sumK p t (K-1)) k)∧H=[]):=by
 refine Tri.mk func138 rfl ntmps138 rfl fun w hw=>?_
 have ha:=aHH h hK hK4
 have hq:=tE h hc
 have hs:=Gm.sealed_le h
 have he:=Gm.epochs_le h
 have hb:Gm.sumK p t (K-1)≤1000:=by
  rcases (by omega:K=2∨K=3∨K=4) with rfl|rfl|rfl
  ·show 1≤1000;decide
  ·show 1+Gm.epochs p≤1000;omega
  ·show 1+Gm.epochs p+Gm.sealed p≤1000;omega
 unfold Gm.atK
 generalize Gm.sumK p t (K-1)=base at *
 by_cases h0:k<0
 ·rw [if_neg om]
  refine W.k fun b_=>?_
  exact F.n
 ·by_cases h1:k<n
  ·rw [if_pos om]
   refine W.k fun b_=>?_
   refine W.cw hq ?_
   refine W.cw ha ?_
   exact F.n
  ·rw [if_neg om]
   refine W.k fun b_=>?_
   refine W.cw hq ?_
   exact F.n
theorem aBO{p t:Nat}(h:Gm.Ok p t)(k:Int):Tri prog 185 [iX p t,.int .i64 k] [] (fun _=>True) (fun v H=>v=.int .i64 (Gm.atK (Gm.epochs p) 1 k)∧H=[]):=by
 refine Tri.mk func185 rfl ntmps185 rfl fun w hw=>?_
 have hc:=aIY h (K:=2) dc dc (wT h) k (by have:=Gm.epochs_le h;omega)
 refine W.k fun b_=>?_
 refine W.cw hc ?_
 exact F.n
theorem vX{p t:Nat}(h:Gm.Ok p t)(k:Int):Tri prog 68 [iX p t,.int .i64 k] [] (fun _=>True) (fun v H=>v=.int .i64 (Gm.atK (Gm.sealed p) (1+Gm.epochs p) k)∧H=[]):=by
 refine Tri.mk func68 rfl ntmps68 rfl fun w hw=>?_
 have hc:=aIY h (K:=3) dc dc (tG h) k (by have:=Gm.sealed_le h;omega)
 refine W.k fun b_=>?_
 refine W.cw hc ?_
 exact F.n
theorem aEX{p t:Nat}(h:Gm.Ok p t)(k:Int):Tri prog 119 [iX p t,.int .i64 k] [] (fun _=>True) (fun v H=>v=.int .i64 (Gm.atK (1+t) (Gm.leaves p) k)∧H=[]):=by
 refine Tri.mk func119 rfl ntmps119 rfl fun w hw=>?_
 have hc:=aIY h (K:=4) dc dc (aGQ h) k (by have:=h.2.2.2;omega)
 refine W.k fun b_=>?_
 refine W.cw hc ?_
 exact F.n
theorem yK{p t:Nat}(h:Gm.Ok p t):Tri prog 131 [iX p t] [] (fun _=>True) (fun v H=>v=.int .i64 (Gm.epochs p:Nat)∧H=[]):=by
 refine Tri.mk func131 rfl ntmps131 rfl fun w hw=>?_
 have hc:=tE h (wT h)
 refine W.k fun b_=>?_
 refine W.cw hc ?_
 exact F.n
theorem uM{p t:Nat}(h:Gm.Ok p t):Tri prog 126 [iX p t] [] (fun _=>True) (fun v H=>v=.int .i64 (Gm.sealed p:Nat)∧H=[]):=by
 refine Tri.mk func126 rfl ntmps126 rfl fun w hw=>?_
 have hc:=tE h (tG h)
 refine W.k fun b_=>?_
 refine W.cw hc ?_
 exact F.n
theorem Gm.all_at(p t:Nat){j:Nat}(hj:j<Gm.total p t):(Gm.all p t)[j]?=some (if j<1 then (1,0) else if j<1+Gm.epochs p then (2,j-1) else if j<Gm.leaves p then (3,j-(1+Gm.epochs p)) else (4,j-Gm.leaves p)):=by
 have hr:∀ kind n i,i<n→(Gm.row kind n)[i]?=some (kind,i):=fun kind n i h=>by unfold Gm.row;rw [aH,dY h];rfl
 have hT:Gm.total p t=1+Gm.epochs p+Gm.sealed p+(1+t):=rfl
 have hL:Gm.leaves p=1+Gm.epochs p+Gm.sealed p:=rfl
 unfold Gm.all
 by_cases h1:j<1
 ·rw [if_pos h1]
  obtain rfl:j=0:=by omega
  rfl
 ·rw [if_neg h1,bE,bE,aS (by simp;omega),gO]
  by_cases h2:j<1+Gm.epochs p
  ·rw [if_pos h2,aN (by rw [Gm.row_len];omega)]
   exact hr _ _ _ om
  ·rw [if_neg h2,aS (by rw [Gm.row_len];omega),Gm.row_len]
   by_cases h3:j<Gm.leaves p
   ·rw [if_pos h3,aN (by rw [Gm.row_len];omega),show j-1-Gm.epochs p=j-(1+Gm.epochs p) by omega]
    exact hr _ _ _ om
   ·rw [if_neg h3,aS (by rw [Gm.row_len];omega),Gm.row_len,show j-1-Gm.epochs p-Gm.sealed p=j-Gm.leaves p by omega]
    exact hr _ _ _ om
theorem aJP{l:List (Nat×Nat)}{j:Nat}{x:Nat×Nat}(h:l[j]?=some x)(r:List Value):((pcs l++r).drop (j*2)).take 2=pc x:=by
 have hl:=(aG.1 h).1
 have e:pcs l=(l.map pc).flatten:=by unfold pcs;rw [gE]
 rw [bW (by rw [pD];omega),aQ (by rw [aK,pD];omega),e]
 exact nB (n:=2) (fun y hy=>by obtain⟨z,-,rfl⟩:=bG.1 hy;rfl) (by rw [aH,h];rfl)
theorem aGf{p t:Nat}(h:Gm.Ok p t){K n base:Nat}(hK:K=2∧n=Gm.epochs p∧base=1∨K=3∧n=Gm.sealed p∧base=1+Gm.epochs p∨K=4∧n=1+t∧base=Gm.leaves p)(k:Int):Tri prog 248 [iX p t,.int .i64 (K:Int),.int .i64 k] [] (fun _=>True) (fun v H=>v=.int .i64 (Gm.atK n base k)∧H=[]):=by
 refine Tri.mk func248 rfl ntmps248 rfl fun w hw=>?_
 have hall:=aAa h
 have htot:=Gm.total_le h
 have hpl:=pD (Gm.all p t)
 rw [Gm.all_len] at hpl
 have hat:=fun j (hj:j<Gm.total p t)=>Gm.all_at p t hj
 have hT:Gm.total p t=1+Gm.epochs p+Gm.sealed p+(1+t):=rfl
 have hL:Gm.leaves p=1+Gm.epochs p+Gm.sealed p:=rfl
 generalize Gm.all p t=l at *
 generalize Gm.total p t=m at *
 refine W.k fun b_=>?_
 refine aL hall ?_
 rintro v1 H1 ⟨Hs,hS,rfl⟩
 have hS1:=hS.isOne
 rcases hS with ⟨-,hz,-⟩|⟨bl,len,cap,junk,rfl,hxl,hj,hlc,rfl⟩
 ·rw [hz] at hpl;simp at hpl;omega
 have hl1:len=m:=om
 subst hl1
 refine W.k ?_
 refine bN [1,2,10,11] (fun j:Nat=>[(12,.int .i64 (j:Int))]) (fun _=>[(bl,cl (pcs l++junk) 209)]) (fun j=>len-j) (fun j=>j≤len∧((0≤k∧k<n)→(j:Int)≤base+k)) 0 ⟨Nat.zero_le _,fun _=>by omega⟩ ?_
 rintro j ⟨hj1,hj2⟩
 by_cases hjl:j<len
 ·have hx:=hat j hjl
  generalize hxe:(if j<1 then (1,0) else if j<1+Gm.epochs p then (2,j-1) else if j<Gm.leaves p then (3,j-(1+Gm.epochs p)) else (4,j-Gm.leaves p):Nat×Nat)=x at hx
  have hld:=aJP hx junk
  have hpc:(pc x).length=2:=rfl
  obtain⟨x1,x2⟩:=x
  have hiff:(x1=K∧(x2:Int)=k)↔(0≤k∧k<n∧(j:Int)=base+k):=by
   repeat' split at hxe
   all_goals (cases hxe;omega)
  by_cases e1:x1=K
  ·by_cases e2:(x2:Int)=k
   ·obtain⟨i1,i2,i3⟩:=hiff.1 ⟨e1,e2⟩
    subst e1
    refine W.k fun b_=>?_
    rw [show (j:Int)=Gm.atK n base k by unfold Gm.atK;rw [if_pos ⟨i1,i2⟩];exact i3]
    exact F.n
   ·have hne:¬ (0≤k∧k<n∧(j:Int)=base+k):=fun e=>e2 (hiff.2 e).2
    subst e1
    refine W.k fun b_=>?_
    refine aT.mk (j+1) ?_
    exact⟨hjl,fun e=>by have:=hj2 e;omega⟩
  ·have hne:¬ (0≤k∧k<n∧(j:Int)=base+k):=fun e=>e1 (hiff.2 e).1
   refine W.k fun b_=>?_
   refine aT.mk (j+1) ?_
   exact⟨hjl,fun e=>by have:=hj2 e;omega⟩
 ·have hjm:j=len:=om
  subst hjm
  have hno:¬ (0≤k∧k<n):=fun e=>by have:=hj2 e;omega
  rw [show Gm.atK n base k = -1 by unfold Gm.atK;rw [if_neg hno]]
  refine W.k ?_
  exact F.n
theorem aH3{p t:Nat}(h:Gm.Ok p t):Tri prog 254 [iX p t,.int .i64 4] [] (fun _=>True) (fun v H=>v=.int .i64 ((1+t:Nat):Int)∧H=[]):=by
 refine Tri.mk func254 rfl ntmps254 rfl fun w hw=>?_
 have hall:=aAa h
 have htot:=Gm.total_le h
 have hpl:=pD (Gm.all p t)
 rw [Gm.all_len] at hpl
 have hat:=fun j (hj:j<Gm.total p t)=>Gm.all_at p t hj
 have hT:Gm.total p t=1+Gm.epochs p+Gm.sealed p+(1+t):=rfl
 have hL:Gm.leaves p=1+Gm.epochs p+Gm.sealed p:=rfl
 generalize Gm.all p t=l at *
 generalize Gm.total p t=m at *
 refine W.k fun b_=>?_
 refine aL hall ?_
 rintro v1 H1 ⟨Hs,hS,rfl⟩
 have hS1:=hS.isOne
 rcases hS with ⟨-,hz,-⟩|⟨bl,len,cap,junk,rfl,hxl,hj,hlc,rfl⟩
 ·rw [hz] at hpl;simp at hpl;omega
 have hl1:len=m:=om
 subst hl1
 refine W.j ?_
 refine SW.cut [] [] (fun _:Unit=>[(5,.int .i64 ((1+t:Nat):Int))]) (fun _=>[]) (fun _=>True) ?_ ?_
 ·refine W.k ?_
  refine bN [1,9,10] (fun j:Nat=>[(5,.int .i64 ((j-Gm.leaves p:Nat):Int)),(11,.int .i64 (j:Int))]) (fun _=>[(bl,cl (pcs l++junk) 209)]) (fun j=>len-j) (fun j=>j≤len) 0 (Nat.zero_le _) ?_ (hr:=by rw [Nat.zero_sub];exact⟨rfl,rfl,trivial⟩)
  intro j hj1
  by_cases hjl:j<len
  ·have hx:=hat j hjl
   generalize hxe:(if j<1 then (1,0) else if j<1+Gm.epochs p then (2,j-1) else if j<Gm.leaves p then (3,j-(1+Gm.epochs p)) else (4,j-Gm.leaves p):Nat×Nat)=x at hx
   have hld:=aJP hx junk
   have hpc:(pc x).length=2:=rfl
   obtain⟨x1,x2⟩:=x
   have hiff:x1=4↔Gm.leaves p≤j:=by
    repeat' split at hxe
    all_goals (cases hxe;omega)
   by_cases e1:x1=4
   ·have:=hiff.1 e1
    subst e1
    refine W.k fun b_=>?_
    rw [show ((j-Gm.leaves p:Nat):Int)+1=((j+1-Gm.leaves p:Nat):Int) by omega]
    refine aT.mk (j+1) ?_
    exact hjl
   ·have:¬ Gm.leaves p≤j:=fun e=>e1 (hiff.2 e)
    refine W.k fun b_=>?_
    rw [show j-Gm.leaves p=j+1-Gm.leaves p by omega]
    refine aT.mk (j+1) ?_
    exact hjl
  ·have hjm:j=len:=om
   subst hjm
   rw [show j-Gm.leaves p=1+t by omega]
   refine W.k ?_
   refine bZ.mk () ?_
   trivial
 rintro _ -
 refine W.k ?_
 exact F.n
def kJ:List UInt8:=[71,65,82,68,82,79,66,69]
def iD(p t:Nat):List UInt8:=pad 256 (kJ++leN 2 1++leN 2 (UInt64.ofNat p)++leN 2 (UInt64.ofNat t))
def epB(k:Nat)(es:List UInt64):List UInt8:=pad 256 (((es.drop (32*k)).take 32).flatMap (leN 8))
theorem yU(p t:Nat):(iD p t).length=256:=sD _ _
theorem aBb(k:Nat)(es:List UInt64):(epB k es).length=256:=sD _ _
theorem bsM:bQ (fun i=>some (i*1,1)) (zs [Value.int .u8 0] 8) [(0,.int .u8 71),(1,.int .u8 65),(2,.int .u8 82),(3,.int .u8 68),(4,.int .u8 82),(5,.int .u8 79),(6,.int .u8 66),(7,.int .u8 69)]=some (cbs kJ):=rfl
theorem aFx{p t:Nat}(h:Gm.Ok p t):Tri prog 130 [iX p t] [] (fun _=>True) (fun v H=>∃ b,v=.tuple #[.slice (some ⟨b,0,none⟩) 256 256,.int .i64 0]∧H=[(b,cl (cbs (iD p t)) 5)]):=by
 refine Tri.mk func130 rfl ntmps130 rfl fun w hw=>?_
 have hck:=iW h
 have hp1:=rJ 2 1 om om
 have hp2:=rJ 2 (UInt64.ofNat p) om om
 have hp3:=rJ 2 (UInt64.ofNat t) om om
 have hfl:[kJ,leN 2 1,leN 2 (UInt64.ofNat p),leN 2 (UInt64.ofNat t)].flatten=kJ++leN 2 1++leN 2 (UInt64.ofNat p)++leN 2 (UInt64.ofNat t):=by simp
 have hfn:(kJ++leN 2 1++leN 2 (UInt64.ofNat p)++leN 2 (UInt64.ofNat t)).length=14:=by simp [cJ,kJ]
 have hpd:=fun v=>yA v (kJ++leN 2 1++leN 2 (UInt64.ofNat p)++leN 2 (UInt64.ofNat t)) 256 dc dc (by rw [hfn];decide)
 rw [show pad 256 (kJ++leN 2 1++leN 2 (UInt64.ofNat p)++leN 2 (UInt64.ofNat t))=iD p t from rfl] at hpd
 refine W.k fun b_=>?_
 refine W.cw hck ?_
 (refine SW.l [] [3,4,5,7,8,9] ?_;skip )
 repeat' (first
  | refine fX 0 2 ?_ ?_ rfl rfl (hok:=by decide +kernel)|refine fX 1 2 ?_ ?_ rfl rfl (hok:=by decide +kernel)|refine fX 0 6 ?_ ?_ rfl rfl (hok:=by decide +kernel)|refine fX 1 6 ?_ ?_ rfl rfl (hok:=by decide +kernel)|refine fX 0 10 ?_ ?_ rfl rfl (hok:=by decide +kernel)|refine fX 1 10 ?_ ?_ rfl rfl (hok:=by decide +kernel)
  | refine kB 0 ?_ rfl (by decide +kernel)|refine kB 1 ?_ rfl (by decide +kernel)|refine kB 2 ?_ rfl (by decide +kernel)|refine kB 6 ?_ rfl (by decide +kernel)|refine kB 10 ?_ rfl (by decide +kernel)
  | (refine jO (fun b1=>?_) (hr:=bsM);refine cU ?_)
  | (refine W.mk ?_;refine cU ?_)
  | (refine dV hp1 rfl ?_;rintro _ _ ⟨b2,rfl,rfl⟩;refine cU ?_)
  | (refine dV hp2 rfl ?_;rintro _ _ ⟨b3,rfl,rfl⟩;refine cU ?_)
  | (refine dV hp3 rfl ?_;rintro _ _ ⟨b4,rfl,rfl⟩;refine cU ?_))
 all_goals
  refine aX 11 ?_
  refine jO (fun b5=>?_) (hr:=bs4 ..)
  (refine bO [] ?_;refine aX 12 ?_)
  refine aL (sU _ [kJ,leN 2 1,leN 2 (UInt64.ofNat p),leN 2 (UInt64.ofNat t)] (by rw [hfl,hfn];decide) (by simp only [aW,dA];omega)) ?_ (hpre:=fun w2 hs=>RdS.at (T:=50) (fz:=(0,0)) (Hc:=[]) hs rfl (Nat.le_refl _) rfl (uK rfl (Rd.atB (Hc:=[]) (b:=b1) (len:=8) (cap:=8) (T:=5) (fz:=((cbs kJ).length,(cbs kJ).length+1)) kJ hs rfl (Nat.le_refl _)) (Rd.my (Hc:=[]) (T:=5) b2 _ hs (cJ ..)) (Rd.my (Hc:=[]) (T:=5) b3 _ hs (cJ ..)) (Rd.my (Hc:=[]) (T:=5) b4 _ hs (cJ ..))))
  rw [hfl]
  intro v6 H6 h6
  have h61:=h6.isOne
  (refine SL.l [13,14] ?_)
  refine W.k ?_
  refine aL (hpd v6) ?_ (hpre:=fun w2 hs=>Rd.own (Hc:=[]) h6 hs inferInstance)
  rintro _ _ ⟨b7,rfl,rfl⟩
  refine W.k ?_
  refine Fin.to [(b7,cl (cbs (iD p t)) 5)] ?_
  exact F.f2 ⟨b7,rfl,rfl⟩
theorem aMY(v:Value)(x:List UInt8):Tri prog 241 [v] [] (fun w=>Rd [] w 1 v (cbs x)) (fun r H=>r=.bool (decide (x.length≠256))∧H=[]):=by
 refine Tri.mk func241 rfl ntmps241 rfl fun w hw=>?_
 obtain⟨a,la,ca,rfl,hl1,hc1,hr1⟩:=hw.get
 rw [aI,Nat.mul_one] at hl1
 subst hl1
 by_cases h:x.length=256
 ·rw [decide_eq_false (by simp [h])]
  refine W.k ?_
  exact F.f1 ⟨rfl,rfl⟩
 ·rw [decide_eq_true h]
  refine W.k ?_
  exact F.f1 ⟨rfl,rfl⟩
def RB(Ht:Hp)(vs:List Value)(bss:List (List UInt8)):Prop:=vs.length=bss.length∧∀ (i:Nat) (bs:List UInt8),bss[i]?=some bs→∃ v,vs[i]?=some v∧RdH Ht v bs
theorem RB.nil(Ht:Hp):RB Ht [] []:=⟨rfl,fun i bs h=>by simp at h⟩
theorem RB.mono{H H':Hp}{vs:List Value}{bss:List (List UInt8)}(h:RB H vs bss)(hs:∀ x∈H,x∈H'):RB H' vs bss:=⟨h.1,fun i bs hi=>let ⟨v,h1,h2⟩:=h.2 i bs hi;⟨v,h1,h2.mono hs⟩⟩
theorem RB.snoc{H:Hp}{vs:List Value}{bss:List (List UInt8)}{v:Value}{bs:List UInt8}(h:RB H vs bss)(hv:RdH H v bs):RB H (vs++[v]) (bss++[bs]):=⟨by simp [h.1],fun i b hi=>by
 by_cases hl:i<bss.length
 ·rw [aN hl] at hi
  obtain⟨u,h1,h2⟩:=h.2 i b hi
  exact⟨u,by rw [aN (by rw [h.1];exact hl)];exact h1,h2⟩
 ·rw [aS om] at hi
  have h0:i-bss.length=0:=by have:=(aG.1 hi).1;simp at this;omega
  rw [h0] at hi
  cases hi
  exact⟨v,by rw [aS (by rw [h.1];omega),h.1,h0];rfl,hv⟩⟩
theorem RB.set{H:Hp}{vs:List Value}{bss:List (List UInt8)}{v:Value}{bs:List UInt8}(h:RB H vs bss)(hv:RdH H v bs)(k:Nat):RB H (vs.set k v) (bss.set k bs):=⟨by simp [h.1],fun i b hi=>by
 rw [fW] at hi ⊢
 by_cases hk:k=i
 ·rw [if_pos hk] at hi ⊢
  by_cases hl:k<bss.length
  ·rw [if_pos hl] at hi
   cases hi
   exact⟨v,by rw [if_pos (by rw [h.1];exact hl)],hv⟩
  ·rw [if_neg hl] at hi;cases hi
 ·rw [if_neg hk] at hi ⊢
  exact h.2 i b hi⟩
theorem RB.part{H:Hp}{vs:List Value}{bss:List (List UInt8)}(h:RB H vs bss)(a n:Nat):RB H ((vs.drop a).take n) ((bss.drop a).take n):=⟨by simp [h.1],fun i b hi=>by
 rw [bI,bD] at hi ⊢
 by_cases hn:i<n
 ·rw [if_pos hn] at hi ⊢
  exact h.2 _ _ hi
 ·rw [if_neg hn] at hi;cases hi⟩
theorem RB.oc{H:Hp}{vs:List Value}{bss:List (List UInt8)}(h:RB H vs bss):OC vs:=⟨fun u hu=>by
 obtain⟨i,hi⟩:=eE.1 hu
 have hl:i<bss.length:=by have:=(aG.1 hi).1;rw [h.1] at this;exact this
 obtain⟨v,h1,h2⟩:=h.2 i _ (aA hl)
 rw [h1] at hi
 cases hi
 exact h2.one.ok⟩
theorem aM8{Ht:Hp}(v:Value)(vs:List Value)(bss:List (List UInt8))(hB:RB Ht vs bss)(hn:bss.length≤1000000):Tri prog 273 [v,.func (.func 241) #[] #[]] Ht (fun w=>Rd (Ht.map Prod.fst) w 1 v vs)
  (fun r H=>∃ z:Int,r=.int .i64 z∧H=Ht∧(0≤z↔∃ b∈bss,b.length≠256)):=by
 refine Tri.mk func273 rfl ntmps273 rfl fun w hw=>?_
 obtain⟨a,la,ca,rfl,hl1,hc1,hr1⟩:=hw.get
 rw [Nat.mul_one,hB.1] at hl1
 subst hl1
 refine W.k ?_
 refine bN [0,1,7] (fun k:Nat=>[(8,.int .i64 (k:Int))]) (fun _=>Ht) (fun k=>bss.length-k) (fun k=>k≤bss.length∧∀ i b,i<k→bss[i]?=some b→b.length=256) 0 ⟨Nat.zero_le _,fun i b h=>by omega⟩ ?_
 rintro k ⟨hk,hk2⟩
 by_cases h:k<bss.length
 ·obtain⟨bb,o,l,T,fz,rfl,hb,hkK,hy⟩:=hr1 om
  obtain⟨u,hu1,hu2⟩:=hB.2 k _ (aA h)
  have hlu:l[o+k]?=some u:=by
   have h2:((l.drop o).take (bss.length*1))[k]?=vs[k]?:=by rw [hy]
   rw [bI,if_pos om,bD,hu1] at h2
   exact h2
  have hbl:=aA h
  generalize bss[k]=bs at *
  have huo:=hu2.one
  have h1:=aMY u bs
  refine W.k ?_
  refine dH [] rfl rfl rfl rfl rfl rfl h1 (fun w2 hs=>hu2.rd (Hc:=[]) hs) ?_
  rintro _ _ ⟨rfl,rfl⟩
  by_cases h256:bs.length=256
  ·rw [decide_eq_false (by simp [h256])]
   refine W.k ?_
   refine aT.mk (k+1) ?_
   refine⟨h,fun i b hi hib=>?_⟩
   by_cases hik:i=k
   ·subst hik;rw [hbl] at hib;cases hib;exact h256
   ·exact hk2 i b om hib
  ·rw [decide_eq_true h256]
   refine W.k ?_
   refine Fin.to Ht ?_
   exact F.f1 ⟨(k:Int),rfl,rfl,⟨fun _=>⟨bs,aP hbl,h256⟩,fun _=>by omega⟩⟩
 ·have hkn:k=bss.length:=om
  subst hkn
  refine W.k ?_
  refine Fin.to Ht ?_
  refine F.f1 ⟨-1,rfl,rfl,⟨fun h=>by omega,fun⟨b,hb,hne⟩=>?_⟩⟩
  obtain⟨i,hi⟩:=eE.1 hb
  exact absurd (hk2 i b (aG.1 hi).1 hi) hne
theorem aK2{Ht:Hp}(v:Value)(vs:List Value)(bss:List (List UInt8))(hB:RB Ht vs bss)(hn:bss.length≤1000000)(h256:∀ b∈bss,b.length=256):Tri prog 231 [v,.func (.func 241) #[] #[]] Ht (fun w=>Rd (Ht.map Prod.fst) w 1 v vs)
  (fun r H=>r=.bool false∧H=Ht):=by
 refine Tri.mk func231 rfl ntmps231 rfl fun w hw=>?_
 have hv:=hw.isOne
 obtain⟨a,la,ca,rfl,-⟩:=hw.get
 refine W.k ?_
 refine aL (aM8 _ vs bss hB hn) ?_ (hpre:=fun w2 hs=>hw.ro (Hc:=Ht) hs)
 rintro _ Ht ⟨z,rfl,rfl,hz⟩
 have hz2:z<0:=by
  rcases yY z 0 with h|h
  ·exact h
  ·obtain⟨b,hb,hne⟩:=hz.1 h
   exact absurd (h256 b hb) hne
 refine W.k ?_
 refine Fin.to Ht ?_
 exact F.f1 ⟨rfl,rfl⟩
end
section
attribute [local irreducible] SW SL SQ SH SA SS Pu Fin bZ aT SX SJ
theorem aHy{l bs bn kb ko len cap n:Nat}(xs:List Value)(hn:0<n)(hn2:n≤1000000)(hlen:len≤1000000000)(J:Nat→Hp→Prop)(Jx:Hp→Prop)(H0:Hp)(h0:J 0 H0)
  (hY:∀ k Hk,n*k<len→J k Hk→Rnd prog l [.slice (some ⟨kb,ko+n*k*5,none⟩) (min n (len-n*k)) (min n (len-n*k))] Hk (fun w=>Rd (Hk.map Prod.fst) w 5 (.slice (some ⟨kb,ko,none⟩) len cap) xs) (fun v H'=>(v=.bool true∧J (k+1) H')∨(v=.bool false∧Jx H'))) :
  Tri prog 165 [.func (.yield l) #[] #[],.pointer (some ⟨bs,0,none⟩),.pointer (some ⟨bn,0,none⟩)]
   ((bs,cl [.slice (some ⟨kb,ko,none⟩) len cap] 89)::(bn,cl [.int .i64 (n:Int)] 3)::H0)
   (fun w=>Rd (((bs,cl [.slice (some ⟨kb,ko,none⟩) len cap] 89)::(bn,cl [.int .i64 (n:Int)] 3)::H0).map Prod.fst) w 5 (.slice (some ⟨kb,ko,none⟩) len cap) xs)
   (fun v H'=>v=.tuple #[]∧((∃ k,len≤n*k∧n*k<len+n∧J k H')∨Jx H')):=by
 refine Tri.mk func165 rfl ntmps165 rfl fun w hw=>?_
 have hlc:len≤cap:=by
  obtain⟨a,l',c',he,hl,hc,-⟩:=hw.get
  cases he;exact hc
 refine W.j ?_
 refine W.k ?_
 refine bN [0,1,2] (fun s:Nat×Nat×Hp=>[(4,.int .i64 (s.1:Int))]) (fun s=>(bs,cl [.slice (some ⟨kb,ko,none⟩) len cap] 89)::(bn,cl [.int .i64 (n:Int)] 3)::s.2.2) (fun s=>len+n-s.1) (fun s=>s.1=n*s.2.1∧s.1<len+n∧J s.2.1 s.2.2) (0,0,H0) ⟨by simp,by simp;omega,h0⟩ ?_
 rintro⟨i,k,Hk⟩ ⟨hik,hil,hJ⟩
 dsimp only at hik hil hJ ⊢
 by_cases h:i<len
 ·have hci:i<cap:=om
  have hil':i≤len:=om
  refine W.k ?_
  (refine SW.l [] [0,1,2] ?_;refine dL 3 rfl (aB3 rfl rfl rfl om om om) ?_;refine SG.l [4,5,6,7] ?_)
  rw [show min (n:Int) ((len-i:Nat):Int)=((min n (len-i):Nat):Int) by omega]
  obtain⟨m,hm⟩:∃ m,min n (len-i)=m:=⟨_,rfl⟩
  have hm0:0<m:=om
  have hml:i+m≤len:=om
  rw [hm]
  refine nO ?_
  refine aFE (yC (SJ.cut 10 ?_))
  refine W.i ?_
  refine bJ (aJJ (l:=i) (h:=i+m) (c:=ko+i*5) rfl rfl rfl rfl rfl rfl om om om om om) rfl rfl ?_
  refine iC ?_
  have hY':=hY k Hk om hJ
  rw [← hik,hm] at hY'
  rw [show i+m-i=m by omega]
  refine SJ.yield Hk rfl rfl rfl rfl rfl hY' (fun w2 hs=>hw.ro (Hc:=Hk) hs) ?_
  rintro _ H' (⟨rfl,hJ'⟩|⟨rfl,hJx⟩)
  ·refine SJ.all ?_
   refine W.k ?_
   rw [show (i:Int)+(n:Int)=((i+n:Nat):Int) by omega]
   refine aT.mk (i+n,k+1,H') ?_
   exact⟨by dsimp only;rw [hik,zB],by dsimp only;omega,hJ'⟩
  ·refine SJ.all ?_
   refine W.k ?_
   refine Fin.to H' ?_
   exact F.f0 ⟨rfl,.inr hJx⟩
 ·refine W.k ?_
  refine Fin.to Hk ?_
  exact F.f0 ⟨rfl,.inl ⟨k,by omega,by omega,hJ⟩⟩
theorem aIM{kv:Value} [One kv]{n:Nat}(hn:0<n):Tri prog 93 [kv,.int .i64 (n:Int)] [] (fun _=>True)
  (fun v H=>∃ bs bn,v=.func (.func 165) #[] #[.pointer (some ⟨bs,0,none⟩),.pointer (some ⟨bn,0,none⟩)]∧H=[(bs,cl [kv] 89),(bn,cl [.int .i64 (n:Int)] 3)]):=by
 refine Tri.mk func93 rfl ntmps93 rfl fun w hw=>?_
 refine W.k fun _ b_=>?_
 rename_i bs
 refine Fin.to [(bs,cl [kv] 89),(b_,cl [.int .i64 (n:Int)] 3)] ?_
 exact F.f1 ⟨bs,b_,rfl,rfl⟩
end
end Go.Proofs.YtnigolgkkjidiaaGreat
