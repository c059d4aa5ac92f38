/- The document's blocks that are not hidden. -/
import Derived.Test.YtdfclocfackkmaaGreatPm22
import Derived.Test.YtdfclocfackkmaaGreatPm18
set_option linter.unusedVariables false
set_option linter.unusedSimpArgs false
set_option linter.unusedSectionVars false
set_option maxHeartbeats 2000000
namespace Go.Proofs.YtdfclocfackkmaaGreat
open Go Go.Proofs.Tryz
section
attribute [local irreducible] SW SL SQ SH SA SS Pu Fin bS aN
theorem aGk{p t:Nat}(h:Gm.Ok p t):Tri prog 119 [kM p t] [] NT (fun v H=>Sl 5 1 v (cbs (iC p t)) H):=by
 refine Tri.mt func119 ntmps119 fun w hw=>?_;obtain⟨h1,h2,h3,h4⟩:=h;have hfl:kC++[1,0,UInt8.ofNat p,0,UInt8.ofNat t,0]=kC++leN 2 1++leN 2 (UInt64.ofNat p)++leN 2 (UInt64.ofNat t):=by
  have e:∀ n:Nat,n<=64->leN 2 (UInt64.ofNat n)=[UInt8.ofNat n,0]:=fun n hn=>by
   have hN:(UInt64.ofNat n).toNat=n:=by rw [aU];omega
   show [byU (UInt64.ofNat n) 0,byU (UInt64.ofNat n) 1]=_;rw [aAV _ oQ,aAV _ oQ,hN,uA,Nat.div_one,Nat.pow_one,sW oQ];rfl
  rw [e p oQ,e t oQ,show leN 2 1=[1,0] from rfl];simp
 have hpd:=fun v=>aK1 v (kC++[1,0,UInt8.ofNat p,0,UInt8.ofNat t,0]) 256 dQ;rw [show pad 256 (kC++[1,0,UInt8.ofNat p,0,UInt8.ofNat t,0])=iC p t by rw [hfl];rfl] at hpd;have hb6:bV (fun i=>some (i*1,1)) (zs [Value.int .u8 0] 6) [(0,.int .u8 1),(1,.int .u8 0),(2,.int .u8 ((UInt8.ofNat p).toNat:Int)),(3,.int .u8 0),(4,.int .u8 ((UInt8.ofNat t).toNat:Int)),(5,.int .u8 0)]=some (cbs [1,0,UInt8.ofNat p,0,UInt8.ofNat t,0]):=rfl;have hbM:=bsM;refine W.k fun _ _ b_=>?_;have hml:(cbs kC).length=8:=rfl;rename_i bg bm;refine aNg (xs:=cbs kC) (ys:=cbs [1,0,UInt8.ofNat p,0,UInt8.ofNat t,0]) (mm:=6) (fun w2 hs=>(Rd.atB (K:=[]) (Hc:=[]) (b:=bm) (len:=8) (cap:=8) (T:=5) (fz:=((cbs kC).length,(cbs kC).length+1)) kC hs rfl (Nat.le_refl _)).srcW) (fun w2 hs=>(Sl.own 5 1 b_ (len:=6) (xs:=cbs [1,0,UInt8.ofNat p,0,UInt8.ofNat t,0]) rfl).srcAt hs inferInstance) (fun v3 H3 h3=>?_) (hxs:=rfl) (hys:=rfl) (hbytes:=by rw [aI,aI];simp [kC]);have h31:=h3.isOne;rw [<-iW] at h3;refine W.k ?_;refine aF (hpd v3) ?_ (hpre:=fun w2 hs=>Rd.own (Hc:=[]) h3 hs inferInstance);intro v4 H4 h4;have h41:=h4.isOne;refine W.k ?_;refine Fin.to H4 ?_;exact F.f1 h4
def vN(bss:LL)(k:Nat):UInt64:=zA (((bss.getD (k/32) []).drop (8*(k%32))).take 8)
theorem aKZ{Ht:Hp}(v:Value)(vs:LV)(bss:LL)(hB:RB Ht vs bss)(h256:∀ b∈bss,b.length=256)(k:Nat)(hk:k<32*bss.length)(hk2:k<=1000000):Tri prog 141 [v,.int .i64 (k:Int)] Ht (fun w=>Rd (Ht.map Prod.fst) w 1 v vs) (fun r H=>r=dZ (vN bss k)/\H=Ht):=by
 refine Tri.mt func141 ntmps141 fun w hw=>?_;obtain⟨a,la,ca,rfl,hl1,hc1,hr1⟩:=hw.get;rw [Nat.mul_one,hB.1] at hl1;subst hl1;have hj:k/32<bss.length:=oQ;obtain⟨bb,o,l,T,fz,rfl,hb,hkK,hy⟩:=hr1 oQ;obtain⟨u,hu1,hu2⟩:=hB.2 (k/32) _ (aA hj);have hl256:bss[k/32].length=256:=h256 _ (dG hj);have hlu:l[o+k/32]?=some u:=by
  have h2:((l.drop o).take (bss.length*1))[k/32]?=vs[k/32]?:=by rw [hy]
  rw [bD,if_pos oQ,bH,hu1] at h2;exact h2
 have hep:dZ (vN bss k)=.int .u64 ((jR ((bss[k/32].drop (8*(k%32))).take 8):Nat):Int):=by unfold vN dZ;rw [aE,aA hj,Option.getD_some,aAh]
 rw [hep];generalize bss[k/32]=bs at *;have huo:=hu2.one;have hu3:=hu2;obtain⟨ua,ul,uc,rfl,-⟩:=hu3;have hul:=hu2.len;have hcut:=hu2.cut uc (8*(k%32)) (8*(k%32)+8) (uc-8*(k%32)) oQ oQ oQ oQ;rw [show 8*(k%32)+8-8*(k%32)=8 by omega] at hcut;have hco:=hcut.one;have hgt:=aEO (.slice (lI ua uc (8*(k%32)) 1) 8 (uc-8*(k%32))) ((bs.drop (8*(k%32))).take 8) (by rw [aH];omega);haveI i1:eB (8*((k:Int)%32)) (8*(k%32)):=⟨oQ⟩;haveI i2:eB (8*((k:Int)%32)+8) (8*(k%32)+8):=⟨oQ⟩;refine W.k ?_;refine W.sG ?_ (i0:=i1) (i1:=i2);rw [show 8*(k%32)+8-8*(k%32)=8 by omega];refine W.k ?_;refine W.cw hgt ?_ (hpre:=fun w2 hs=>hcut.rd (Hc:=[]) hs);refine Fin.to Ht ?_;exact F.f1 ⟨rfl,rfl⟩
theorem aKf(k:Nat)(es:List UInt64):(List.range 32).flatMap (fun i=>leN 8 (es.getD (32*k+i) 0))=epB k es:=by
 have hz:leN 8 0=List.replicate 8 0:=rfl;have e:∀ (n:Nat) (fs:List UInt64),(List.range n).flatMap (fun i=>leN 8 (fs.getD i 0))=(fs.take n).flatMap (leN 8)++List.replicate (8*(n-fs.length)) 0:=by
  intro n;induction n with
  | zero=>intro fs;simp
  | succ n ih=>
   intro fs
   rw [bT,cP,ih]
   by_cases h:n<fs.length
   ·have g:fs.getD n 0=fs[n]:=by rw [aE,aA h];rfl
    rw [show n-fs.length=0 by omega,show n+1-fs.length=0 by omega,aY,aA h,cP,List.flatMap_singleton,g]
    simp
   ·rw [aK (show fs.length<=n by omega),aK (show fs.length<=n+1 by omega),aT]
    congr 1
    rw [List.flatMap_singleton,aE,bF oQ,Option.getD_none,hz,gG]
    congr 1;omega
 have hfm:∀ l:List UInt64,(l.flatMap (leN 8)).length=8*l.length:=fun l=>by
  induction l with
  | nil=>rfl
  | cons x r ih=>rw [dE,aB,ih,dV];simp;omega
 have h1:=e 32 (es.drop (32*k));have h2:(fun i=>leN 8 ((es.drop (32*k)).getD i 0))=fun i=>leN 8 (es.getD (32*k+i) 0):=by funext i;rw [aE,bH,<-aE]
 rw [h2] at h1;rw [h1];unfold epB;rw [aDM (by rw [hfm,aH];omega),hfm,aH];congr 2;omega
theorem aAu(k:Nat)(hk:k<=1000)(v:Value)(es:List UInt64):Tri prog 67 [.int .i64 (k:Int),v] [] (fun w=>Rd [] w 1 v (uv es)) (fun r H=>Sl 5 1 r (cbs (epB k es)) H):=by
 refine Tri.mt func67 ntmps67 fun w hw=>?_;obtain⟨a,la,ca,rfl,hl1,hc1,hr1⟩:=hw.get;rw [Nat.mul_one,eN] at hl1;subst hl1;have hY:One (Value.slice a es.length ca):=⟨rfl⟩;rw [<-aKf];have hrl:∀ j,((List.range j).flatMap (fun i=>leN 8 (es.getD (32*k+i) 0))).length=8*j:=fun j=>by
  induction j with
  | zero=>rfl
  | succ j ih=>rw [bT,cP,aB,ih];simp [dV];omega
 refine W.j ?_;refine bP [] [] (fun x:Value×Hp=>[(5,x.1)]) (fun x=>x.2) (fun y=>Sl 5 1 y.1 (cbs ((List.range 32).flatMap (fun i=>leN 8 (es.getD (32*k+i) 0)))) y.2) ?_ ?_
 ·refine W.k ?_;refine bE [0,1] (fun x:Nat×Value×Hp=>[(5,x.2.1),(6,.int .i64 (32*(k:Int)+(x.1:Int)))]) (fun x=>x.2.2) (fun x=>32-x.1) (fun y=>y.1<=32/\Sl 5 1 y.2.1 (cbs ((List.range y.1).flatMap (fun i=>leN 8 (es.getD (32*k+i) 0)))) y.2.2) (0,.slice none 0 0,[]) ⟨Nat.zero_le _,Sl.nil _ _⟩ ?_ (hr:=⟨rfl,by show _=some (Value.int .i64 (32*(k:Int)+((0:Nat):Int)));rw [show 32*(k:Int)+((0:Nat):Int)=32*(k:Int) by omega];rfl,trivial⟩);rintro⟨j,v2,H2⟩ ⟨hj,h2⟩;dsimp only at hj h2 |-;have h21:=h2.isOne;have hjl:=hrl j;by_cases hj32:j<32
  ·have hts:(List.range (j+1)).flatMap (fun i=>leN 8 (es.getD (32*k+i) 0))=(List.range j).flatMap (fun i=>leN 8 (es.getD (32*k+i) 0))++leN 8 (es.getD (32*k+j) 0):=by rw [bT,cP];simp
   by_cases hjx:32*k+j<es.length;case' pos=>
    obtain⟨bb,o,l,T,fz,rfl,hb,hkK,hy⟩:=hr1 oQ;have hlu:l[o+(32*k+j)]?=some (dZ (es.getD (32*k+j) 0)):=by
     have h2:((l.drop o).take (es.length*1))[32*k+j]?=(uv es)[32*k+j]?:=by rw [hy]
     rw [bD,if_pos oQ,bH,aD2 hjx] at h2;exact h2
    haveI i0:eB (32*(k:Int)+(j:Int)) (32*k+j):=⟨oQ⟩;have hp8:=wS 8 (es.getD (32*k+j) 0) oQ
   case' neg=>
    have gx:es.getD (32*k+j) 0=0:=by rw [aE,bF oQ];rfl
    have hp8:=wS 8 (es.getD (32*k+j) 0) oQ;rw [show dZ (es.getD (32*k+j) 0)=.int .u64 0 by rw [gx];rfl] at hp8
   all_goals
    generalize es.getD (32*k+j) 0=e at *;refine W.k ?_;refine aF hp8 ?_;intro v5 H5 h5;have h51:=h5.isOne;obtain⟨a5,l5,c5,rfl,hl5⟩:=h5.form;rw [aI,dV] at hl5;have hl58:l5=8:=oQ;subst hl58;refine W.ap h2 (ys:=cbs (leN 8 e)) (mm:=8) (fun w2 hs=>h5.srcAt hs inferInstance) (fun v3 H3 h3=>?_) (hys:=by rw [aI,dV]) (hbytes:=by rw [aI,hjl,aI,dV];omega);have h31:=h3.isOne;rw [<-iW,<-hts] at h3;refine W.k ?_;rw [show 32*(k:Int)+(j:Int)+1=32*(k:Int)+((j+1:Nat):Int) by omega];refine aN.mk (j+1,v3,H3) ?_;exact⟨hj32,h3⟩
  have:j=32:=oQ;subst this;refine W.k ?_;refine bS.mk (v2,H2) ?_;exact h2
 rintro⟨v2,H2⟩ h2;dsimp only at h2 |-;have h21:=h2.isOne;refine W.k ?_;refine Fin.to H2 ?_;exact F.f1 h2
theorem aJd{p t:Nat}(h:Gm.Ok p t)(v:Value)(es:List UInt64):Tri prog 120 [kM p t,v] [] (fun w=>Rd [] w 1 v (uv es)) (fun r H=>∃ vs Hv Ht,Sl 31 1 r vs Hv/\RB Ht vs ((List.range (Gm.epochs p)).map fun k=>epB k es)/\H=Hv++Ht):=by
 refine Tri.mt func120 ntmps120 fun w hw=>?_;have hep:=zG h;have hel:=Gm.epochs_le h;have hv1:=hw.isOne;obtain⟨a,la,ca,rfl,-⟩:=hw.get;generalize Gm.epochs p=n at *;refine W.j fun b_=>?_;refine bP [] [] (fun x:Value×LV×Hp×Hp=>[(5,x.1)]) (fun x=>x.2.2.1++x.2.2.2) (fun y=>Sl 31 1 y.1 y.2.1 y.2.2.1/\RB y.2.2.2 y.2.1 ((List.range n).map fun k=>epB k es)) ?_ ?_
 ·refine W.k ?_;refine bE [1,2] (fun x:Nat×Value×LV×Hp×Hp=>[(5,x.2.1),(6,.int .i64 (x.1:Int))]) (fun x=>(b_,cl (yY p t) 28)::(x.2.2.2.1++x.2.2.2.2)) (fun x=>n-x.1) (fun y=>y.1<=n/\Sl 31 1 y.2.1 y.2.2.1 y.2.2.2.1/\RB y.2.2.2.2 y.2.2.1 ((List.range y.1).map fun k=>epB k es)) (0,.slice none 0 0,[],[],[]) ⟨Nat.zero_le _,Sl.nil _ _,RB.nil _⟩ ?_;rintro⟨j,v2,vs,H2,Ht⟩ ⟨hj,h2,hB⟩;dsimp only at hj h2 hB |-;have h21:=h2.isOne;have hvl:vs.length=j:=by rw [hB.1];simp
  by_cases hjn:j<n
  ·refine W.k ?_;refine W.cw hep ?_;refine aF (aAu j oQ (.slice a la ca) es) ?_ (hpre:=fun w2 hs=>hw.ro (Hc:=[]) hs);intro v5 H5 h5;have h51:=h5.isOne;obtain⟨a5,l5,c5,rfl,-⟩:=h5.form;have hb17:bV (fun i=>some (i*1,1)) (zs [.slice none 0 0] 1) [(0,.slice a5 l5 c5)]=some [.slice a5 l5 c5]:=rfl;refine W.k fun b_=>?_;refine W.ap h2 (ys:=[.slice a5 l5 c5]) (mm:=1) (fun w2 hs=>(Sl.own 31 1 b_ (xs:=[.slice a5 l5 c5]) rfl).srcAt hs inferInstance) (fun v3 H3 h3=>?_) (hys:=rfl) (hbytes:=by rw [hvl];simp;omega);have h31:=h3.isOne;refine W.k ?_;refine aN.mk (j+1,v3,vs++[.slice a5 l5 c5],H3,H5++Ht) ?_;refine⟨hjn,h3,?_⟩;show RB _ _ ((List.range (j+1)).map fun k=>epB k es);rw [bT,aZ];exact (hB.mono fun x hx=>aM _ hx).snoc ((RdH.of h5).mono fun x hx=>aO _ hx)
  have:j=n:=oQ;subst this;refine W.k ?_;refine W.cw hep ?_;refine bS.mk (v2,vs,H2,Ht) ?_;exact⟨h2,hB⟩
 rintro⟨v2,vs,H2,Ht⟩ ⟨h2,hB⟩;dsimp only at h2 hB |-;have h21:=h2.isOne;refine W.k ?_;refine Fin.to (H2++Ht) ?_;exact F.f1 ⟨vs,H2,Ht,h2,hB,rfl⟩
end
abbrev Ent:=Int×LB
def lO(c:UInt64)(l:List Ent):LB:=pad 256 ([82,69,68,79,45,76,79,71]++leN 8 c++leN 2 (UInt64.ofNat l.length)++l.flatMap fun x=>leN 2 (UInt64.ofInt x.1))
theorem xE(c:UInt64)(l:List Ent):(lO c l).length=256:=aBZ _ _
def nE(p:Nat):Int->List Ent->Bool
 | _,[]=>true
 | last,x::r=>decide (last<x.1/\x.1<(Gm.sealed p:Nat)/\x.2.length=256)&&nE p x.1 r
def iY(p t:Nat)(l:List Ent):Bool:=decide (1<=l.length/\l.length<=t)&&nE p (-1) l
def jC(h:LB)(logs:LL)(n:Nat):List Ent:=(List.range n).map fun k=>((jR ((h.drop (18+2*k)).take 2):Nat),logs.getD (1+k) [])
def nN(p t:Nat)(logs:LL):Option (UInt64×List Ent):=
 let h:=logs.getD 0 []
 let n:=jR ((h.drop 16).take 2)
 let c:=zA ((h.drop 8).take 8)
 if n<=t/\iY p t (jC h logs n)=true/\lO c (jC h logs n)=h then some (c,jC h logs n) else none
def vM(o:List Nat)(x:Ent):List Nat:=if x.1.toNat/32∈o then o else o++[x.1.toNat/32]
def dA(l:List Ent):List Nat:=l.foldl vM []
def gF(l:LL):LL:=l.mapIdx fun k b=>Sha.sum (fV k b)
def sM(l:LL):LL:=l.mapIdx fun k b=>fV k b
def gE(l:LL):LB:=fN (gF l)
theorem lB(l:LL):(gF l).length=l.length:=by unfold gF;simp
theorem qN(l:LL):D32 (gF l):=fun x hx=>by
 unfold gF at hx
 obtain⟨i,h,rfl⟩:=List.mem_mapIdx.1 hx
 exact Sha.sum_len _
def lC(p t:Nat)(root:LB)(l:LL):Bool:=decide (gE l=root)&&decide (iC p t=l.getD 0 [])
def nZ(p:Nat)(l:LL):List UInt64:=(List.range (Gm.sealed p)).map (vN ((l.drop 1).take (Gm.epochs p)))
def eD(c:UInt64)(es:List UInt64)(l:List Ent):List UInt64:=l.foldl (fun e x=>e.set x.1.toNat c) es
def qX(p:Nat)(m:LL)(l:List Ent):LL:=l.foldl (fun m x=>m.set (1+Gm.epochs p+x.1.toNat) x.2) m
def rR(es:List UInt64)(m:LL)(ts:List Nat):LL:=ts.foldl (fun m t=>m.set (1+t) (epB t es)) m
def qH(p:Nat)(c:UInt64)(l:List Ent)(m:LL):LL:=rR (eD c (nZ p m) l) (qX p m l) (dA l)
def uJ(p t:Nat)(r:Rg)(l logs:LL):Nat×LL:=
 if lC p t r.root l=true then (1,l) else
 match nN p t logs with
 | some (c,es)=>if (c.toNat:Int)=r.c/\lC p t r.root (qH p c es l)=true then (2,qH p c es l) else (3,l)
 | none=>(3,l)
abbrev DS:=Dv->Int×Dv
def DS.and(a b:DS):DS:=fun C=>if (a C).1=0 then b (a C).2 else a C
def stS(x:Nat)(bs:LB):DS:=fun C=>(C.actR x bs.length,C.store x bs)
def flS(x n:Nat):DS:=fun C=>(C.actR x n,C.flush x n)
def feS:DS:=fun C=>(C.actR 0 0,C.fence)
def fM(k:Nat)(bs:LB):DS:=(stS (256*k) bs).and (flS (256*k) bs.length)
def putL:List (Nat×LB)->DS
 | []=>fun C=>(0,C)
 | x::r=>(fM x.1 x.2).and (putL r)
def fU(k n:Nat):DS:=(fM k (List.replicate (256*n) 0)).and feS
theorem qG(a b:List (Nat×LB)):putL (a++b)=(putL a).and (putL b):=by
 induction a with
 | nil=>funext C;simp [putL,DS.and]
 | cons x r ih=>
  funext C
  rw [dX,putL,putL,ih]
  unfold DS.and
  by_cases h:(fM x.1 x.2 C).1=0
  ·simp only [h,if_true]
  ·simp only [h,if_false]
def gB(k:Nat)(l:LL):List (Nat×LB):=l.mapIdx fun i b=>(k+i,b)
abbrev TS:=Dv×Rg->Int×(Dv×Rg)
def TS.and(a b:TS):TS:=fun C=>if (a C).1=0 then b (a C).2 else a C
def DS.t(a:DS):TS:=fun C=>((a C.1).1,(a C.1).2,C.2)
def jX(r':Rg):TS:=fun C=>(qL C.1 C.2 r',qK C.1 C.2 r',oM C.1 C.2 r')
def gA:TS:=fun C=>jX { C.2 with c:=C.2.c+1 } C
def iI(p t:Nat)(X:UInt64->Nat->LB->LB)(e:UInt64):LL:=
 iC p t::((List.range (Gm.epochs p)).map (fun k=>epB k (List.replicate (Gm.sealed p) e))++(List.range (Gm.sealed p)).map fun k=>X e k (List.replicate 256 0))
def iP(l:LL):DS:=(putL (gB 0 l)).and feS
def bX(p t:Nat)(l:LL):DS:=(iP l).and (fU (Gm.leaves p) (1+t))
def aDg(l:LL):TS:=fun x=>jX ⟨x.2.c+1,gE l⟩ x
def kJ(p t:Nat)(X:UInt64->Nat->LB->LB):TS:=fun C=>
 if 18446744073709551613<C.2.c then (21,C) else
 (gA.and ((bX p t (iI p t X (UInt64.ofNat (C.2.c+2).toNat))).t.and (aDg (iI p t X (UInt64.ofNat (C.2.c+2).toNat))))) C
def Dv.blks(C:Dv)(a n:Nat):LL:=(List.range n).map fun k=>C.blk (a+k)
def eW(p t:Nat)(C:Dv)(r:Rg):Nat×LL:=uJ p t r (C.blks 0 (Gm.leaves p)) (C.blks (Gm.leaves p) (1+t))
def fF(p t:Nat)(w:Bool)(C:Dv×Rg):(Int×(Dv×Rg)):=
 if w=true/\C.2.c=18446744073709551615 then (21,C) else
 if C.1.down=true then (8,C) else
 if (eW p t C.1 C.2).1=3 then (20,C) else
 ((bX p t (eW p t C.1 C.2).2).t.and (if w=true then gA else fun C=>(0,C))) C
end Go.Proofs.YtdfclocfackkmaaGreat
