/- The document's blocks that are not hidden. -/
import Derived.Test.YtnhnpjokpelkbaaGreatPs21
import Derived.Test.YtnhnpjokpelkbaaGreatPs14
import Derived.Test.YtnhnpjokpelkbaaGreatPs17
set_option linter.unusedVariables false
set_option linter.unusedSimpArgs false
set_option linter.unusedSectionVars false
set_option maxHeartbeats 2000000
namespace Go.Proofs.YtnhnpjokpelkbaaGreat
open Go Go.Proofs.Tryz
section
attribute [local irreducible] SW SL SQ SH SA SS Pu Fin bZ aQ
theorem aFG{p t:Nat}(h:Gm.Ok p t):Tri prog 188 [kP p t] [] (fun _=>True) (fun v H=>Sl 5 1 v (cbs (iB p t)) H):=by
 refine Tri.mk func188 rfl ntmps188 rfl fun w hw=>?_
 obtain⟨h1,h2,h3,h4⟩:=h
 have hfl:kC++[1,0,UInt8.ofNat p,0,UInt8.ofNat t,0]=kC++leN 2 1++leN 2 (UInt64.ofNat p)++leN 2 (UInt64.ofNat t):=by
  have e:∀ n:Nat,n≤64→leN 2 (UInt64.ofNat n)=[UInt8.ofNat n,0]:=fun n hn=>by
   have hN:(UInt64.ofNat n).toNat=n:=by rw [bC];omega
   show [byU (UInt64.ofNat n) 0,byU (UInt64.ofNat n) 1]=_
   rw [aA8 _ oQ,aA8 _ oQ,hN,uZ,Nat.div_one,Nat.pow_one,tT oQ]
   rfl
  rw [e p oQ,e t oQ,show leN 2 1=[1,0] from rfl]
  simp
 have hpd:=fun v=>aKy v (kC++[1,0,UInt8.ofNat p,0,UInt8.ofNat t,0]) 256 dQ
 rw [show pad 256 (kC++[1,0,UInt8.ofNat p,0,UInt8.ofNat t,0])=iB p t by rw [hfl];rfl] at hpd
 have hb6:bS (fun i=>some (i*1,1)) (zs [Value.int .u8 0] 6) [(0,.int .u8 1),(1,.int .u8 0),(2,.int .u8 ((UInt8.ofNat p).toNat:Int)),(3,.int .u8 0),(4,.int .u8 ((UInt8.ofNat t).toNat:Int)),(5,.int .u8 0)]=some (cbs [1,0,UInt8.ofNat p,0,UInt8.ofNat t,0]):=rfl
 have hbM:=bsM
 refine W.k fun _ _ b_=>?_
 have hml:(cbs kC).length=8:=rfl
 rename_i bg bm
 refine aMM (xs:=cbs kC) (ys:=cbs [1,0,UInt8.ofNat p,0,UInt8.ofNat t,0]) (mm:=6) (fun w2 hs=>(Rd.atB (K:=[]) (Hc:=[]) (b:=bm) (len:=8) (cap:=8) (T:=5) (fz:=((cbs kC).length,(cbs kC).length+1)) kC hs rfl (Nat.le_refl _)).srcW) (fun w2 hs=>(Sl.own 5 1 b_ (len:=6) (xs:=cbs [1,0,UInt8.ofNat p,0,UInt8.ofNat t,0]) rfl).srcAt hs inferInstance) (fun v3 H3 h3=>?_) (hxs:=rfl) (hys:=rfl) (hbytes:=by rw [aI,aI];simp [kC])
 have h31:=h3.isOne
 rw [← jE] at h3
 refine W.k ?_
 refine aG (hpd v3) ?_ (hpre:=fun w2 hs=>Rd.own (Hc:=[]) h3 hs inferInstance)
 intro v4 H4 h4
 have h41:=h4.isOne
 refine W.k ?_
 refine Fin.to H4 ?_
 exact F.f1 h4
def tX(bss:List (List UInt8))(k:Nat):UInt64:=zM (((bss.getD (k/32) []).drop (8*(k%32))).take 8)
theorem aKx{Ht:Hp}(v:Value)(vs:List Value)(bss:List (List UInt8))(hB:RB Ht vs bss)(h256:∀ b∈bss,b.length=256)(k:Nat)(hk:k<32*bss.length)(hk2:k≤1000000):Tri prog 242 [v,.int .i64 (k:Int)] Ht (fun w=>Rd (Ht.map Prod.fst) w 1 v vs)
  (fun r H=>r=eX (tX bss k)∧H=Ht):=by
 refine Tri.mk func242 rfl ntmps242 rfl fun w hw=>?_
 obtain⟨a,la,ca,rfl,hl1,hc1,hr1⟩:=hw.get
 rw [Nat.mul_one,hB.1] at hl1
 subst hl1
 have hj:k/32<bss.length:=oQ
 obtain⟨bb,o,l,T,fz,rfl,hb,hkK,hy⟩:=hr1 oQ
 obtain⟨u,hu1,hu2⟩:=hB.2 (k/32) _ (aA hj)
 have hl256:bss[k/32].length=256:=h256 _ (cP hj)
 have hlu:l[o+k/32]?=some u:=by
  have h2:((l.drop o).take (bss.length*1))[k/32]?=vs[k/32]?:=by rw [hy]
  rw [bI,if_pos oQ,bH,hu1] at h2
  exact h2
 have hep:eX (tX bss k)=.int .u64 ((jS ((bss[k/32].drop (8*(k%32))).take 8):Nat):Int):=by
  unfold tX eX
  rw [aC,aA hj,Option.getD_some,aAq]
 rw [hep]
 generalize bss[k/32]=bs at *
 have huo:=hu2.one
 have hu3:=hu2
 obtain⟨ua,ul,uc,rfl,-⟩:=hu3
 have hul:=hu2.len
 have hcut:=hu2.cut uc (8*(k%32)) (8*(k%32)+8) (uc-8*(k%32)) oQ oQ oQ oQ
 rw [show 8*(k%32)+8-8*(k%32)=8 by omega] at hcut
 have hco:=hcut.one
 have hgt:=aEm (.slice (lO ua uc (8*(k%32)) 1) 8 (uc-8*(k%32))) ((bs.drop (8*(k%32))).take 8) (by rw [aK];omega)
 haveI i1:eC (8*((k:Int)%32)) (8*(k%32)):=⟨by omega⟩
 haveI i2:eC (8*((k:Int)%32)+8) (8*(k%32)+8):=⟨by omega⟩
 refine W.k ?_
 refine W.sG ?_ (i0:=i1) (i1:=i2)
 rw [show 8*(k%32)+8-8*(k%32)=8 by omega]
 refine W.k ?_
 refine W.cw hgt ?_ (hpre:=fun w2 hs=>hcut.rd (Hc:=[]) hs)
 refine Fin.to Ht ?_
 exact F.f1 ⟨rfl,rfl⟩
theorem aJN(k:Nat)(es:List UInt64):(List.range 32).flatMap (fun i=>leN 8 (es.getD (32*k+i) 0))=epB k es:=by
 have hz:leN 8 0=List.replicate 8 0:=rfl
 have e:∀ (n:Nat) (fs:List UInt64),(List.range n).flatMap (fun i=>leN 8 (fs.getD i 0))=(fs.take n).flatMap (leN 8)++List.replicate (8*(n-fs.length)) 0:=by
  intro n
  induction n with
  | zero=>intro fs;simp
  | succ n ih=>
   intro fs
   rw [bR,cY,ih]
   by_cases h:n<fs.length
   ·have g:fs.getD n 0=fs[n]:=by rw [aC,aA h];rfl
    rw [show n-fs.length=0 by omega,show n+1-fs.length=0 by omega,bA,aA h,cY,List.flatMap_singleton,g]
    simp
   ·rw [aJ (show fs.length≤n by omega),aJ (show fs.length≤n+1 by omega),aV]
    congr 1
    rw [List.flatMap_singleton,aC,aZ oQ,Option.getD_none,hz,gL]
    congr 1;omega
 have hfm:∀ l:List UInt64,(l.flatMap (leN 8)).length=8*l.length:=fun l=>by
  induction l with
  | nil=>rfl
  | cons x r ih=>rw [dE,aB,ih,dY];simp;omega
 have h1:=e 32 (es.drop (32*k))
 have h2:(fun i=>leN 8 ((es.drop (32*k)).getD i 0))=fun i=>leN 8 (es.getD (32*k+i) 0):=by
  funext i
  rw [aC,bH,← aC]
 rw [h2] at h1
 rw [h1]
 unfold epB
 rw [aDF (by rw [hfm,aK];omega),hfm,aK]
 congr 2
 omega
theorem aFF(k:Nat)(hk:k≤1000)(v:Value)(es:List UInt64):Tri prog 204 [.int .i64 (k:Int),v] [] (fun w=>Rd [] w 1 v (uv es)) (fun r H=>Sl 5 1 r (cbs (epB k es)) H):=by
 refine Tri.mk func204 rfl ntmps204 rfl fun w hw=>?_
 obtain⟨a,la,ca,rfl,hl1,hc1,hr1⟩:=hw.get
 rw [Nat.mul_one,iE] at hl1
 subst hl1
 have hY:One (Value.slice a es.length ca):=⟨rfl⟩
 rw [← aJN]
 have hrl:∀ j,((List.range j).flatMap (fun i=>leN 8 (es.getD (32*k+i) 0))).length=8*j:=fun j=>by
  induction j with
  | zero=>rfl
  | succ j ih=>rw [bR,cY,aB,ih];simp [dY];omega
 refine W.j ?_
 refine bW [] [] (fun x:Value×Hp=>[(5,x.1)]) (fun x=>x.2) (fun y=>Sl 5 1 y.1 (cbs ((List.range 32).flatMap (fun i=>leN 8 (es.getD (32*k+i) 0)))) y.2) ?_ ?_
 ·refine W.k ?_
  refine bF [0,1] (fun x:Nat×Value×Hp=>[(5,x.2.1),(6,.int .i64 (32*(k:Int)+(x.1:Int)))]) (fun x=>x.2.2) (fun x=>32-x.1) (fun y=>y.1≤32∧Sl 5 1 y.2.1 (cbs ((List.range y.1).flatMap (fun i=>leN 8 (es.getD (32*k+i) 0)))) y.2.2) (0,.slice none 0 0,[]) ⟨Nat.zero_le _,Sl.nil _ _⟩ ?_ (hr:=⟨rfl,by show _=some (Value.int .i64 (32*(k:Int)+((0:Nat):Int)));rw [show 32*(k:Int)+((0:Nat):Int)=32*(k:Int) by omega];rfl,trivial⟩)
  rintro⟨j,v2,H2⟩ ⟨hj,h2⟩
  dsimp only at hj h2 ⊢
  have h21:=h2.isOne
  have hjl:=hrl j
  by_cases hj32:j<32
  ·have hts:(List.range (j+1)).flatMap (fun i=>leN 8 (es.getD (32*k+i) 0))=(List.range j).flatMap (fun i=>leN 8 (es.getD (32*k+i) 0))++leN 8 (es.getD (32*k+j) 0):=by rw [bR,cY];simp
   by_cases hjx:32*k+j<es.length
   case' pos=>
    obtain⟨bb,o,l,T,fz,rfl,hb,hkK,hy⟩:=hr1 oQ
    have hlu:l[o+(32*k+j)]?=some (eX (es.getD (32*k+j) 0)):=by
     have h2:((l.drop o).take (es.length*1))[32*k+j]?=(uv es)[32*k+j]?:=by rw [hy]
     rw [bI,if_pos oQ,bH,aK8 hjx] at h2
     exact h2
    haveI i0:eC (32*(k:Int)+(j:Int)) (32*k+j):=⟨by omega⟩
    have hp8:=xG 8 (es.getD (32*k+j) 0) oQ
   case' neg=>
    have gx:es.getD (32*k+j) 0=0:=by rw [aC,aZ oQ];rfl
    have hp8:=xG 8 (es.getD (32*k+j) 0) oQ
    rw [show eX (es.getD (32*k+j) 0)=.int .u64 0 by rw [gx];rfl] at hp8
   all_goals
    generalize es.getD (32*k+j) 0=e at *
    refine W.k ?_
    refine aG hp8 ?_
    intro v5 H5 h5
    have h51:=h5.isOne
    obtain⟨a5,l5,c5,rfl,hl5⟩:=h5.form
    rw [aI,dY] at hl5
    have hl58:l5=8:=oQ
    subst hl58
    refine W.ap h2 (ys:=cbs (leN 8 e)) (mm:=8) (fun w2 hs=>h5.srcAt hs inferInstance) (fun v3 H3 h3=>?_) (hys:=by rw [aI,dY]) (hbytes:=by rw [aI,hjl,aI,dY];omega)
    have h31:=h3.isOne
    rw [← jE,← hts] at h3
    refine W.k ?_
    rw [show 32*(k:Int)+(j:Int)+1=32*(k:Int)+((j+1:Nat):Int) by omega]
    refine aQ.mk (j+1,v3,H3) ?_
    exact⟨hj32,h3⟩
  ·have:j=32:=oQ
   subst this
   refine W.k ?_
   refine bZ.mk (v2,H2) ?_
   exact h2
 rintro⟨v2,H2⟩ h2
 dsimp only at h2 ⊢
 have h21:=h2.isOne
 refine W.k ?_
 refine Fin.to H2 ?_
 exact F.f1 h2
theorem aIN{p t:Nat}(h:Gm.Ok p t)(v:Value)(es:List UInt64):Tri prog 189 [kP p t,v] [] (fun w=>Rd [] w 1 v (uv es))
  (fun r H=>∃ vs Hv Ht,Sl 23 1 r vs Hv∧RB Ht vs ((List.range (Gm.epochs p)).map fun k=>epB k es)∧H=Hv++Ht):=by
 refine Tri.mk func189 rfl ntmps189 rfl fun w hw=>?_
 have hep:=zQ h
 have hel:=Gm.epochs_le h
 have hv1:=hw.isOne
 obtain⟨a,la,ca,rfl,-⟩:=hw.get
 generalize Gm.epochs p=n at *
 refine W.j fun b_=>?_
 refine bW [] [] (fun x:Value×List Value×Hp×Hp=>[(5,x.1)]) (fun x=>x.2.2.1++x.2.2.2) (fun y=>Sl 23 1 y.1 y.2.1 y.2.2.1∧RB y.2.2.2 y.2.1 ((List.range n).map fun k=>epB k es)) ?_ ?_
 ·refine W.k ?_
  refine bF [1,2] (fun x:Nat×Value×List Value×Hp×Hp=>[(5,x.2.1),(6,.int .i64 (x.1:Int))]) (fun x=>(b_,cl (zK p t) 30)::(x.2.2.2.1++x.2.2.2.2)) (fun x=>n-x.1) (fun y=>y.1≤n∧Sl 23 1 y.2.1 y.2.2.1 y.2.2.2.1∧RB y.2.2.2.2 y.2.2.1 ((List.range y.1).map fun k=>epB k es)) (0,.slice none 0 0,[],[],[]) ⟨Nat.zero_le _,Sl.nil _ _,RB.nil _⟩ ?_
  rintro⟨j,v2,vs,H2,Ht⟩ ⟨hj,h2,hB⟩
  dsimp only at hj h2 hB ⊢
  have h21:=h2.isOne
  have hvl:vs.length=j:=by rw [hB.1];simp
  by_cases hjn:j<n
  ·refine W.k ?_
   refine W.cw hep ?_
   refine aG (aFF j oQ (.slice a la ca) es) ?_ (hpre:=fun w2 hs=>hw.ro (Hc:=[]) hs)
   intro v5 H5 h5
   have h51:=h5.isOne
   obtain⟨a5,l5,c5,rfl,-⟩:=h5.form
   have hb17:bS (fun i=>some (i*1,1)) (zs [.slice none 0 0] 1) [(0,.slice a5 l5 c5)]=some [.slice a5 l5 c5]:=rfl
   refine W.k fun b_=>?_
   refine W.ap h2 (ys:=[.slice a5 l5 c5]) (mm:=1) (fun w2 hs=>(Sl.own 23 1 b_ (xs:=[.slice a5 l5 c5]) rfl).srcAt hs inferInstance) (fun v3 H3 h3=>?_) (hys:=rfl) (hbytes:=by rw [hvl];simp;omega)
   have h31:=h3.isOne
   refine W.k ?_
   refine aQ.mk (j+1,v3,vs++[.slice a5 l5 c5],H3,H5++Ht) ?_
   refine⟨hjn,h3,?_⟩
   show RB _ _ ((List.range (j+1)).map fun k=>epB k es)
   rw [bR,aL]
   exact (hB.mono fun x hx=>aM _ hx).snoc ((RdH.of h5).mono fun x hx=>aN _ hx)
  ·have:j=n:=oQ
   subst this
   refine W.k ?_
   refine W.cw hep ?_
   refine bZ.mk (v2,vs,H2,Ht) ?_
   exact⟨h2,hB⟩
 rintro⟨v2,vs,H2,Ht⟩ ⟨h2,hB⟩
 dsimp only at h2 hB ⊢
 have h21:=h2.isOne
 refine W.k ?_
 refine Fin.to (H2++Ht) ?_
 exact F.f1 ⟨vs,H2,Ht,h2,hB,rfl⟩
end
abbrev Ent:=Int×List UInt8
def lJ(c:UInt64)(l:List Ent):List UInt8:=pad 256 ([82,69,68,79,45,76,79,71]++leN 8 c++leN 2 (UInt64.ofNat l.length)++l.flatMap fun x=>leN 2 (UInt64.ofInt x.1))
theorem uB(c:UInt64)(l:List Ent):(lJ c l).length=256:=aB5 _ _
def oM(p:Nat):Int→List Ent→Bool
 | _,[]=>true
 | last,x::r=>decide (last<x.1∧x.1<(Gm.sealed p:Nat)∧x.2.length=256)&&oM p x.1 r
def gV(p t:Nat)(l:List Ent):Bool:=decide (1≤l.length∧l.length≤t)&&oM p (-1) l
def jI(h:List UInt8)(logs:List (List UInt8))(n:Nat):List Ent:=(List.range n).map fun k=>((jS ((h.drop (18+2*k)).take 2):Nat),logs.getD (1+k) [])
def nW(p t:Nat)(logs:List (List UInt8)):Option (UInt64×List Ent):=
 let h:=logs.getD 0 []
 let n:=jS ((h.drop 16).take 2)
 let c:=zM ((h.drop 8).take 8)
 if n≤t∧gV p t (jI h logs n)=true∧lJ c (jI h logs n)=h then some (c,jI h logs n) else none
def tJ(o:List Nat)(x:Ent):List Nat:=if x.1.toNat/32∈o then o else o++[x.1.toNat/32]
def dW(l:List Ent):List Nat:=l.foldl tJ []
def eG(l:List (List UInt8)):List (List UInt8):=l.mapIdx fun k b=>Sha.sum (fC k b)
def mO(l:List (List UInt8)):List (List UInt8):=l.mapIdx fun k b=>fC k b
def fW(l:List (List UInt8)):List UInt8:=iU (eG l)
theorem iZ(l:List (List UInt8)):(eG l).length=l.length:=by unfold eG;simp
theorem pC(l:List (List UInt8)):D32 (eG l):=fun x hx=>by
 unfold eG at hx
 obtain⟨i,h,rfl⟩:=qZ.1 hx
 exact Sha.sum_len _
def lU(p t:Nat)(root:List UInt8)(l:List (List UInt8)):Bool:=decide (fW l=root)&&decide (iB p t=l.getD 0 [])
def nD(p:Nat)(l:List (List UInt8)):List UInt64:=(List.range (Gm.sealed p)).map (tX ((l.drop 1).take (Gm.epochs p)))
def eE(c:UInt64)(es:List UInt64)(l:List Ent):List UInt64:=l.foldl (fun e x=>e.set x.1.toNat c) es
def rH(p:Nat)(m:List (List UInt8))(l:List Ent):List (List UInt8):=l.foldl (fun m x=>m.set (1+Gm.epochs p+x.1.toNat) x.2) m
def sM(es:List UInt64)(m:List (List UInt8))(ts:List Nat):List (List UInt8):=ts.foldl (fun m t=>m.set (1+t) (epB t es)) m
def sL(p:Nat)(c:UInt64)(l:List Ent)(m:List (List UInt8)):List (List UInt8):=sM (eE c (nD p m) l) (rH p m l) (dW l)
def vH(p t:Nat)(r:Rg)(l logs:List (List UInt8)):Nat×List (List UInt8):=
 if lU p t r.root l=true then (1,l) else
 match nW p t logs with
 | some (c,es)=>if (c.toNat:Int)=r.c∧lU p t r.root (sL p c es l)=true then (2,sL p c es l) else (3,l)
 | none=>(3,l)
abbrev DS:=Dv→Int×Dv
def DS.and(a b:DS):DS:=fun σ=>if (a σ).1=0 then b (a σ).2 else a σ
def stS(x:Nat)(bs:List UInt8):DS:=fun σ=>(σ.actR x bs.length,σ.store x bs)
def flS(x n:Nat):DS:=fun σ=>(σ.actR x n,σ.flush x n)
def feS:DS:=fun σ=>(σ.actR 0 0,σ.fence)
def eY(k:Nat)(bs:List UInt8):DS:=(stS (256*k) bs).and (flS (256*k) bs.length)
def putL:List (Nat×List UInt8)→DS
 | []=>fun σ=>(0,σ)
 | x::r=>(eY x.1 x.2).and (putL r)
def gH(k n:Nat):DS:=(eY k (List.replicate (256*n) 0)).and feS
theorem nK(a b:List (Nat×List UInt8)):putL (a++b)=(putL a).and (putL b):=by
 induction a with
 | nil=>funext σ;simp [putL,DS.and]
 | cons x r ih=>
  funext σ
  rw [eH,putL,putL,ih]
  unfold DS.and
  by_cases h:(eY x.1 x.2 σ).1=0
  ·simp only [h,if_true]
  ·simp only [h,if_false]
def fM(k:Nat)(l:List (List UInt8)):List (Nat×List UInt8):=l.mapIdx fun i b=>(k+i,b)
abbrev TS:=Dv×Rg→Int×(Dv×Rg)
def TS.and(a b:TS):TS:=fun σ=>if (a σ).1=0 then b (a σ).2 else a σ
def DS.t(a:DS):TS:=fun σ=>((a σ.1).1,(a σ.1).2,σ.2)
def mT(r':Rg):TS:=fun σ=>(sS σ.1 σ.2 r',sQ σ.1 σ.2 r',qX σ.1 σ.2 r')
def gY:TS:=fun σ=>mT { σ.2 with c:=σ.2.c+1 } σ
def fK(p t:Nat)(X:UInt64→Nat→List UInt8→List UInt8)(e:UInt64):List (List UInt8):=
 iB p t::((List.range (Gm.epochs p)).map (fun k=>epB k (List.replicate (Gm.sealed p) e))++(List.range (Gm.sealed p)).map fun k=>X e k (List.replicate 256 0))
def iN(l:List (List UInt8)):DS:=(putL (fM 0 l)).and feS
def dG(p t:Nat)(l:List (List UInt8)):DS:=(iN l).and (gH (Gm.leaves p) (1+t))
def aLK(l:List (List UInt8)):TS:=fun x=>mT ⟨x.2.c+1,fW l⟩ x
def nF(p t:Nat)(X:UInt64→Nat→List UInt8→List UInt8):TS:=fun σ=>
 if 18446744073709551613<σ.2.c then (21,σ) else
 (gY.and ((dG p t (fK p t X (UInt64.ofNat (σ.2.c+2).toNat))).t.and (aLK (fK p t X (UInt64.ofNat (σ.2.c+2).toNat))))) σ
def Dv.blks(σ:Dv)(a n:Nat):List (List UInt8):=(List.range n).map fun k=>σ.blk (a+k)
def gK(p t:Nat)(σ:Dv)(r:Rg):Nat×List (List UInt8):=vH p t r (σ.blks 0 (Gm.leaves p)) (σ.blks (Gm.leaves p) (1+t))
def iS(p t:Nat)(w:Bool)(σ:Dv×Rg):(Int×(Dv×Rg)):=
 if w=true∧σ.2.c=18446744073709551615 then (21,σ) else
 if σ.1.down=true then (8,σ) else
 if (gK p t σ.1 σ.2).1=3 then (20,σ) else
 ((dG p t (gK p t σ.1 σ.2).2).t.and (if w=true then gY else fun σ=>(0,σ))) σ
end Go.Proofs.YtnhnpjokpelkbaaGreat
