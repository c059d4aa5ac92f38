/- The document's blocks that are not hidden. -/
import Derived.Test.YtnhnpjokpelkbaaGreatPp22
import Derived.Test.YtnhnpjokpelkbaaGreatPp18
set_option linter.unusedVariables false
set_option linter.unusedSimpArgs false
set_option linter.unusedSectionVars false
set_option maxHeartbeats 2000000
namespace Go.Proofs.YtnhnpjokpelkbaaGreat
open Go Go.Proofs.Tryz
section
attribute [local irreducible] SW SL SQ SH SA SS Pu Fin bT aQ
theorem aFQ{p t:Nat}(h:Gm.Ok p t):Tri prog 188 [kF p t] [] (fun _=>True) (fun v H=>Sl 5 1 v (cbs (iE p t)) H):=by
 refine Tri.mk func188 rfl ntmps188 rfl fun w hw=>?_
 obtain⟨h1,h2,h3,h4⟩:=h
 have hfl:kG++[1,0,UInt8.ofNat p,0,UInt8.ofNat t,0]=kG++leN 2 1++leN 2 (UInt64.ofNat p)++leN 2 (UInt64.ofNat t):=by
  have e:∀ n:Nat,n≤64→leN 2 (UInt64.ofNat n)=[UInt8.ofNat n,0]:=fun n hn=>by
   have hN:(UInt64.ofNat n).toNat=n:=by rw [aW];omega
   show [byU (UInt64.ofNat n) 0,byU (UInt64.ofNat n) 1]=_
   rw [aAR _ oQ,aAR _ oQ,hN,uM,Nat.div_one,Nat.pow_one,tJ oQ]
   rfl
  rw [e p oQ,e t oQ,show leN 2 1=[1,0] from rfl]
  simp
 have hpd:=fun v=>aKr v (kG++[1,0,UInt8.ofNat p,0,UInt8.ofNat t,0]) 256 dQ
 rw [show pad 256 (kG++[1,0,UInt8.ofNat p,0,UInt8.ofNat t,0])=iE p t by rw [hfl];rfl] at hpd
 have hb6:bX (fun i=>some (i*1,1)) (zs [Value.int .u8 0] 6) [(0,.int .u8 1),(1,.int .u8 0),(2,.int .u8 ((UInt8.ofNat p).toNat:Int)),(3,.int .u8 0),(4,.int .u8 ((UInt8.ofNat t).toNat:Int)),(5,.int .u8 0)]=some (cbs [1,0,UInt8.ofNat p,0,UInt8.ofNat t,0]):=rfl
 have hbM:=bsM
 refine W.k fun _ _ b_=>?_
 have hml:(cbs kG).length=8:=rfl
 rename_i bg bm
 refine aMz (xs:=cbs kG) (ys:=cbs [1,0,UInt8.ofNat p,0,UInt8.ofNat t,0]) (mm:=6) (fun w2 hs=>(Rd.atB (K:=[]) (Hc:=[]) (b:=bm) (len:=8) (cap:=8) (T:=5) (fz:=((cbs kG).length,(cbs kG).length+1)) kG hs rfl (Nat.le_refl _)).srcW) (fun w2 hs=>(Sl.own 5 1 b_ (len:=6) (xs:=cbs [1,0,UInt8.ofNat p,0,UInt8.ofNat t,0]) rfl).srcAt hs inferInstance) (fun v3 H3 h3=>?_) (hxs:=rfl) (hys:=rfl) (hbytes:=by rw [aI,aI];simp [kG])
 have h31:=h3.isOne
 rw [← jB] at h3
 refine W.k ?_
 refine aF (hpd v3) ?_ (hpre:=fun w2 hs=>Rd.own (Hc:=[]) h3 hs inferInstance)
 intro v4 H4 h4
 have h41:=h4.isOne
 refine W.k ?_
 refine Fin.to H4 ?_
 exact F.f1 h4
def tN(bss:List (List UInt8))(k:Nat):UInt64:=yZ (((bss.getD (k/32) []).drop (8*(k%32))).take 8)
theorem aKp{Ht:Hp}(v:Value)(vs:List Value)(bss:List (List UInt8))(hB:RB Ht vs bss)(h256:∀ b∈bss,b.length=256)(k:Nat)(hk:k<32*bss.length)(hk2:k≤1000000):Tri prog 242 [v,.int .i64 (k:Int)] Ht (fun w=>Rd (Ht.map Prod.fst) w 1 v vs)
  (fun r H=>r=eG (tN bss k)∧H=Ht):=by
 refine Tri.mk func242 rfl ntmps242 rfl fun w hw=>?_
 obtain⟨a,la,ca,rfl,hl1,hc1,hr1⟩:=hw.get
 rw [Nat.mul_one,hB.1] at hl1
 subst hl1
 have hj:k/32<bss.length:=oQ
 obtain⟨bb,o,l,T,fz,rfl,hb,hkK,hy⟩:=hr1 oQ
 obtain⟨u,hu1,hu2⟩:=hB.2 (k/32) _ (aA hj)
 have hl256:bss[k/32].length=256:=h256 _ (cE hj)
 have hlu:l[o+k/32]?=some u:=by
  have h2:((l.drop o).take (bss.length*1))[k/32]?=vs[k/32]?:=by rw [hy]
  rw [bE,if_pos oQ,bI,hu1] at h2
  exact h2
 have hep:eG (tN bss k)=.int .u64 ((jU ((bss[k/32].drop (8*(k%32))).take 8):Nat):Int):=by
  unfold tN eG
  rw [aC,aA hj,Option.getD_some,aAf]
 rw [hep]
 generalize bss[k/32]=bs at *
 have huo:=hu2.one
 have hu3:=hu2
 obtain⟨ua,ul,uc,rfl,-⟩:=hu3
 have hul:=hu2.len
 have hcut:=hu2.cut uc (8*(k%32)) (8*(k%32)+8) (uc-8*(k%32)) oQ oQ oQ oQ
 rw [show 8*(k%32)+8-8*(k%32)=8 by omega] at hcut
 have hco:=hcut.one
 have hgt:=aEn (.slice (lR ua uc (8*(k%32)) 1) 8 (uc-8*(k%32))) ((bs.drop (8*(k%32))).take 8) (by rw [aG];omega)
 haveI i1:eI (8*((k:Int)%32)) (8*(k%32)):=⟨by omega⟩
 haveI i2:eI (8*((k:Int)%32)+8) (8*(k%32)+8):=⟨by omega⟩
 refine W.k ?_
 refine W.sG ?_ (i0:=i1) (i1:=i2)
 rw [show 8*(k%32)+8-8*(k%32)=8 by omega]
 refine W.k ?_
 refine W.cw hgt ?_ (hpre:=fun w2 hs=>hcut.rd (Hc:=[]) hs)
 refine Fin.to Ht ?_
 exact F.f1 ⟨rfl,rfl⟩
theorem aJI(k:Nat)(es:List UInt64):(List.range 32).flatMap (fun i=>leN 8 (es.getD (32*k+i) 0))=epB k es:=by
 have hz:leN 8 0=List.replicate 8 0:=rfl
 have e:∀ (n:Nat) (fs:List UInt64),(List.range n).flatMap (fun i=>leN 8 (fs.getD i 0))=(fs.take n).flatMap (leN 8)++List.replicate (8*(n-fs.length)) 0:=by
  intro n
  induction n with
  | zero=>intro fs;simp
  | succ n ih=>
   intro fs
   rw [bV,cU,ih]
   by_cases h:n<fs.length
   ·have g:fs.getD n 0=fs[n]:=by rw [aC,aA h];rfl
    rw [show n-fs.length=0 by omega,show n+1-fs.length=0 by omega,aZ,aA h,cU,List.flatMap_singleton,g]
    simp
   ·rw [aK (show fs.length≤n by omega),aK (show fs.length≤n+1 by omega),aM]
    congr 1
    rw [List.flatMap_singleton,aC,bB oQ,Option.getD_none,hz,gJ]
    congr 1;omega
 have hfm:∀ l:List UInt64,(l.flatMap (leN 8)).length=8*l.length:=fun l=>by
  induction l with
  | nil=>rfl
  | cons x r ih=>rw [dF,aB,ih,eC];simp;omega
 have h1:=e 32 (es.drop (32*k))
 have h2:(fun i=>leN 8 ((es.drop (32*k)).getD i 0))=fun i=>leN 8 (es.getD (32*k+i) 0):=by
  funext i
  rw [aC,bI,← aC]
 rw [h2] at h1
 rw [h1]
 unfold epB
 rw [aDu (by rw [hfm,aG];omega),hfm,aG]
 congr 2
 omega
theorem aAp(k:Nat)(hk:k≤1000)(v:Value)(es:List UInt64):Tri prog 204 [.int .i64 (k:Int),v] [] (fun w=>Rd [] w 1 v (uv es)) (fun r H=>Sl 5 1 r (cbs (epB k es)) H):=by
 refine Tri.mk func204 rfl ntmps204 rfl fun w hw=>?_
 obtain⟨a,la,ca,rfl,hl1,hc1,hr1⟩:=hw.get
 rw [Nat.mul_one,eR] at hl1
 subst hl1
 have hY:One (Value.slice a es.length ca):=⟨rfl⟩
 rw [← aJI]
 have hrl:∀ j,((List.range j).flatMap (fun i=>leN 8 (es.getD (32*k+i) 0))).length=8*j:=fun j=>by
  induction j with
  | zero=>rfl
  | succ j ih=>rw [bV,cU,aB,ih];simp [eC];omega
 refine W.j ?_
 refine bQ [] [] (fun x:Value×Hp=>[(5,x.1)]) (fun x=>x.2) (fun y=>Sl 5 1 y.1 (cbs ((List.range 32).flatMap (fun i=>leN 8 (es.getD (32*k+i) 0)))) y.2) ?_ ?_
 ·refine W.k ?_
  refine bF [0,1] (fun x:Nat×Value×Hp=>[(5,x.2.1),(6,.int .i64 (32*(k:Int)+(x.1:Int)))]) (fun x=>x.2.2) (fun x=>32-x.1) (fun y=>y.1≤32∧Sl 5 1 y.2.1 (cbs ((List.range y.1).flatMap (fun i=>leN 8 (es.getD (32*k+i) 0)))) y.2.2) (0,.slice none 0 0,[]) ⟨Nat.zero_le _,Sl.nil _ _⟩ ?_ (hr:=⟨rfl,by show _=some (Value.int .i64 (32*(k:Int)+((0:Nat):Int)));rw [show 32*(k:Int)+((0:Nat):Int)=32*(k:Int) by omega];rfl,trivial⟩)
  rintro⟨j,v2,H2⟩ ⟨hj,h2⟩
  dsimp only at hj h2 ⊢
  have h21:=h2.isOne
  have hjl:=hrl j
  by_cases hj32:j<32
  ·have hts:(List.range (j+1)).flatMap (fun i=>leN 8 (es.getD (32*k+i) 0))=(List.range j).flatMap (fun i=>leN 8 (es.getD (32*k+i) 0))++leN 8 (es.getD (32*k+j) 0):=by rw [bV,cU];simp
   by_cases hjx:32*k+j<es.length
   case' pos=>
    obtain⟨bb,o,l,T,fz,rfl,hb,hkK,hy⟩:=hr1 oQ
    have hlu:l[o+(32*k+j)]?=some (eG (es.getD (32*k+j) 0)):=by
     have h2:((l.drop o).take (es.length*1))[32*k+j]?=(uv es)[32*k+j]?:=by rw [hy]
     rw [bE,if_pos oQ,bI,aDM hjx] at h2
     exact h2
    haveI i0:eI (32*(k:Int)+(j:Int)) (32*k+j):=⟨by omega⟩
    have hp8:=wT 8 (es.getD (32*k+j) 0) oQ
   case' neg=>
    have gx:es.getD (32*k+j) 0=0:=by rw [aC,bB oQ];rfl
    have hp8:=wT 8 (es.getD (32*k+j) 0) oQ
    rw [show eG (es.getD (32*k+j) 0)=.int .u64 0 by rw [gx];rfl] at hp8
   all_goals
    generalize es.getD (32*k+j) 0=e at *
    refine W.k ?_
    refine aF hp8 ?_
    intro v5 H5 h5
    have h51:=h5.isOne
    obtain⟨a5,l5,c5,rfl,hl5⟩:=h5.form
    rw [aI,eC] at hl5
    have hl58:l5=8:=oQ
    subst hl58
    refine W.ap h2 (ys:=cbs (leN 8 e)) (mm:=8) (fun w2 hs=>h5.srcAt hs inferInstance) (fun v3 H3 h3=>?_) (hys:=by rw [aI,eC]) (hbytes:=by rw [aI,hjl,aI,eC];omega)
    have h31:=h3.isOne
    rw [← jB,← hts] at h3
    refine W.k ?_
    rw [show 32*(k:Int)+(j:Int)+1=32*(k:Int)+((j+1:Nat):Int) by omega]
    refine aQ.mk (j+1,v3,H3) ?_
    exact⟨hj32,h3⟩
  ·have:j=32:=oQ
   subst this
   refine W.k ?_
   refine bT.mk (v2,H2) ?_
   exact h2
 rintro⟨v2,H2⟩ h2
 dsimp only at h2 ⊢
 have h21:=h2.isOne
 refine W.k ?_
 refine Fin.to H2 ?_
 exact F.f1 h2
theorem aIG{p t:Nat}(h:Gm.Ok p t)(v:Value)(es:List UInt64):Tri prog 189 [kF p t,v] [] (fun w=>Rd [] w 1 v (uv es))
  (fun r H=>∃ vs Hv Ht,Sl 23 1 r vs Hv∧RB Ht vs ((List.range (Gm.epochs p)).map fun k=>epB k es)∧H=Hv++Ht):=by
 refine Tri.mk func189 rfl ntmps189 rfl fun w hw=>?_
 have hep:=zE h
 have hel:=Gm.epochs_le h
 have hv1:=hw.isOne
 obtain⟨a,la,ca,rfl,-⟩:=hw.get
 generalize Gm.epochs p=n at *
 refine W.j fun b_=>?_
 refine bQ [] [] (fun x:Value×List Value×Hp×Hp=>[(5,x.1)]) (fun x=>x.2.2.1++x.2.2.2) (fun y=>Sl 23 1 y.1 y.2.1 y.2.2.1∧RB y.2.2.2 y.2.1 ((List.range n).map fun k=>epB k es)) ?_ ?_
 ·refine W.k ?_
  refine bF [1,2] (fun x:Nat×Value×List Value×Hp×Hp=>[(5,x.2.1),(6,.int .i64 (x.1:Int))]) (fun x=>(b_,cl (yX p t) 30)::(x.2.2.2.1++x.2.2.2.2)) (fun x=>n-x.1) (fun y=>y.1≤n∧Sl 23 1 y.2.1 y.2.2.1 y.2.2.2.1∧RB y.2.2.2.2 y.2.2.1 ((List.range y.1).map fun k=>epB k es)) (0,.slice none 0 0,[],[],[]) ⟨Nat.zero_le _,Sl.nil _ _,RB.nil _⟩ ?_
  rintro⟨j,v2,vs,H2,Ht⟩ ⟨hj,h2,hB⟩
  dsimp only at hj h2 hB ⊢
  have h21:=h2.isOne
  have hvl:vs.length=j:=by rw [hB.1];simp
  by_cases hjn:j<n
  ·refine W.k ?_
   refine W.cw hep ?_
   refine aF (aAp j oQ (.slice a la ca) es) ?_ (hpre:=fun w2 hs=>hw.ro (Hc:=[]) hs)
   intro v5 H5 h5
   have h51:=h5.isOne
   obtain⟨a5,l5,c5,rfl,-⟩:=h5.form
   have hb17:bX (fun i=>some (i*1,1)) (zs [.slice none 0 0] 1) [(0,.slice a5 l5 c5)]=some [.slice a5 l5 c5]:=rfl
   refine W.k fun b_=>?_
   refine W.ap h2 (ys:=[.slice a5 l5 c5]) (mm:=1) (fun w2 hs=>(Sl.own 23 1 b_ (xs:=[.slice a5 l5 c5]) rfl).srcAt hs inferInstance) (fun v3 H3 h3=>?_) (hys:=rfl) (hbytes:=by rw [hvl];simp;omega)
   have h31:=h3.isOne
   refine W.k ?_
   refine aQ.mk (j+1,v3,vs++[.slice a5 l5 c5],H3,H5++Ht) ?_
   refine⟨hjn,h3,?_⟩
   show RB _ _ ((List.range (j+1)).map fun k=>epB k es)
   rw [bV,aV]
   exact (hB.mono fun x hx=>aN _ hx).snoc ((RdH.of h5).mono fun x hx=>aO _ hx)
  ·have:j=n:=oQ
   subst this
   refine W.k ?_
   refine W.cw hep ?_
   refine bT.mk (v2,vs,H2,Ht) ?_
   exact⟨h2,hB⟩
 rintro⟨v2,vs,H2,Ht⟩ ⟨h2,hB⟩
 dsimp only at h2 hB ⊢
 have h21:=h2.isOne
 refine W.k ?_
 refine Fin.to (H2++Ht) ?_
 exact F.f1 ⟨vs,H2,Ht,h2,hB,rfl⟩
end
abbrev Ent:=Int×List UInt8
def lJ(c:UInt64)(l:List Ent):List UInt8:=pad 256 ([82,69,68,79,45,76,79,71]++leN 8 c++leN 2 (UInt64.ofNat l.length)++l.flatMap fun x=>leN 2 (UInt64.ofInt x.1))
theorem rG(c:UInt64)(l:List Ent):(lJ c l).length=256:=aBM _ _
def mR(p:Nat):Int→List Ent→Bool
 | _,[]=>true
 | last,x::r=>decide (last<x.1∧x.1<(Gm.sealed p:Nat)∧x.2.length=256)&&mR p x.1 r
def gH(p t:Nat)(l:List Ent):Bool:=decide (1≤l.length∧l.length≤t)&&mR p (-1) l
def jH(h:List UInt8)(logs:List (List UInt8))(n:Nat):List Ent:=(List.range n).map fun k=>((jU ((h.drop (18+2*k)).take 2):Nat),logs.getD (1+k) [])
def nX(p t:Nat)(logs:List (List UInt8)):Option (UInt64×List Ent):=
 let h:=logs.getD 0 []
 let n:=jU ((h.drop 16).take 2)
 let c:=yZ ((h.drop 8).take 8)
 if n≤t∧gH p t (jH h logs n)=true∧lJ c (jH h logs n)=h then some (c,jH h logs n) else none
def tA(o:List Nat)(x:Ent):List Nat:=if x.1.toNat/32∈o then o else o++[x.1.toNat/32]
def cZ(l:List Ent):List Nat:=l.foldl tA []
def eX(l:List (List UInt8)):List (List UInt8):=l.mapIdx fun k b=>Sha.sum (fJ k b)
def tB(l:List (List UInt8)):List (List UInt8):=l.mapIdx fun k b=>fJ k b
def fQ(l:List (List UInt8)):List UInt8:=fU (eX l)
theorem jL(l:List (List UInt8)):(eX l).length=l.length:=by unfold eX;simp
theorem nP(l:List (List UInt8)):D32 (eX l):=fun x hx=>by
 unfold eX at hx
 obtain⟨i,h,rfl⟩:=vL.1 hx
 exact Sha.sum_len _
def lI(p t:Nat)(root:List UInt8)(l:List (List UInt8)):Bool:=decide (fQ l=root)&&decide (iE p t=l.getD 0 [])
def nB(p:Nat)(l:List (List UInt8)):List UInt64:=(List.range (Gm.sealed p)).map (tN ((l.drop 1).take (Gm.epochs p)))
def dL(c:UInt64)(es:List UInt64)(l:List Ent):List UInt64:=l.foldl (fun e x=>e.set x.1.toNat c) es
def rB(p:Nat)(m:List (List UInt8))(l:List Ent):List (List UInt8):=l.foldl (fun m x=>m.set (1+Gm.epochs p+x.1.toNat) x.2) m
def sC(es:List UInt64)(m:List (List UInt8))(ts:List Nat):List (List UInt8):=ts.foldl (fun m t=>m.set (1+t) (epB t es)) m
def rA(p:Nat)(c:UInt64)(l:List Ent)(m:List (List UInt8)):List (List UInt8):=sC (dL c (nB p m) l) (rB p m l) (cZ l)
def uV(p t:Nat)(r:Rg)(l logs:List (List UInt8)):Nat×List (List UInt8):=
 if lI p t r.root l=true then (1,l) else
 match nX p t logs with
 | some (c,es)=>if (c.toNat:Int)=r.c∧lI p t r.root (rA p c es l)=true then (2,rA p c es l) else (3,l)
 | none=>(3,l)
abbrev DS:=Dv→Int×Dv
def DS.and(a b:DS):DS:=fun σ=>if (a σ).1=0 then b (a σ).2 else a σ
def stS(x:Nat)(bs:List UInt8):DS:=fun σ=>(σ.actR x bs.length,σ.store x bs)
def flS(x n:Nat):DS:=fun σ=>(σ.actR x n,σ.flush x n)
def feS:DS:=fun σ=>(σ.actR 0 0,σ.fence)
def fH(k:Nat)(bs:List UInt8):DS:=(stS (256*k) bs).and (flS (256*k) bs.length)
def putL:List (Nat×List UInt8)→DS
 | []=>fun σ=>(0,σ)
 | x::r=>(fH x.1 x.2).and (putL r)
def gB(k n:Nat):DS:=(fH k (List.replicate (256*n) 0)).and feS
theorem qK(a b:List (Nat×List UInt8)):putL (a++b)=(putL a).and (putL b):=by
 induction a with
 | nil=>funext σ;simp [putL,DS.and]
 | cons x r ih=>
  funext σ
  rw [eE,putL,putL,ih]
  unfold DS.and
  by_cases h:(fH x.1 x.2 σ).1=0
  ·simp only [h,if_true]
  ·simp only [h,if_false]
def fR(k:Nat)(l:List (List UInt8)):List (Nat×List UInt8):=l.mapIdx fun i b=>(k+i,b)
abbrev TS:=Dv×Rg→Int×(Dv×Rg)
def TS.and(a b:TS):TS:=fun σ=>if (a σ).1=0 then b (a σ).2 else a σ
def DS.t(a:DS):TS:=fun σ=>((a σ.1).1,(a σ.1).2,σ.2)
def kB(r':Rg):TS:=fun σ=>(qO σ.1 σ.2 r',sE σ.1 σ.2 r',oI σ.1 σ.2 r')
def gG:TS:=fun σ=>kB { σ.2 with c:=σ.2.c+1 } σ
def fG(p t:Nat)(X:UInt64→Nat→List UInt8→List UInt8)(e:UInt64):List (List UInt8):=
 iE p t::((List.range (Gm.epochs p)).map (fun k=>epB k (List.replicate (Gm.sealed p) e))++(List.range (Gm.sealed p)).map fun k=>X e k (List.replicate 256 0))
def iW(l:List (List UInt8)):DS:=(putL (fR 0 l)).and feS
def cQ(p t:Nat)(l:List (List UInt8)):DS:=(iW l).and (gB (Gm.leaves p) (1+t))
def aD6(l:List (List UInt8)):TS:=fun x=>kB ⟨x.2.c+1,fQ l⟩ x
def lD(p t:Nat)(X:UInt64→Nat→List UInt8→List UInt8):TS:=fun σ=>
 if 18446744073709551613<σ.2.c then (21,σ) else
 (gG.and ((cQ p t (fG p t X (UInt64.ofNat (σ.2.c+2).toNat))).t.and (aD6 (fG p t X (UInt64.ofNat (σ.2.c+2).toNat))))) σ
def Dv.blks(σ:Dv)(a n:Nat):List (List UInt8):=(List.range n).map fun k=>σ.blk (a+k)
def gI(p t:Nat)(σ:Dv)(r:Rg):Nat×List (List UInt8):=uV p t r (σ.blks 0 (Gm.leaves p)) (σ.blks (Gm.leaves p) (1+t))
def gV(p t:Nat)(w:Bool)(σ:Dv×Rg):(Int×(Dv×Rg)):=
 if w=true∧σ.2.c=18446744073709551615 then (21,σ) else
 if σ.1.down=true then (8,σ) else
 if (gI p t σ.1 σ.2).1=3 then (20,σ) else
 ((cQ p t (gI p t σ.1 σ.2).2).t.and (if w=true then gG else fun σ=>(0,σ))) σ
end Go.Proofs.YtnhnpjokpelkbaaGreat
