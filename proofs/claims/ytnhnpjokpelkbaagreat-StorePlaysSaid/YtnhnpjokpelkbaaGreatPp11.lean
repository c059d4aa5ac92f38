/- The document's sums of levels, its root. -/
import Derived.Test.YtnhnpjokpelkbaaGreatPp10
set_option linter.unusedVariables false
set_option linter.unusedSimpArgs false
set_option linter.unusedSectionVars false
set_option maxHeartbeats 1000000
namespace Go.Proofs.YtnhnpjokpelkbaaGreat
open Go Go.Proofs.Tryz
section
attribute [local irreducible] SW SL SQ SH SA SS Pu Fin bT aQ
theorem Rd.row{K:List Nat}{w:World}{v:Value}{L:List (List UInt8)}(h:Rd K w 32 v (cbs L.flatten))(hL:D32 L):∃ (a:Option Addr) (cap:Nat),v=.slice a L.length cap∧L.length≤cap ∧
  ∀ (i:Nat) (x:List UInt8),L[i]?=some x→∃ (b o:Nat) (l:List Value) (T:TypeId) (fz:Nat×Nat),a=some ⟨b,o,none⟩∧w.heap[b]?=some (.cells l.toArray T fz)∧b∉K∧(l.drop (o+i*32)).take 32=cbs x:=by
 obtain⟨a,len,cap,rfl,h1,h2,h3⟩:=h
 have hl:L.length=len:=by
  rw [aI,dI hL] at h1
  omega
 subst hl
 refine⟨a,cap,rfl,h2,fun i x hi=>?_⟩
 have hlt:i<L.length:=(aE.1 hi).1
 obtain⟨b,o,l,T,fz,rfl,hb,hk,hy⟩:=h3.resolve_left oQ
 refine⟨b,o,l,T,fz,rfl,hb,hk,?_⟩
 rw [← aBC hL hi,← hy,jW,fP,cJ,cR oQ]
theorem aPr(l:List (List UInt8))(hl:D32 l)(v:Value)(hn:l.length≤1099511627776):∀ (d i:Nat),(i+1)*2^d≤1099511627776 →
  Tri prog 136 [v,.int .i64 (d:Int),.int .i64 (i:Int)] [] (fun w=>Rd [] w 32 v (cbs l.flatten)) (fun r H=>r=dgV (atV l d i)∧H=[]):=by
 intro d
 induction d with
 | zero=>
  intro i hi
  refine Tri.mk func136 rfl ntmps136 rfl fun w hw=>?_
  have hw2:=hw
  obtain⟨a,cap,rfl,hc,hg⟩:=hw.row hl
  have hr:=lV (lO hl 0 i)
  by_cases h:i<l.length
  ·obtain⟨b,o,lv,T,fz,rfl,hb,hk,hv⟩:=hg i _ (aA h)
   have ha:atV l 0 i=l[i]:=by unfold atV;rw [aC,aA h];rfl
   rw [← ha] at hv
   refine W.k fun b_=>?_
   exact F.c0 (cbs (atV l 0 i)) ⟨rfl,rfl⟩
  ·have ha:atV l 0 i=z32:=by unfold atV;rw [aC,bB oQ];rfl
   refine W.k fun b_=>?_
   rw [ha]
   exact F.c0 (cbs z32) ⟨rfl,rfl⟩
 | succ d ih=>
  intro i hi
  refine Tri.mk func136 rfl ntmps136 rfl fun w hw=>?_
  have hw2:=hw
  obtain⟨a,cap,rfl,hc,hg⟩:=hw.row hl
  have hr:=lV (lO hl (d+1) i)
  have hx1:=lO hl d (2*i)
  have hx2:=lO hl d (2*i+1)
  rw [fE] at hi
  have hb1:(2*i+1)*2^d≤(i+1)*(2^d*2):=by rw [← pR,Nat.mul_right_comm];exact dD _ oQ
  have hb2:(2*i+1+1)*2^d≤(i+1)*(2^d*2):=by rw [← pR,Nat.mul_right_comm];exact dD _ oQ
  have hi3:2*i+1≤(2*i+1)*2^d:=Nat.le_mul_of_pos_right _ (Nat.pow_pos oQ)
  have hd3:d<2^d:=Nat.lt_two_pow_self
  have hd4:2^d≤(2*i+1)*2^d:=Nat.le_mul_of_pos_left _ oQ
  have h1:=ih (2*i) oQ
  have h2:=ih (2*i+1) oQ
  have e1:(((d+1:Nat):Int)-1)=(d:Int):=oQ
  have e2:((2*i:Nat):Int)=2*(i:Int):=oQ
  have e3:((2*i+1:Nat):Int)=2*(i:Int)+1:=oQ
  generalize (i+1)*(2^d*2)=X at hi hb1 hb2
  generalize (2*i+1)*2^d=Y at hb1 hi3 hd4
  generalize (2*i+1+1)*2^d=Z at hb2
  generalize 2^d=D at hd3 hd4
  refine W.k fun b_=>?_
  refine eJ h1 ?_ ?_ (hpre:=fun w2 hs=>hw2.ro (Hc:=[]) hs)
  ·rw [e1,e2]
  rintro _ _ ⟨rfl,rfl⟩
  refine W.k ?_
  refine eJ h2 ?_ ?_ (hpre:=fun w2 hs=>hw2.ro (Hc:=[]) hs)
  ·rw [e1,e3]
  rintro _ _ ⟨rfl,rfl⟩
  refine W.k ?_
  refine W.cq (aL9 (d+1) i _ _ hx1 hx2) ?_
  rw [show oV (d+1) i (atV l d (2*i)) (atV l d (2*i+1))=atV l (d+1) i from rfl]
  refine W.k ?_
  exact F.c0 (cbs (atV l (d+1) i)) ⟨rfl,rfl⟩
theorem aBO(l:List (List UInt8))(hl:D32 l)(v:Value)(hn:l.length≤1024) :
  Tri prog 72 [v] [] (fun w=>Rd [] w 32 v (cbs l.flatten)) (fun r H=>r=dgV (fU l)∧H=[]):=by
 refine Tri.mk func72 rfl ntmps72 rfl fun w hw=>?_
 have hw2:=hw
 obtain⟨a,cap,rfl,hc,hg⟩:=hw.row hl
 have hr:=lV (Sha.sum_len (nF l.length (aEC l)))
 have hd:dep l.length≤10:=uR (by simpa using hn)
 have hd2:2^dep l.length≤2^10:=dE oQ hd
 have ht:(aEC l).length=32:=lO hl _ _
 refine W.k fun b_=>?_
 refine W.cw (aKv l.length oQ) ?_
 refine eJ (aPr l hl (.slice a l.length cap) oQ (dep l.length) 0 oQ) rfl ?_ (hpre:=fun w2 hs=>hw2.ro (Hc:=[]) hs)
 rintro _ _ ⟨rfl,rfl⟩
 rw [show atV l (dep l.length) 0=aEC l from rfl]
 refine W.k ?_
 refine W.cw (aOn l.length _ ht) ?_
 exact F.c0 (cbs (fU l)) ⟨rfl,rfl⟩
structure Rw where
 b:Nat
 cap:Nat
 junk:List Value
 r:List (List UInt8)
def Rw.val(w:Rw):Value:=.slice (some ⟨w.b,0,none⟩) w.r.length w.cap
def Rw.hp(w:Rw):Nat×Obj:=(w.b,cl (cbs w.r.flatten++w.junk) 55)
def Rw.Ok(w:Rw):Prop:=D32 w.r∧w.junk.length=(w.cap-w.r.length)*32∧w.r.length≤w.cap
def jM(vs:List Value)(L:List (List (List UInt8)))(H:Hp):Prop:=∃ ws:List Rw,vs=ws.map Rw.val∧L=ws.map Rw.r∧H=ws.map Rw.hp∧∀ w∈ws,w.Ok
theorem jM.nil:jM [] [] []:=⟨[],rfl,rfl,rfl,by simp⟩
theorem jM.snoc{vs:List Value}{L:List (List (List UInt8))}{H:Hp}(h:jM vs L H)(w:Rw)(hw:w.Ok):jM (vs++[w.val]) (L++[w.r]) (H++[w.hp]):=by
 obtain⟨ws,rfl,rfl,rfl,h4⟩:=h
 refine⟨ws++[w],by simp,by simp,by simp,fun x hx=>?_⟩
 rcases bK.1 hx with h|h
 ·exact h4 x h
 ·rw [bU] at h;subst h;exact hw
theorem jM.new{vs:List Value}{L:List (List (List UInt8))}{H:Hp}(h:jM vs L H){b len:Nat}{r:List (List UInt8)}(hr:D32 r)(hl:r.length=len):jM (vs++[.slice (some ⟨b,0,none⟩) len len]) (L++[r]) (H++[(b,cl (cbs r.flatten) 55)]):=by
 subst hl
 have:=h.snoc ⟨b,r.length,[],r⟩ ⟨hr,by simp,Nat.le_refl _⟩
 simpa [Rw.val,Rw.hp] using this
theorem jM.len{vs:List Value}{L:List (List (List UInt8))}{H:Hp}(h:jM vs L H):vs.length=L.length:=by
 obtain⟨ws,rfl,rfl,rfl,h4⟩:=h
 simp
def vM(t b n:Nat)(L:List (List (List UInt8)))(H:Hp):Prop:=
 ∃ lv vs Hl Hw,H=(t,cl [.pointer (some ⟨b,0,none⟩),.int .i64 (n:Int),lv] 180)::(Hl++Hw)∧Sl 177 1 lv vs Hl∧jM vs L Hw
def Bk.adds(s:Bk)(ts:List (List UInt8)):Bk:=ts.foldl Bk.add s
theorem Bk.adds_one(s:Bk)(ts:List (List UInt8))(t:List UInt8):(s.adds ts).add t=s.adds (ts++[t]):=by simp [Bk.adds]
def aJW(l:List (List UInt8))(D d:Nat)(i:Nat):List (List UInt8):=(List.range i).map fun i=>wM (d+1) i (atV l d (2*i)) (atV l d (2*i+1))
def txs(l:List (List UInt8))(D k i:Nat):List (List UInt8):=((List.range k).flatMap fun d=>aJW l D d (2^(D-(d+1))))++aJW l D k i
theorem aKV(l:List (List UInt8))(D k i:Nat):txs l D k i++[wM (k+1) i (atV l k (2*i)) (atV l k (2*i+1))]=txs l D k (i+1):=by
 simp [txs,aJW,bV]
theorem aKU(l:List (List UInt8))(D k:Nat):txs l D k (2^(D-(k+1)))=txs l D (k+1) 0:=by
 simp [txs,aJW,bV]
theorem aMo(l:List (List UInt8))(D:Nat):txs l D D 0=vE l D:=by
 simp [txs,aJW,vE]
def lK(l:List (List UInt8))(D k:Nat):List (List (List UInt8)):=(List.range k).map (qW l D)
theorem zF(l:List (List UInt8))(D k:Nat):lK l D k++[qW l D k]=lK l D (k+1):=by simp [lK,bV]
theorem aPE(n:Nat):zs (List.replicate 32 (.int .u8 0)) n=cbs (List.replicate n z32).flatten:=by
 unfold zs cbs
 rw [List.map_flatten,eL,eL]
 rfl
theorem aMr(n:Nat):D32 (List.replicate n z32):=by
 intro x hx
 rw [nK hx];rfl
theorem aPP(l:List (List UInt8)){D:Nat}(h:l.length≤2^D):qW l D 0=l++List.replicate (2^D-l.length) z32:=by
 apply cB
 intro i
 rcases mY i (2^D) with h1|h1
 ·rw [wR l (by simpa using h1)]
  unfold atV
  rw [aC]
  rcases mY i l.length with h2|h2
  ·rw [aL h2,aA h2];rfl
  ·rw [aY h2,bB h2,nZ,if_pos oQ];rfl
 ·rw [bB (by rw [wS];simpa using h1),bB (by simp;omega)]
theorem aGO(l:List (List UInt8))(hl:D32 l){D X:Nat}(hX:X=2^D)(h:l.length≤X):List.take 0 (cbs (List.replicate X z32).flatten)++cbs l.flatten++List.drop (0+(cbs l.flatten).length) (cbs (List.replicate X z32).flatten)=cbs (qW l D 0).flatten:=by
 subst hX
 rw [aPP l h,cT,List.nil_append,fX,aI,dI hl,show List.replicate (2^D) z32=List.replicate l.length z32++List.replicate (2^D-l.length) z32 by rw [gJ];congr 1;omega,nG,nG,jB,jB]
 congr 1
 rw [cM (by rw [aI,dI (aMr _)];simp),gO (by rw [aI,dI (aMr _)];simp),List.nil_append]
def uC(l:List (List UInt8))(k Y i:Nat):List (List UInt8):=(List.range i).map (atV l (k+1))++List.replicate (Y-i) z32
theorem aKh{l:List (List UInt8)}(hl:D32 l)(k Y i:Nat):D32 (uC l k Y i):=by
 intro x hx
 rcases bK.1 hx with h|h
 ·obtain⟨j,-,rfl⟩:=bH.1 h;exact lO hl _ _
 ·exact aMr _ x h
theorem aID(l:List (List UInt8))(k:Nat){Y i:Nat}(h:i≤Y):(uC l k Y i).length=Y:=by simp [uC];omega
theorem aIE(l:List (List UInt8))(k:Nat){Y i:Nat}(h:i<Y):(uC l k Y i).set i (atV l (k+1) i)=uC l k Y (i+1):=by
 unfold uC
 rw [bY _ _ (by simp),aD,dY,dW,show Y-i=(Y-(i+1))+1 by omega,fM,fF,bV]
 simp
theorem aLY(l:List (List UInt8))(k Y:Nat):uC l k Y 0=List.replicate Y z32:=by simp [uC]
theorem aIC(l:List (List UInt8))(D k:Nat):uC l k (2^(D-(k+1))) (2^(D-(k+1)))=qW l D (k+1):=by simp [uC,qW]
structure NS where
 k:Nat
 lv:Value
 vs:List Value
 Hl:Hp
 Hw:Hp
 b:Nat
 Hb:Hp
theorem aPc{b tp:Nat}{s:Bk}{Hb:Hp}(hB:eV b tp s Hb)(v:Value)(l:List (List UInt8))(hl:D32 l)(h1:1≤l.length)(h2:l.length≤1024) :
  Tri prog 260 [.pointer (some ⟨b,0,none⟩),v] Hb (fun w=>Rd (Hb.map Prod.fst) w 32 v (cbs l.flatten)) (fun r H'=>∃ t Ht Hb',r=.tuple #[.pointer (some ⟨t,0,none⟩),.int .i64 0]∧H'=Ht++Hb'∧vM t b l.length (lK l (dep l.length) (dep l.length+1)) Ht∧eV b tp (s.adds (vE l (dep l.length))) Hb'):=by
 refine Tri.mk func260 rfl ntmps260 rfl fun w hw=>?_
 have hw2:=hw
 obtain⟨a,cap,rfl,hc,hg⟩:=hw.row hl
 have hd:dep l.length≤10:=uR (by simpa using h2)
 have hle:=yT l.length
 have hdp:=aLz l.length oQ
 generalize dep l.length=D at hd hle hdp ⊢
 obtain⟨X,hX⟩:∃ X,X=2^D:=⟨_,rfl⟩
 have hX2:X≤1024:=by rw [hX];exact dE (n:=2) oQ hd
 rw [← hX] at hle
 have hbf:bX (fun i=>[(0,1),(1,1),(2,1)][i]?) ([.pointer none]++[.int .i64 0]++[.slice none 0 0]) [(0,.pointer (some ⟨b,0,none⟩)),(1,.int .i64 (l.length:Int))]=some [.pointer (some ⟨b,0,none⟩),.int .i64 (l.length:Int),.slice none 0 0]:=rfl
 refine W.k fun b_=>?_
 refine W.cq hdp ?_
 haveI:=aPu (d:=D) oQ hX
 have hrow:=aGO l hl hX hle
 refine W.j fun b_=>?_
 rename_i t
 rw [aPE]
 refine W.cy (mm:=l.length) (ys:=cbs l.flatten) (fun w2 hs=>hw2.srcAt hs) ?_ (hfit:=by rw [aI,aI,dI hl,dI (aMr _),aS];omega)
 rw [hrow]
 refine W.j fun b_=>?_
 rename_i nb
 rw [bs1]
 refine W.ap (ys:=[.slice (some ⟨nb,0,none⟩) X X]) (mm:=1) (Sl.nil _ _) (fun w2 hs=>(Sl.own 177 1 b_ (xs:=[.slice (some ⟨nb,0,none⟩) X X]) rfl).srcAt hs inferInstance) (fun lv0 Hl0 hv0=>?_) (hys:=rfl) (hbytes:=by simp)
 have h01:=hv0.isOne
 rw [List.nil_append] at hv0
 refine W.j ?_
 rw [show ([.pointer (some ⟨b,0,none⟩),.int .i64 (l.length:Int),.slice none 0 0]:List Value).set 2 lv0=[.pointer (some ⟨b,0,none⟩),.int .i64 (l.length:Int),lv0] from rfl]
 refine bQ [0,6] ((t,cl [.pointer (some ⟨b,0,none⟩),.int .i64 (l.length:Int),lv0] 180)::(Hl0++((nb,cl (cbs (qW l D 0).flatten) 55)::Hb))) (fun x:NS=>[]) (fun x:NS=>(t,cl [.pointer (some ⟨b,0,none⟩),.int .i64 (l.length:Int),x.lv] 180)::(x.Hl++(x.Hw++x.Hb)))
  (fun x=>Sl 177 1 x.lv x.vs x.Hl∧jM x.vs (lK l D (D+1)) x.Hw∧eV b tp (s.adds (vE l D)) x.Hb) ?_ ?_
 rotate_left
 ·rintro⟨k,lv,vs,Hl,Hw,nb2,Hb2⟩ ⟨hlv,hrw,hB2⟩
  dsimp only at hlv hrw hB2 ⊢
  refine W.k ?_
  refine Fin.to (((t,cl [.pointer (some ⟨b,0,none⟩),.int .i64 (l.length:Int),lv] 180)::(Hl++Hw))++Hb2) ?_
  refine F.f2 ?_
  exact⟨t,_,Hb2,rfl,rfl,⟨lv,vs,Hl,Hw,rfl,hlv,hrw⟩,hB2⟩
 ·subst hX
  refine W.k ?_
  refine bF [0,6] (fun x:NS=>[(7,.slice (some ⟨x.b,0,none⟩) (2^(D-x.k)) (2^(D-x.k)))]) (fun x=>(t,cl [.pointer (some ⟨b,0,none⟩),.int .i64 (l.length:Int),x.lv] 180)::(x.Hl++(x.Hw++(x.b,cl (cbs (qW l D x.k).flatten) 55)::x.Hb))) (fun x=>D-x.k)
   (fun x=>x.k≤D∧Sl 177 1 x.lv (x.vs++[.slice (some ⟨x.b,0,none⟩) (2^(D-x.k)) (2^(D-x.k))]) x.Hl∧jM x.vs (lK l D x.k) x.Hw∧eV b tp (s.adds (txs l D x.k 0)) x.Hb) ⟨0,lv0,[],Hl0,[],nb,Hb⟩ ⟨Nat.zero_le _,hv0,jM.nil,hB⟩ ?_
  rintro⟨k,lv,vs,Hl,Hw,nb2,Hb2⟩ ⟨hk,hlv,hrw,hB2⟩
  dsimp only at hk hlv hrw hB2 ⊢
  have hv1:=hlv.isOne
  have hrl:=hrw.len
  have hrl2:vs.length=k:=by rw [hrl];simp [lK]
  by_cases hkD:k<D
  ·have hXY:2^(D-k)=2^(D-(k+1))*2:=by rw [show D-k=D-(k+1)+1 by omega,fE]
   have hXm:2^(D-k)≤1024:=dE (n:=2) oQ (show D-k≤10 by omega)
   have hYp:0<2^(D-(k+1)):=Nat.pow_pos oQ
   have hget:∀ i,i<2^(D-k)→(qW l D k)[i]?=some (atV l k i):=fun i h=>wR l h
   have hnx:=zF l D k
   have hpa:=aIC l D k
   have hst:=fun i=>aKV l D k i
   have hnt:=aKU l D k
   have hr32:=aEv hl D k
   have hrwn:=hrw.new (b:=nb2) hr32 (wS l D k)
   rw [hnx] at hrwn
   generalize 2^(D-k)=X at *
   generalize hYe:2^(D-(k+1))=Y at hXY hYp hpa hnt
   have hlv2:=hlv
   obtain⟨la,ll,lc,rfl,hll⟩:=hlv2.form
   obtain rfl:ll=k+1:=by simp at hll;omega
   haveI i1:eI ((X:Int)/2) Y:=⟨by omega⟩
   refine W.j ?_
   refine SW.block ?_
   refine W.j fun b_=>?_
   rename_i b0
   rw [aPE,← aLY l k Y]
   refine bQ [0,6,7,8] ((b_,cl (cbs (uC l k Y 0).flatten) 55)::Hb2) (fun x:Hp=>[]) (fun x:Hp=>(b_,cl (cbs (qW l D (k+1)).flatten) 55)::x) (fun x=>eV b tp (s.adds (txs l D (k+1) 0)) x) ?_ ?_
   ·refine W.k ?_
    refine bF [0,6,7,8,53] (fun x:Nat×Hp=>[(54,.int .i64 (x.1:Int))]) (fun x=>(b_,cl (cbs (uC l k Y x.1).flatten) 55)::x.2) (fun x=>Y-x.1) (fun x=>x.1≤Y∧eV b tp (s.adds (txs l D k x.1)) x.2) (0,Hb2) ⟨Nat.zero_le _,hB2⟩ ?_
    rintro⟨i,Hb3⟩ ⟨hi,hB3⟩
    dsimp only at hi hB3 ⊢
    by_cases hiY:i<Y
    ·have hx1:=lO hl k (2*i)
     have hx2:=lO hl k (2*i+1)
     have hg1:=aBC hr32 (hget (2*i) oQ)
     have hg2:=aBC hr32 (hget (2*i+1) oQ)
     have hc1:=lV hx1
     have hc2:=lV hx2
     have hbp:bX (fun i=>[(0,1),(1,1)][i]?) ([.int .i64 0]++[.int .i64 0]) [(0,.int .i64 ((k+1:Nat):Int)),(1,.int .i64 (i:Int))]=some [.int .i64 ((k+1:Nat):Int),.int .i64 (i:Int)]:=rfl
     have hp32:=aKh hl k Y i
     have hpl:=aID l k hi
     have hfit:i*32+32≤(cbs (uC l k Y i).flatten).length:=by rw [aI,dI hp32,hpl];omega
     have hset:=aHd (x:=atV l (k+1) i) hp32 (i:=i) oQ
     rw [aIE l k hiY] at hset
     have hr:=lV (lO hl (k+1) i)
     refine W.k ?_
     (refine SW.l [21,23] [0,1,2,3,4,5,6,7,8,9,10,11,12,13,14,15,16,17,18,19,20] ?_;refine bO 21 ?_)
     refine aF (aJ0 hB3 (k+1) i _ _ hx1 hx2) ?_
     rintro _ Hb4 ⟨rfl,hB4⟩
     rw [Bk.adds_one,hst] at hB4
     rw [show oV (k+1) i (atV l k (2*i)) (atV l k (2*i+1))=atV l (k+1) i from rfl]
     (refine SL.l [22] ?_;refine bO 23 ?_;refine W.i ?_;refine SS.dn ?_)
     rw [hset]
     refine W.k ?_
     refine aQ.mk (i+1,Hb4) ?_
     exact⟨by omega,hB4⟩
    ·have hi2:i=Y:=oQ
     subst hi2
     rw [hpa]
     rw [hnt] at hB3
     refine W.k ?_
     refine bT.mk Hb3 ?_
     exact hB3
   intro Hb3 hB3
   refine W.k fun b_=>?_
   rename_i b1
   rw [bs1]
   refine W.ap (ys:=[.slice (some ⟨b1,0,none⟩) Y Y]) (mm:=1) hlv (fun w2 hs=>(Sl.own 177 1 b_ (xs:=[.slice (some ⟨b1,0,none⟩) Y Y]) rfl).srcAt hs inferInstance) (fun lv2 Hl2 hv2=>?_) (hys:=rfl) (hbytes:=by simp;omega)
   have h21:=hv2.isOne
   refine W.k ?_
   rw [show ([.pointer (some ⟨b,0,none⟩),.int .i64 (l.length:Int),.slice la (k+1) lc]:List Value).set 2 lv2=[.pointer (some ⟨b,0,none⟩),.int .i64 (l.length:Int),lv2] from rfl]
   subst hYe
   refine aQ.mk ⟨k+1,lv2,vs++[.slice (some ⟨nb2,0,none⟩) X X],Hl2,Hw++[(nb2,cl (cbs (qW l D k).flatten) 55)],b1,Hb3⟩ ?_
   exact⟨hkD,hv2,hrwn,hB3⟩
  ·have hk2:k=D:=oQ
   subst hk2
   have e1:2^(k-k)=1:=by rw [dW]
   have hrwn:=hrw.new (b:=nb2) (aEv hl k k) (wS l k k)
   rw [zF] at hrwn
   rw [aMo] at hB2
   rw [e1] at hlv hrwn ⊢
   obtain⟨la,ll,lc,rfl,hll⟩:=hlv.form
   refine W.k ?_
   refine bT.mk ⟨k,.slice la ll lc,vs++[.slice (some ⟨nb2,0,none⟩) 1 1],Hl,Hw++[(nb2,cl (cbs (qW l k k).flatten) 55)],nb2,Hb2⟩ ?_
   exact⟨hlv,hrwn,hB2⟩
abbrev rR(t b:Nat)(l:List (List UInt8))(H:Hp):Prop:=vM t b l.length (lK l (dep l.length) (dep l.length+1)) H
theorem aBc(l:List (List UInt8)){D k d:Nat}(h:d<k):(lK l D k)[d]?=some (qW l D d):=by simp [lK,h]
theorem jM.get{vs:List Value}{L:List (List (List UInt8))}{H:Hp}(h:jM vs L H){d:Nat}{r:List (List UInt8)}(hd:L[d]?=some r) :
  ∃ (rb cap:Nat) (junk:List Value),vs[d]?=some (.slice (some ⟨rb,0,none⟩) r.length cap)∧At H rb (cl (cbs r.flatten++junk) 55)∧D32 r∧r.length≤cap:=by
 obtain⟨ws,rfl,rfl,rfl,h4⟩:=h
 rw [aJ] at hd
 obtain⟨w,hw,rfl⟩:=Option.map_eq_some_iff.1 hd
 have hm:=aT hw
 exact⟨w.b,w.cap,w.junk,by rw [aJ,hw];rfl,⟨bH.2 ⟨w,hm,rfl⟩⟩,(h4 w hm).1,(h4 w hm).2.2⟩
theorem vM.open{t b n:Nat}{L:List (List (List UInt8))}{H:Hp}(h:vM t b n L H)(hL:0<L.length) :
  ∃ (lb lc:Nat) (vs lj:List Value) (Hw:Hp),H=(t,cl [.pointer (some ⟨b,0,none⟩),.int .i64 (n:Int),.slice (some ⟨lb,0,none⟩) L.length lc] 180)::([(lb,cl (vs++lj) 177)]++Hw)∧jM vs L Hw∧vs.length=L.length∧L.length≤lc:=by
 obtain⟨lv,vs,Hl,Hw,rfl,hlv,hrw⟩:=h
 have hv:=hrw.len
 rcases hlv with ⟨rfl,rfl,rfl⟩|⟨lb,len,cap,junk,rfl,hx,hj,hlc,rfl⟩
 ·simp at hv;omega
 ·obtain rfl:len=L.length:=by omega
  exact⟨lb,cap,vs,junk,Hw,rfl,hrw,hv,hlc⟩
theorem xB{vs lj:List Value}{d:Nat}{v:Value}(h:vs[d]?=some v):(vs++lj)[d]?=some v:=by
 rw [aL (aE.1 h).1];exact h
theorem nM{L:List (List UInt8)}{junk:List Value}{x:List UInt8}{n:Nat}(h:∀ x∈L,x.length=n){i:Nat}(hi:L[i]?=some x):((cbs L.flatten++junk).drop (i*n)).take n=cbs x:=by
 have hlt:=(aE.1 hi).1
 have hl:(cbs L.flatten).length=L.length*n:=by rw [aI,dI h]
 have h2:(i+1)*n≤L.length*n:=dD n hlt
 rw [gF] at h2
 rw [cM oQ,bW (by rw [bG];omega)]
 exact aBC h hi
theorem aOG{t b n:Nat}{L:List (List (List UInt8))}{H:Hp}(hT:vM t b n L H):Tri prog 52 [.pointer (some ⟨t,0,none⟩)] H (fun _=>True) (fun v H'=>v=.int .i64 (n:Int)∧H'=H):=by
 obtain⟨lv,vs,Hl,Hw,rfl,hlv,hrw⟩:=hT
 have h1:=hlv.isOne
 refine Tri.mk func52 rfl ntmps52 rfl fun w hw=>?_
 refine W.k ?_
 refine Fin.to ((t,cl [.pointer (some ⟨b,0,none⟩),.int .i64 (n:Int),lv] 180)::(Hl++Hw)) ?_
 exact F.f1 ⟨rfl,rfl⟩
theorem aK6{t b tp n D:Nat}{s:Bk}{L:List (List (List UInt8))}{r:List (List UInt8)}{x:List UInt8}{Ht Hb:Hp}(hT:vM t b n L Ht)(hB:eV b tp s Hb)(hL:L.length=D+1)(hr:L[D]?=some r)(hx:r[0]?=some x)(hm:D≤1099511627776) :
  Tri prog 63 [.pointer (some ⟨t,0,none⟩)] (Ht++Hb) (fun _=>True) (fun v H'=>∃ Hb',v=dgV (Sha.sum (nF n x))∧H'=Ht++Hb'∧eV b tp (s.add (nF n x)) Hb'):=by
 obtain⟨lb,lc,vs,lj,Hw,rfl,hrw,hvl,hlc⟩:=hT.open oQ
 obtain⟨rb,rc,rj,hv,hat,hr32,hrc⟩:=hrw.get hr
 have hrl:=(aE.1 hx).1
 have hv2:=xB (lj:=lj) hv
 have hg:=nM (junk:=rj) hr32 hx
 rw [jR] at hg
 have hx32:=hr32 x (aT hx)
 have hc:=lV hx32
 rw [hL] at hlc hvl ⊢
 refine Tri.mk func63 rfl ntmps63 rfl fun w hw=>?_
 haveI i1:eI (((D+1:Nat):Int)-1) D:=⟨by omega⟩
 have hrr:=lV (Sha.sum_len (nF n x))
 refine W.k fun b_=>?_
 (refine SW.l [22,23] [0,1,2,3,4,5,6,7,8,9,10,11,12,13,14,15,16,17,18,19,20,21] ?_;refine bO 22 ?_)
 refine aF (aOk hB n x hx32) ?_
 rintro _ Hb' ⟨rfl,hB'⟩
 (refine bC [] ?_;refine bO 23 ?_;refine W.i ?_;refine SS.dn ?_)
 refine W.k ?_
 refine F.cH (((t,cl [.pointer (some ⟨b,0,none⟩),.int .i64 (n:Int),.slice (some ⟨lb,0,none⟩) (D+1) lc] 180)::([(lb,cl (vs++lj) 177)]++Hw))++Hb') (cbs (Sha.sum (nF n x))) ?_
 exact⟨Hb',rfl,rfl,hB'⟩
theorem aDS{t b tp:Nat}{s:Bk}{l:List (List UInt8)}{Ht Hb:Hp}(hT:rR t b l Ht)(hB:eV b tp s Hb)(h2:l.length≤1024) :
  Tri prog 63 [.pointer (some ⟨t,0,none⟩)] (Ht++Hb) (fun _=>True) (fun v H'=>∃ Hb',v=dgV (fU l)∧H'=Ht++Hb'∧eV b tp (s.add (nF l.length (aEC l))) Hb'):=
 aK6 (r:=qW l (dep l.length) (dep l.length)) hT hB (by simp [lK]) (aBc l oQ) (wR l (Nat.pow_pos oQ)) (by have:=uR (n:=l.length) (k:=10) (by simpa using h2);omega)
theorem aMG{t b n:Nat}{L:List (List (List UInt8))}{H:Hp}(hT:vM t b n L H)(k:Int):Tri prog 87 [.pointer (some ⟨t,0,none⟩),.int .i64 k] H (fun _=>True) (fun v H'=>v=.bool (decide (0≤k∧k<n))∧H'=H):=by
 obtain⟨lv,vs,Hl,Hw,rfl,hlv,hrw⟩:=hT
 have h1:=hlv.isOne
 refine Tri.mk func87 rfl ntmps87 rfl fun w hw=>?_
 by_cases h2:0≤k
 ·by_cases h3:k<n
  ·rw [decide_eq_true ⟨h2,h3⟩]
   refine W.k ?_
   refine Fin.to ((t,cl [.pointer (some ⟨b,0,none⟩),.int .i64 (n:Int),lv] 180)::(Hl++Hw)) ?_
   exact F.f1 ⟨rfl,rfl⟩
  ·rw [decide_eq_false (fun h=>h3 h.2)]
   refine W.k ?_
   refine Fin.to ((t,cl [.pointer (some ⟨b,0,none⟩),.int .i64 (n:Int),lv] 180)::(Hl++Hw)) ?_
   exact F.f1 ⟨rfl,rfl⟩
 ·rw [decide_eq_false (fun h=>h2 h.1)]
  refine W.k ?_
  refine Fin.to ((t,cl [.pointer (some ⟨b,0,none⟩),.int .i64 (n:Int),lv] 180)::(Hl++Hw)) ?_
  exact F.f1 ⟨rfl,rfl⟩
def lW(l:List (List UInt8))(k:Int):List UInt8:=if 0≤k∧k<l.length then l.getD k.toNat z32 else z32
theorem aMt{t b:Nat}{l:List (List UInt8)}{H:Hp}(hT:rR t b l H)(k:Int)(h2:l.length≤1024):Tri prog 37 [.pointer (some ⟨t,0,none⟩),.int .i64 k] H (fun _=>True) (fun v H'=>v=dgV (lW l k)∧H'=H):=by
 have hT2:=hT
 have hle:=yT l.length
 obtain⟨lb,lc,vs,lj,Hw,rfl,hrw,hvl,hlc⟩:=hT.open (by simp [lK])
 have hH:=aMG hT2 k
 obtain⟨rb,rc,rj,hv,hat,hr32,hrc⟩:=hrw.get (aBc l (D:=dep l.length) (k:=dep l.length+1) (d:=0) oQ)
 rw [wS,iZ] at hv hrc
 have hv2:=xB (lj:=lj) hv
 have hLl:(lK l (dep l.length) (dep l.length+1)).length=dep l.length+1:=by simp [lK]
 rw [hLl] at hlc hH ⊢
 refine Tri.mk func37 rfl ntmps37 rfl fun w hw=>?_
 refine W.k fun b_=>?_
 refine W.cq hH ?_
 by_cases hk:0≤k∧k<(l.length:Int)
 ·obtain⟨j,rfl⟩:∃ j:Nat,k=(j:Int):=⟨k.toNat,by omega⟩
  have hj:j<l.length:=oQ
  have hx:lW l (j:Int)=atV l 0 j:=by unfold lW;rw [if_pos hk,aP];rfl
  have hg:=nM (junk:=rj) hr32 (wR l (D:=dep l.length) (d:=0) (i:=j) (by rw [iZ];omega))
  have hc:=lV (hr32 _ (aT (wR l (D:=dep l.length) (d:=0) (i:=j) (by rw [iZ];omega))))
  rw [decide_eq_true hk,hx]
  generalize 2^dep l.length=X at *
  refine W.k ?_
  refine F.cH ((t,cl [.pointer (some ⟨b,0,none⟩),.int .i64 (l.length:Int),.slice (some ⟨lb,0,none⟩) (dep l.length+1) lc] 180)::([(lb,cl (vs++lj) 177)]++Hw)) (cbs (atV l 0 j)) ?_
  exact⟨rfl,rfl⟩
 ·have hx:lW l k=z32:=by unfold lW;rw [if_neg hk]
  rw [decide_eq_false hk,hx]
  refine W.k ?_
  refine F.cH ((t,cl [.pointer (some ⟨b,0,none⟩),.int .i64 (l.length:Int),.slice (some ⟨lb,0,none⟩) (dep l.length+1) lc] 180)::([(lb,cl (vs++lj) 177)]++Hw)) (cbs z32) ?_
  exact⟨rfl,rfl⟩
theorem b1d{x:List UInt8}(h:x.length=32):bX (fun i=>some (i*32,32)) (zs (List.replicate 32 (.int .u8 0)) 1) [(0,dgV x)]=some (cbs x):=by
 have h1:(vl (dgV x)).length=32:=lV h
 have h2:(zs (List.replicate 32 (.int .u8 0)) 1).length=32:=by rw [aBj,aS]
 unfold bX
 dsimp only
 rw [if_pos ⟨h1,by omega⟩]
 unfold bX
 rw [jR,cT,List.nil_append,fX,gO oQ,aH]
 rfl
theorem rM{P:Program}{C:Ctx}{ρ:Fr}{H:Hp}{fn:Func}{R:Value→Hp→Prop}{e:Exit}{t ty n b u:Nat}{l:List Value}{v2:Value}{T:TypeId}(Hc:Hp){s:Hp}(l2:List Value) [hp:fA H Hc s](hR:R (.tuple #[.agg l2.toArray,v2]) Hc)(he:e=.ret∨e=.normal:=by first|exact .inl rfl|exact .inr rfl)(hrs:fn.results=#[.cell t ty,.tmp u]:=by exact rfl)(ht:lk ρ t=some (.pointer (some ⟨b,0,none⟩)):=by exact rfl)(hu:lk ρ u=some v2:=by exact rfl)(hat:At H b (cl l T):=by infer_instance)(hl:l=l2:=by first|assumption|exact rfl)(iR:fC P ty n:=by infer_instance)(hn:l2.length=n:=by first|assumption|exact rfl):Fin P C fn R e ρ H:=by
 subst hl
 exact Fin.c1t1 he hrs ht hu hn Hc hR
theorem aMT(d i:Nat)(hd:d≤1099511627776)(hi:i≤1099511627776):Tri prog 171 [aCz d i] [] (fun _=>True) (fun v H=>v=aCz (d+1) (i/2)∧H=[]):=by
 refine Tri.mk func171 rfl ntmps171 rfl fun w hw=>?_
 have hbp:bX (fun i=>[(0,1),(1,1)][i]?) ([.int .i64 0]++[.int .i64 0]) [(0,.int .i64 ((d:Int)+1)),(1,.int .i64 ((i:Int)/2))]=some [.int .i64 ((d+1:Nat):Int),.int .i64 ((i/2:Nat):Int)]:=rfl
 (refine W.k ?_;repeat intro b_)
 exact F.c0 [.int .i64 ((d+1:Nat):Int),.int .i64 ((i/2:Nat):Int)] ⟨rfl,rfl⟩
theorem xH{l:List (List UInt8)}(hl:D32 l)(k:Int):(lW l k).length=32:=by
 unfold lW
 split
 ·exact lO hl 0 k.toNat
 ·rfl
namespace Aes
def rotW(w:List UInt8):List UInt8:=w.drop 1++w.take 1
def xorH(w:List UInt8)(p:UInt8):List UInt8:=w.set 0 (w.getD 0 0 ^^^ p)
def nextW(w:List UInt8)(i n:Nat):List UInt8:=
 if i%n=0 then xorH (subW (rotW w)) (Gf.pow 2 (i/n-1)) else if 6<n∧i%n=4 then subW w else w
theorem nextW_len{w:List UInt8}(h:w.length=4)(i n:Nat):(nextW w i n).length=4:=by
 unfold nextW xorH rotW
 split
 ·rw [bS,subW_len];simp;omega
 ·split
  ·rw [subW_len];exact h
  ·exact h
end Aes
theorem four{w:List UInt8}(h:w.length=4):∃ a b c d,w=[a,b,c,d]:=by
 match w,h with
 | [a,b,c,d],_=>exact⟨a,b,c,d,rfl⟩
abbrev W4(ws:List (List UInt8)):Prop:=∀ x∈ws,x.length=4
theorem aLj{c b bw len cap:Nat}{r:Value}{junk:List Value}(ws:List (List UInt8))(hws:W4 ws)(hl:ws.length=len)(hc:len≤cap)(w0:List UInt8)(i n:Nat)(hn:4≤n)(hn8:n≤8)(hi:n≤i)(hi6:i≤1000)(hw0:ws[i-1]?=some w0) :
  Tri prog 93 [.pointer (some ⟨c,0,none⟩),.int .i64 (i:Int),.int .i64 (n:Int)] [(bw,cl (cbs ws.flatten++junk) 193),(c,qC b (.slice (some ⟨bw,0,none⟩) len cap) r),(b,gU)] (fun _=>True)
  (fun v H=>v=.agg (cbs (Aes.nextW w0 i n)).toArray∧H=[(bw,cl (cbs ws.flatten++junk) 193),(c,qC b (.slice (some ⟨bw,0,none⟩) len cap) r),(b,gU)]):=by
 refine Tri.mk func93 rfl ntmps93 rfl fun w hw=>?_
 have hx4:=hws w0 (aT hw0)
 have hil:i-1<ws.length:=(aE.1 hw0).1
 have hg:=nM (junk:=junk) hws hw0
 haveI:eI ((i:Int)-1) (i-1):=⟨by omega⟩
 obtain⟨a0,a1,a2,a3,rfl⟩:=four hx4
 have hL:=Aes.nextW_len hx4 i n
 have hL2:(cbs (Aes.nextW [a0,a1,a2,a3] i n)).length=4:=by unfold cbs;rw [aD,hL]
 generalize hF:(cbs ws.flatten++junk)=Fc at *
 refine W.j fun _ b_=>?_
 rename_i b6
 have hR:∀ k,k=i/n-1→(i:Int)/(n:Int)-1=(k:Int):=fun k hk=>by
  have h1:1≤i/n:=Nat.div_pos hi oQ
  have h2:(i:Int)/(n:Int)=((i/n:Nat):Int):=by simp
  omega
 have hM:(i:Int)%(n:Int)=((i%n:Nat):Int):=by simp
 refine bQ [6,7] [(b_,cl (cbs [a0,a1,a2,a3]) 193),(b6,cl [.int .u8 0,.int .u8 0,.int .u8 0,.int .u8 0] 193),(bw,cl Fc 193),(c,qC b (.slice (some ⟨bw,0,none⟩) len cap) r),(b,gU)] (fun _:Unit=>[])
  (fun _=>[(b_,cl (cbs (Aes.nextW [a0,a1,a2,a3] i n)) 193),(b6,cl [.int .u8 0,.int .u8 0,.int .u8 0,.int .u8 0] 193),(bw,cl Fc 193),(c,qC b (.slice (some ⟨bw,0,none⟩) len cap) r),(b,gU)]) (fun _=>True) ?_ ?_
 ·have hs:=aNj (c:=c) (b:=b) (ws:=.slice (some ⟨bw,0,none⟩) len cap) (r:=r)
  by_cases h0:i%n=0
  ·rw [h0] at hM
   have e:Aes.nextW [a0,a1,a2,a3] i n=[Aes.S a1 ^^^ Gf.pow 2 (i/n-1),Aes.S a2,Aes.S a3,Aes.S a0]:=by unfold Aes.nextW;rw [if_pos h0];rfl
   have hc0:cbs [a0,a1,a2,a3]=[u8v a0,u8v a1,u8v a2,u8v a3]:=rfl
   have hl4:(cbs (Aes.subW [a1,a2,a3,a0])).length=4:=rfl
   rw [e,hc0]
   refine W.k ?_
   refine W.cw (hs [a1,a2,a3,a0] rfl) ?_
   have hw:IntKind.i64.wrap ((i:Int)/(n:Int)-1)=((i/n-1:Nat):Int):=by
    have h2:i/n≤1000:=fN (kK ..) hi6
    rw [hR _ rfl];exact w64 oQ
   have h2:i/n-1≤1000000:=by
    have h2:i/n≤1000:=fN (kK ..) hi6
    omega
   (refine SW.l [9] [0,1,2,3] ?_;refine dZ 4 rfl (aGJ rfl rfl rfl oQ oQ oQ) ?_;refine dZ 5 rfl (aDt rfl rfl rfl hw) ?_;refine bA 6 ?_)
   refine W.cq (aHD 2 (i/n-1) h2) ?_
   (refine SL.l [7,8] ?_;refine bO 9 ?_;refine W.i ?_;refine SS.dn ?_)
   have hfin:(cbs (Aes.subW [a1,a2,a3,a0])).set 0 (.int .u8 ((Aes.S a1 ^^^ Gf.pow 2 (i/n-1)).toNat:Int))=cbs [Aes.S a1 ^^^ Gf.pow 2 (i/n-1),Aes.S a2,Aes.S a3,Aes.S a0]:=rfl
   rw [hfin]
   refine W.k ?_
   refine bT.mk () ?_
   trivial
  ·have h0':¬ (i:Int)%(n:Int)=0:=oQ
   by_cases h6:6<n
   ·by_cases h4:i%n=4
    ·have h4':(i:Int)%(n:Int)=4:=oQ
     have e:Aes.nextW [a0,a1,a2,a3] i n=Aes.subW [a0,a1,a2,a3]:=by unfold Aes.nextW;rw [if_neg h0,if_pos ⟨h6,h4⟩]
     have hl4:(cbs (Aes.subW [a0,a1,a2,a3])).length=4:=rfl
     rw [e]
     refine W.k ?_
     refine W.cw (hs [a0,a1,a2,a3] rfl) ?_
     refine bT.mk () ?_
     trivial
    ·have h4':¬ (i:Int)%(n:Int)=4:=oQ
     have e:Aes.nextW [a0,a1,a2,a3] i n=[a0,a1,a2,a3]:=by unfold Aes.nextW;rw [if_neg h0,if_neg (fun h=>h4 h.2)]
     rw [e]
     refine W.k ?_
     refine bT.mk () ?_
     trivial
   ·have e:Aes.nextW [a0,a1,a2,a3] i n=[a0,a1,a2,a3]:=by unfold Aes.nextW;rw [if_neg h0,if_neg (fun h=>h6 h.1)]
    rw [e]
    refine W.k ?_
    refine bT.mk () ?_
    trivial
 rintro _ -
 refine W.k ?_
 exact F.cH [(bw,cl Fc 193),(c,qC b (.slice (some ⟨bw,0,none⟩) len cap) r),(b,gU)] _ ⟨rfl,rfl⟩
theorem Rd.lastAt{w:World}{a:Option Addr}{len cap:Nat}{bs:List UInt8}(h:Rd [] w 1 (.slice a len cap) (cbs bs))(hl:0<len):∃ (b o:Nat) (l:List Value) (T:TypeId) (fz:Nat×Nat) (c:UInt8),a=some ⟨b,o,none⟩∧w.heap[b]?=some (.cells l.toArray T fz)∧b∉([]:List Nat)∧l[o+(len-1)]?=some (.int .u8 (c.toNat:Int)):=by
 obtain⟨a',len',cap',he,hyl,hc,hr⟩:=h.get
 cases he
 rw [aI,Nat.mul_one] at hyl
 obtain⟨b,o,l,T,fz,ha,hb,hk,hys⟩:=hr hl
 obtain⟨c,hc1⟩:∃ c,bs[len-1]?=some c:=⟨_,aA oQ⟩
 refine⟨b,o,l,T,fz,c,ha,hb,hk,?_⟩
 have:((l.drop o).take (len*1))[len-1]?=(cbs bs)[len-1]?:=by rw [hys]
 rw [bE,if_pos oQ,bI] at this
 rw [this]
 unfold cbs
 rw [aJ,hc1]
 rfl
theorem aI5(v:Value)(bs:List UInt8):Tri prog 66 [v] [] (fun w=>Rd [] w 1 v (cbs bs)) (fun v H=>∃ ys:List UInt8,ys.length=256∧Sl 5 1 v (cbs ys) H):=by
 refine Tri.mk func66 rfl ntmps66 rfl fun w hw=>?_
 obtain⟨a,len,cap,rfl,hl,hc,-⟩:=hw.get
 rw [aI,Nat.mul_one] at hl
 by_cases hb:256<len
 ·have hR:=Rd.pre 256 hw
  rw [show min 256 len=256 by omega] at hR
  obtain⟨b0,o0,l0,T0,fz0,c,rfl,hbq,hbk,hcell⟩:=hR.lastAt oQ
  refine W.j fun b_=>?_
  have h0:Sl 5 1 (.slice (some ⟨b_,0,none⟩) 0 0) [] [(b_,cl ([]:List Value) 5)]:=Sl.mk (xs:=[]) (junk:=[]) (len:=0) (cap:=0) rfl rfl (Nat.le_refl _)
  have hml:(bs.take 256).length=256:=by first|exact hl|(rw [aG];omega)
  refine W.ap h0 (fun w2 hs=>hR.srcAt hs) (fun v1 H1 h1=>?_) (hys:=by rw [aI,Nat.mul_one];exact hml) (hbytes:=by rw [aI,hml];simp <;> omega)
  have h11:=h1.isOne
  rw [List.nil_append] at h1
  refine W.j ?_
  refine bQ [] H1 (fun x:Value×Hp×List UInt8=>[(3,x.1)]) (fun x=>x.2.1) (fun x=>x.2.2.length=256∧Sl 5 1 x.1 (cbs x.2.2) x.2.1) ?_ ?_
  ·refine W.k ?_
   refine bF [0] (fun x:List UInt8×Value×Hp=>[(3,x.2.1)]) (fun x=>x.2.2) (fun x=>256-x.1.length) (fun x=>x.1.length≤256∧Sl 5 1 x.2.1 (cbs x.1) x.2.2) (bs.take 256,v1,H1) ⟨by rw [hml];omega,h1⟩ ?_
   rintro⟨ys,v2,H2⟩ ⟨hy,h2⟩
   dsimp only at hy h2 ⊢
   have h21:=h2.isOne
   obtain⟨a2,l2,c2,rfl,hl2⟩:=h2.form
   rw [aI,Nat.mul_one] at hl2
   by_cases hlt:ys.length<256
   ·have hbf:bX (fun i=>some (i*1,1)) (zs [.int .u8 0] 1) [(0,.int .u8 (c.toNat:Int))]=some (cbs [c]):=rfl
    have hN:eI (((256:Nat):Int)-1) (256-1):=⟨by omega⟩
    refine W.k fun b_=>?_
    refine W.ap (ys:=cbs [c]) (mm:=1) h2 (fun w2 hs=>(Sl.own 5 1 b_ (xs:=cbs [c]) rfl).srcAt hs inferInstance) (fun v3 H3 h3=>?_) (hys:=rfl) (hbytes:=by rw [aI,aI];simp <;> omega)
    have h31:=h3.isOne
    rw [← jB] at h3
    refine W.k ?_
    have hyl:(ys++[c]).length=ys.length+1:=by rw [aB,cO]
    refine aQ.mk (ys++[c],v3,H3) ?_
    exact⟨by dsimp only;omega,h3⟩
   ·refine W.k ?_
    refine bT.mk (.slice a2 l2 c2,H2,ys) ?_
    exact⟨by dsimp only;omega,h2⟩
  rintro⟨v2,H2,ys⟩ ⟨hy,h2⟩
  dsimp only at hy h2 ⊢
  have h21:=h2.isOne
  refine W.k ?_
  refine Fin.to H2 ?_
  exact F.f1 ⟨ys,hy,h2⟩
 by_cases hm0:0<len
 ·have hR:=hw
  obtain⟨b0,o0,l0,T0,fz0,c,rfl,hbq,hbk,hcell⟩:=hR.lastAt oQ
  refine W.j fun b_=>?_
  have h0:Sl 5 1 (.slice (some ⟨b_,0,none⟩) 0 0) [] [(b_,cl ([]:List Value) 5)]:=Sl.mk (xs:=[]) (junk:=[]) (len:=0) (cap:=0) rfl rfl (Nat.le_refl _)
  have hml:(bs).length=len:=by first|exact hl|(rw [aG];omega)
  refine W.ap h0 (fun w2 hs=>hR.srcAt hs) (fun v1 H1 h1=>?_) (hys:=by rw [aI,Nat.mul_one];exact hml) (hbytes:=by rw [aI,hml];simp <;> omega)
  have h11:=h1.isOne
  rw [List.nil_append] at h1
  refine W.j ?_
  refine bQ [] H1 (fun x:Value×Hp×List UInt8=>[(3,x.1)]) (fun x=>x.2.1) (fun x=>x.2.2.length=256∧Sl 5 1 x.1 (cbs x.2.2) x.2.1) ?_ ?_
  ·refine W.k ?_
   refine bF [0] (fun x:List UInt8×Value×Hp=>[(3,x.2.1)]) (fun x=>x.2.2) (fun x=>256-x.1.length) (fun x=>x.1.length≤256∧Sl 5 1 x.2.1 (cbs x.1) x.2.2) (bs,v1,H1) ⟨by rw [hml];omega,h1⟩ ?_
   rintro⟨ys,v2,H2⟩ ⟨hy,h2⟩
   dsimp only at hy h2 ⊢
   have h21:=h2.isOne
   obtain⟨a2,l2,c2,rfl,hl2⟩:=h2.form
   rw [aI,Nat.mul_one] at hl2
   by_cases hlt:ys.length<256
   ·have hbf:bX (fun i=>some (i*1,1)) (zs [.int .u8 0] 1) [(0,.int .u8 (c.toNat:Int))]=some (cbs [c]):=rfl
    have hN:eI (((len:Nat):Int)-1) (len-1):=⟨by omega⟩
    refine W.k fun b_=>?_
    refine W.ap (ys:=cbs [c]) (mm:=1) h2 (fun w2 hs=>(Sl.own 5 1 b_ (xs:=cbs [c]) rfl).srcAt hs inferInstance) (fun v3 H3 h3=>?_) (hys:=rfl) (hbytes:=by rw [aI,aI];simp <;> omega)
    have h31:=h3.isOne
    rw [← jB] at h3
    refine W.k ?_
    have hyl:(ys++[c]).length=ys.length+1:=by rw [aB,cO]
    refine aQ.mk (ys++[c],v3,H3) ?_
    exact⟨by dsimp only;omega,h3⟩
   ·refine W.k ?_
    refine bT.mk (.slice a2 l2 c2,H2,ys) ?_
    exact⟨by dsimp only;omega,h2⟩
  rintro⟨v2,H2,ys⟩ ⟨hy,h2⟩
  dsimp only at hy h2 ⊢
  have h21:=h2.isOne
  refine W.k ?_
  refine Fin.to H2 ?_
  exact F.f1 ⟨ys,hy,h2⟩
 ·have hR:=hw
  refine W.j fun b_=>?_
  have h0:Sl 5 1 (.slice (some ⟨b_,0,none⟩) 0 0) [] [(b_,cl ([]:List Value) 5)]:=Sl.mk (xs:=[]) (junk:=[]) (len:=0) (cap:=0) rfl rfl (Nat.le_refl _)
  have hml:(bs).length=len:=by first|exact hl|(rw [aG];omega)
  refine W.ap h0 (fun w2 hs=>hR.srcAt hs) (fun v1 H1 h1=>?_) (hys:=by rw [aI,Nat.mul_one];exact hml) (hbytes:=by rw [aI,hml];simp <;> omega)
  have h11:=h1.isOne
  rw [List.nil_append] at h1
  refine W.j ?_
  refine bQ [] H1 (fun x:Value×Hp×List UInt8=>[(3,x.1)]) (fun x=>x.2.1) (fun x=>x.2.2.length=256∧Sl 5 1 x.1 (cbs x.2.2) x.2.1) ?_ ?_
  ·refine W.k ?_
   refine bF [0] (fun x:List UInt8×Value×Hp=>[(3,x.2.1)]) (fun x=>x.2.2) (fun x=>256-x.1.length) (fun x=>x.1.length≤256∧Sl 5 1 x.2.1 (cbs x.1) x.2.2) (bs,v1,H1) ⟨by rw [hml];omega,h1⟩ ?_
   rintro⟨ys,v2,H2⟩ ⟨hy,h2⟩
   dsimp only at hy h2 ⊢
   have h21:=h2.isOne
   obtain⟨a2,l2,c2,rfl,hl2⟩:=h2.form
   rw [aI,Nat.mul_one] at hl2
   by_cases hlt:ys.length<256
   ·have hbf:bX (fun i=>some (i*1,1)) (zs [.int .u8 0] 1) [(0,.int .u8 0)]=some (cbs [0]):=rfl
    refine W.k fun b_=>?_
    refine W.ap (ys:=cbs [0]) (mm:=1) h2 (fun w2 hs=>(Sl.own 5 1 b_ (xs:=cbs [0]) rfl).srcAt hs inferInstance) (fun v3 H3 h3=>?_) (hys:=rfl) (hbytes:=by rw [aI,aI];simp <;> omega)
    have h31:=h3.isOne
    rw [← jB] at h3
    refine W.k ?_
    have hyl:(ys++[0]).length=ys.length+1:=by rw [aB,cO]
    refine aQ.mk (ys++[0],v3,H3) ?_
    exact⟨by dsimp only;omega,h3⟩
   ·refine W.k ?_
    refine bT.mk (.slice a2 l2 c2,H2,ys) ?_
    exact⟨by dsimp only;omega,h2⟩
  rintro⟨v2,H2,ys⟩ ⟨hy,h2⟩
  dsimp only at hy h2 ⊢
  have h21:=h2.isOne
  refine W.k ?_
  refine Fin.to H2 ?_
  exact F.f1 ⟨ys,hy,h2⟩
end
end Go.Proofs.YtnhnpjokpelkbaaGreat
