/- The document's sums of levels, its root. -/
import Derived.Test.YtnigolgkkjidiaaGreatPr9
import Derived.Test.YtnigolgkkjidiaaGreatPr5
import Derived.Test.YtnigolgkkjidiaaGreatPr4
import Derived.Test.YtnigolgkkjidiaaGreatPr8
set_option linter.unusedVariables false
set_option linter.unusedSimpArgs false
set_option linter.unusedSectionVars false
set_option maxHeartbeats 1000000
namespace Go.Proofs.YtnigolgkkjidiaaGreat
open Go Go.Proofs.Tryz
section
attribute [local irreducible] SW SL SQ SH SA SS Pu Fin bZ aT
theorem Rd.row{K:List Nat}{w:World}{v:Value}{L:List (List UInt8)}(h:Rd K w 32 v (cbs L.flatten))(hL:D32 L):∃ (a:Option Addr) (cap:Nat),v=.slice a L.length cap∧L.length≤cap ∧
  ∀ (i:Nat) (x:List UInt8),L[i]?=some x→∃ (b o:Nat) (l:List Value) (T:TypeId) (fz:Nat×Nat),a=some ⟨b,o,none⟩∧w.heap[b]?=some (.cells l.toArray T fz)∧b∉K∧(l.drop (o+i*32)).take 32=cbs x:=by
 obtain⟨a,len,cap,rfl,h1,h2,h3⟩:=h
 have hl:L.length=len:=by
  rw [aI,eD hL] at h1
  omega
 subst hl
 refine⟨a,cap,rfl,h2,fun i x hi=>?_⟩
 have hlt:i<L.length:=(aG.1 hi).1
 obtain⟨b,o,l,T,fz,rfl,hb,hk,hy⟩:=h3.resolve_left om
 refine⟨b,o,l,T,fz,rfl,hb,hk,?_⟩
 rw [← aBa hL hi,← hy,jX,fS,bR,dB om]
theorem aOQ(l:List (List UInt8))(hl:D32 l)(v:Value)(hn:l.length≤1099511627776):∀ (d i:Nat),(i+1)*2^d≤1099511627776 →
  Tri prog 251 [v,.int .i64 (d:Int),.int .i64 (i:Int)] [] (fun w=>Rd [] w 32 v (cbs l.flatten)) (fun r H=>r=dgV (atV l d i)∧H=[]):=by
 intro d
 induction d with
 | zero=>
  intro i hi
  refine Tri.mk func251 rfl ntmps251 rfl fun w hw=>?_
  have hw2:=hw
  obtain⟨a,cap,rfl,hc,hg⟩:=hw.row hl
  have hr:=pZ (mY hl 0 i)
  by_cases h:i<l.length
  ·obtain⟨b,o,lv,T,fz,rfl,hb,hk,hv⟩:=hg i _ (aA h)
   have ha:atV l 0 i=l[i]:=by unfold atV;rw [aF,aA h];rfl
   rw [← ha] at hv
   refine W.k fun b_=>?_
   exact F.c0 (cbs (atV l 0 i)) ⟨rfl,rfl⟩
  ·have ha:atV l 0 i=z32:=by unfold atV;rw [aF,aY om];rfl
   refine W.k fun b_=>?_
   rw [ha]
   exact F.c0 (cbs z32) ⟨rfl,rfl⟩
 | succ d ih=>
  intro i hi
  refine Tri.mk func251 rfl ntmps251 rfl fun w hw=>?_
  have hw2:=hw
  obtain⟨a,cap,rfl,hc,hg⟩:=hw.row hl
  have hr:=pZ (mY hl (d+1) i)
  have hx1:=mY hl d (2*i)
  have hx2:=mY hl d (2*i+1)
  rw [gG] at hi
  have hb1:(2*i+1)*2^d≤(i+1)*(2^d*2):=by rw [← pB,Nat.mul_right_comm];exact dF _ om
  have hb2:(2*i+1+1)*2^d≤(i+1)*(2^d*2):=by rw [← pB,Nat.mul_right_comm];exact dF _ om
  have hi3:2*i+1≤(2*i+1)*2^d:=Nat.le_mul_of_pos_right _ (Nat.pow_pos om)
  have hd3:d<2^d:=Nat.lt_two_pow_self
  have hd4:2^d≤(2*i+1)*2^d:=Nat.le_mul_of_pos_left _ om
  have h1:=ih (2*i) om
  have h2:=ih (2*i+1) om
  have e1:(((d+1:Nat):Int)-1)=(d:Int):=om
  have e2:((2*i:Nat):Int)=2*(i:Int):=om
  have e3:((2*i+1:Nat):Int)=2*(i:Int)+1:=om
  generalize (i+1)*(2^d*2)=X at hi hb1 hb2
  generalize (2*i+1)*2^d=Y at hb1 hi3 hd4
  generalize (2*i+1+1)*2^d=Z at hb2
  generalize 2^d=D at hd3 hd4
  refine W.k fun b_=>?_
  refine dV h1 ?_ ?_ (hpre:=fun w2 hs=>hw2.ro (Hc:=[]) hs)
  ·rw [e1,e2]
  rintro _ _ ⟨rfl,rfl⟩
  refine W.k ?_
  refine dV h2 ?_ ?_ (hpre:=fun w2 hs=>hw2.ro (Hc:=[]) hs)
  ·rw [e1,e3]
  rintro _ _ ⟨rfl,rfl⟩
  refine W.k ?_
  refine W.cq (aLI (d+1) i _ _ hx1 hx2) ?_
  rw [show vB (d+1) i (atV l d (2*i)) (atV l d (2*i+1))=atV l (d+1) i from rfl]
  refine W.k ?_
  exact F.c0 (cbs (atV l (d+1) i)) ⟨rfl,rfl⟩
theorem aHj(l:List (List UInt8))(hl:D32 l)(v:Value)(hn:l.length≤1024) :
  Tri prog 204 [v] [] (fun w=>Rd [] w 32 v (cbs l.flatten)) (fun r H=>r=dgV (xT l)∧H=[]):=by
 refine Tri.mk func204 rfl ntmps204 rfl fun w hw=>?_
 have hw2:=hw
 obtain⟨a,cap,rfl,hc,hg⟩:=hw.row hl
 have hr:=pZ (Sha.sum_len (nE l.length (aEi l)))
 have hd:dep l.length≤10:=wR (by simpa using hn)
 have hd2:2^dep l.length≤2^10:=cV om hd
 have ht:(aEi l).length=32:=mY hl _ _
 refine W.k fun b_=>?_
 refine W.cw (aJY l.length om) ?_
 refine dV (aOQ l hl (.slice a l.length cap) om (dep l.length) 0 om) rfl ?_ (hpre:=fun w2 hs=>hw2.ro (Hc:=[]) hs)
 rintro _ _ ⟨rfl,rfl⟩
 rw [show atV l (dep l.length) 0=aEi l from rfl]
 refine W.k ?_
 refine W.cw (aNY l.length _ ht) ?_
 exact F.c0 (cbs (xT l)) ⟨rfl,rfl⟩
structure Rw where
 b:Nat
 cap:Nat
 junk:List Value
 r:List (List UInt8)
def Rw.val(w:Rw):Value:=.slice (some ⟨w.b,0,none⟩) w.r.length w.cap
def Rw.hp(w:Rw):Nat×Obj:=(w.b,cl (cbs w.r.flatten++w.junk) 119)
def Rw.Ok(w:Rw):Prop:=D32 w.r∧w.junk.length=(w.cap-w.r.length)*32∧w.r.length≤w.cap
def mL(vs:List Value)(L:List (List (List UInt8)))(H:Hp):Prop:=∃ ws:List Rw,vs=ws.map Rw.val∧L=ws.map Rw.r∧H=ws.map Rw.hp∧∀ w∈ws,w.Ok
theorem mL.nil:mL [] [] []:=⟨[],rfl,rfl,rfl,by simp⟩
theorem mL.snoc{vs:List Value}{L:List (List (List UInt8))}{H:Hp}(h:mL vs L H)(w:Rw)(hw:w.Ok):mL (vs++[w.val]) (L++[w.r]) (H++[w.hp]):=by
 obtain⟨ws,rfl,rfl,rfl,h4⟩:=h
 refine⟨ws++[w],by simp,by simp,by simp,fun x hx=>?_⟩
 rcases cK.1 hx with h|h
 ·exact h4 x h
 ·rw [dP] at h;subst h;exact hw
theorem mL.new{vs:List Value}{L:List (List (List UInt8))}{H:Hp}(h:mL vs L H){b len:Nat}{r:List (List UInt8)}(hr:D32 r)(hl:r.length=len):mL (vs++[.slice (some ⟨b,0,none⟩) len len]) (L++[r]) (H++[(b,cl (cbs r.flatten) 119)]):=by
 subst hl
 have:=h.snoc ⟨b,r.length,[],r⟩ ⟨hr,by simp,Nat.le_refl _⟩
 simpa [Rw.val,Rw.hp] using this
theorem mL.len{vs:List Value}{L:List (List (List UInt8))}{H:Hp}(h:mL vs L H):vs.length=L.length:=by
 obtain⟨ws,rfl,rfl,rfl,h4⟩:=h
 simp
def aBB(t b n:Nat)(L:List (List (List UInt8)))(H:Hp):Prop:=
 ∃ lv vs Hl Hw,H=(t,cl [.pointer (some ⟨b,0,none⟩),.int .i64 (n:Int),lv] 278)::(Hl++Hw)∧Sl 275 1 lv vs Hl∧mL vs L Hw
def Bk.adds(s:Bk)(ts:List (List UInt8)):Bk:=ts.foldl Bk.add s
theorem Bk.adds_one(s:Bk)(ts:List (List UInt8))(t:List UInt8):(s.adds ts).add t=s.adds (ts++[t]):=by simp [Bk.adds]
def aJh(l:List (List UInt8))(D d:Nat)(i:Nat):List (List UInt8):=(List.range i).map fun i=>xO (d+1) i (atV l d (2*i)) (atV l d (2*i+1))
def txs(l:List (List UInt8))(D k i:Nat):List (List UInt8):=((List.range k).flatMap fun d=>aJh l D d (2^(D-(d+1))))++aJh l D k i
theorem aKm(l:List (List UInt8))(D k i:Nat):txs l D k i++[xO (k+1) i (atV l k (2*i)) (atV l k (2*i+1))]=txs l D k (i+1):=by
 simp [txs,aJh,bS]
theorem aKl(l:List (List UInt8))(D k:Nat):txs l D k (2^(D-(k+1)))=txs l D (k+1) 0:=by
 simp [txs,aJh,bS]
theorem aLV(l:List (List UInt8))(D:Nat):txs l D D 0=uR l D:=by
 simp [txs,aJh,uR]
def nZ(l:List (List UInt8))(D k:Nat):List (List (List UInt8)):=(List.range k).map (qN l D)
theorem yT(l:List (List UInt8))(D k:Nat):nZ l D k++[qN l D k]=nZ l D (k+1):=by simp [nZ,bS]
theorem aO1(n:Nat):zs (List.replicate 32 (.int .u8 0)) n=cbs (List.replicate n z32).flatten:=by
 unfold zs cbs
 rw [List.map_flatten,dX,dX]
 rfl
theorem aLZ(n:Nat):D32 (List.replicate n z32):=by
 intro x hx
 rw [fT hx];rfl
theorem aPc(l:List (List UInt8)){D:Nat}(h:l.length≤2^D):qN l D 0=l++List.replicate (2^D-l.length) z32:=by
 apply cM
 intro i
 rcases mW i (2^D) with h1|h1
 ·rw [wH l (by simpa using h1)]
  unfold atV
  rw [aF]
  rcases mW i l.length with h2|h2
  ·rw [aN h2,aA h2];rfl
  ·rw [aS h2,aY h2,gX,if_pos om];rfl
 ·rw [aY (by rw [wI];simpa using h1),aY (by simp;omega)]
theorem aGj(l:List (List UInt8))(hl:D32 l){D X:Nat}(hX:X=2^D)(h:l.length≤X):List.take 0 (cbs (List.replicate X z32).flatten)++cbs l.flatten++List.drop (0+(cbs l.flatten).length) (cbs (List.replicate X z32).flatten)=cbs (qN l D 0).flatten:=by
 subst hX
 rw [aPc l h,cQ,List.nil_append,fP,aI,eD hl,show List.replicate (2^D) z32=List.replicate l.length z32++List.replicate (2^D-l.length) z32 by rw [fD];congr 1;omega,eW,eW,gT,gT]
 congr 1
 rw [bW (by rw [aI,eD (aLZ _)];simp),eB (by rw [aI,eD (aLZ _)];simp),List.nil_append]
def tS(l:List (List UInt8))(k Y i:Nat):List (List UInt8):=(List.range i).map (atV l (k+1))++List.replicate (Y-i) z32
theorem aJM{l:List (List UInt8)}(hl:D32 l)(k Y i:Nat):D32 (tS l k Y i):=by
 intro x hx
 rcases cK.1 hx with h|h
 ·obtain⟨j,-,rfl⟩:=bG.1 h;exact mY hl _ _
 ·exact aLZ _ x h
theorem aHX(l:List (List UInt8))(k:Nat){Y i:Nat}(h:i≤Y):(tS l k Y i).length=Y:=by simp [tS];omega
theorem aHY(l:List (List UInt8))(k:Nat){Y i:Nat}(h:i<Y):(tS l k Y i).set i (atV l (k+1) i)=tS l k Y (i+1):=by
 unfold tS
 rw [bX _ _ (by simp),aE,cZ,dM,show Y-i=(Y-(i+1))+1 by omega,fF,dE,bS]
 simp
theorem aLv(l:List (List UInt8))(k Y:Nat):tS l k Y 0=List.replicate Y z32:=by simp [tS]
theorem aHW(l:List (List UInt8))(D k:Nat):tS l k (2^(D-(k+1))) (2^(D-(k+1)))=qN l D (k+1):=by simp [tS,qN]
structure NS where
 k:Nat
 lv:Value
 vs:List Value
 Hl:Hp
 Hw:Hp
 b:Nat
 Hb:Hp
theorem aOF{b tp:Nat}{s:Bk}{Hb:Hp}(hB:fR b tp s Hb)(v:Value)(l:List (List UInt8))(hl:D32 l)(h1:1≤l.length)(h2:l.length≤1024) :
  Tri prog 193 [.pointer (some ⟨b,0,none⟩),v] Hb (fun w=>Rd (Hb.map Prod.fst) w 32 v (cbs l.flatten)) (fun r H'=>∃ t Ht Hb',r=.tuple #[.pointer (some ⟨t,0,none⟩),.int .i64 0]∧H'=Ht++Hb'∧aBB t b l.length (nZ l (dep l.length) (dep l.length+1)) Ht∧fR b tp (s.adds (uR l (dep l.length))) Hb'):=by
 refine Tri.mk func193 rfl ntmps193 rfl fun w hw=>?_
 have hw2:=hw
 obtain⟨a,cap,rfl,hc,hg⟩:=hw.row hl
 have hd:dep l.length≤10:=wR (by simpa using h2)
 have hle:=aAu l.length
 have hdp:=aK7 l.length om
 generalize dep l.length=D at hd hle hdp ⊢
 obtain⟨X,hX⟩:∃ X,X=2^D:=⟨_,rfl⟩
 have hX2:X≤1024:=by rw [hX];exact cV (n:=2) om hd
 rw [← hX] at hle
 have hbf:bQ (fun i=>[(0,1),(1,1),(2,1)][i]?) ([.pointer none]++[.int .i64 0]++[.slice none 0 0]) [(0,.pointer (some ⟨b,0,none⟩)),(1,.int .i64 (l.length:Int))]=some [.pointer (some ⟨b,0,none⟩),.int .i64 (l.length:Int),.slice none 0 0]:=rfl
 refine W.k fun b_=>?_
 refine W.cq hdp ?_
 haveI:=aOT (d:=D) om hX
 have hrow:=aGj l hl hX hle
 refine W.j fun b_=>?_
 rename_i t
 rw [aO1]
 refine W.cy (mm:=l.length) (ys:=cbs l.flatten) (fun w2 hs=>hw2.srcAt hs) ?_ (hfit:=by rw [aI,aI,eD hl,eD (aLZ _),aM];omega)
 rw [hrow]
 refine W.j fun b_=>?_
 rename_i nb
 rw [bs1]
 refine W.ap (ys:=[.slice (some ⟨nb,0,none⟩) X X]) (mm:=1) (Sl.nil _ _) (fun w2 hs=>(Sl.own 275 1 b_ (xs:=[.slice (some ⟨nb,0,none⟩) X X]) rfl).srcAt hs inferInstance) (fun lv0 Hl0 hv0=>?_) (hys:=rfl) (hbytes:=by simp)
 have h01:=hv0.isOne
 rw [List.nil_append] at hv0
 refine W.j ?_
 rw [show ([.pointer (some ⟨b,0,none⟩),.int .i64 (l.length:Int),.slice none 0 0]:List Value).set 2 lv0=[.pointer (some ⟨b,0,none⟩),.int .i64 (l.length:Int),lv0] from rfl]
 refine cN [0,6] ((t,cl [.pointer (some ⟨b,0,none⟩),.int .i64 (l.length:Int),lv0] 278)::(Hl0++((nb,cl (cbs (qN l D 0).flatten) 119)::Hb))) (fun x:NS=>[]) (fun x:NS=>(t,cl [.pointer (some ⟨b,0,none⟩),.int .i64 (l.length:Int),x.lv] 278)::(x.Hl++(x.Hw++x.Hb)))
  (fun x=>Sl 275 1 x.lv x.vs x.Hl∧mL x.vs (nZ l D (D+1)) x.Hw∧fR b tp (s.adds (uR l D)) x.Hb) ?_ ?_
 rotate_left
 ·rintro⟨k,lv,vs,Hl,Hw,nb2,Hb2⟩ ⟨hlv,hrw,hB2⟩
  dsimp only at hlv hrw hB2 ⊢
  refine W.k ?_
  refine Fin.to (((t,cl [.pointer (some ⟨b,0,none⟩),.int .i64 (l.length:Int),lv] 278)::(Hl++Hw))++Hb2) ?_
  refine F.f2 ?_
  exact⟨t,_,Hb2,rfl,rfl,⟨lv,vs,Hl,Hw,rfl,hlv,hrw⟩,hB2⟩
 ·subst hX
  refine W.k ?_
  refine bN [0,6] (fun x:NS=>[(7,.slice (some ⟨x.b,0,none⟩) (2^(D-x.k)) (2^(D-x.k)))]) (fun x=>(t,cl [.pointer (some ⟨b,0,none⟩),.int .i64 (l.length:Int),x.lv] 278)::(x.Hl++(x.Hw++(x.b,cl (cbs (qN l D x.k).flatten) 119)::x.Hb))) (fun x=>D-x.k)
   (fun x=>x.k≤D∧Sl 275 1 x.lv (x.vs++[.slice (some ⟨x.b,0,none⟩) (2^(D-x.k)) (2^(D-x.k))]) x.Hl∧mL x.vs (nZ l D x.k) x.Hw∧fR b tp (s.adds (txs l D x.k 0)) x.Hb) ⟨0,lv0,[],Hl0,[],nb,Hb⟩ ⟨Nat.zero_le _,hv0,mL.nil,hB⟩ ?_
  rintro⟨k,lv,vs,Hl,Hw,nb2,Hb2⟩ ⟨hk,hlv,hrw,hB2⟩
  dsimp only at hk hlv hrw hB2 ⊢
  have hv1:=hlv.isOne
  have hrl:=hrw.len
  have hrl2:vs.length=k:=by rw [hrl];simp [nZ]
  by_cases hkD:k<D
  ·have hXY:2^(D-k)=2^(D-(k+1))*2:=by rw [show D-k=D-(k+1)+1 by omega,gG]
   have hXm:2^(D-k)≤1024:=cV (n:=2) om (show D-k≤10 by omega)
   have hYp:0<2^(D-(k+1)):=Nat.pow_pos om
   have hget:∀ i,i<2^(D-k)→(qN l D k)[i]?=some (atV l k i):=fun i h=>wH l h
   have hnx:=yT l D k
   have hpa:=aHW l D k
   have hst:=fun i=>aKm l D k i
   have hnt:=aKl l D k
   have hr32:=aEb hl D k
   have hrwn:=hrw.new (b:=nb2) hr32 (wI l D k)
   rw [hnx] at hrwn
   generalize 2^(D-k)=X at *
   generalize hYe:2^(D-(k+1))=Y at hXY hYp hpa hnt
   have hlv2:=hlv
   obtain⟨la,ll,lc,rfl,hll⟩:=hlv2.form
   obtain rfl:ll=k+1:=by simp at hll;omega
   haveI i1:eG ((X:Int)/2) Y:=⟨by omega⟩
   refine W.j ?_
   refine SW.block ?_
   refine W.j fun b_=>?_
   rename_i b0
   rw [aO1,← aLv l k Y]
   refine cN [0,6,7,8] ((b_,cl (cbs (tS l k Y 0).flatten) 119)::Hb2) (fun x:Hp=>[]) (fun x:Hp=>(b_,cl (cbs (qN l D (k+1)).flatten) 119)::x) (fun x=>fR b tp (s.adds (txs l D (k+1) 0)) x) ?_ ?_
   ·refine W.k ?_
    refine bN [0,6,7,8,53] (fun x:Nat×Hp=>[(54,.int .i64 (x.1:Int))]) (fun x=>(b_,cl (cbs (tS l k Y x.1).flatten) 119)::x.2) (fun x=>Y-x.1) (fun x=>x.1≤Y∧fR b tp (s.adds (txs l D k x.1)) x.2) (0,Hb2) ⟨Nat.zero_le _,hB2⟩ ?_
    rintro⟨i,Hb3⟩ ⟨hi,hB3⟩
    dsimp only at hi hB3 ⊢
    by_cases hiY:i<Y
    ·have hx1:=mY hl k (2*i)
     have hx2:=mY hl k (2*i+1)
     have hg1:=aBa hr32 (hget (2*i) om)
     have hg2:=aBa hr32 (hget (2*i+1) om)
     have hc1:=pZ hx1
     have hc2:=pZ hx2
     have hbp:bQ (fun i=>[(0,1),(1,1)][i]?) ([.int .i64 0]++[.int .i64 0]) [(0,.int .i64 ((k+1:Nat):Int)),(1,.int .i64 (i:Int))]=some [.int .i64 ((k+1:Nat):Int),.int .i64 (i:Int)]:=rfl
     have hp32:=aJM hl k Y i
     have hpl:=aHX l k hi
     have hfit:i*32+32≤(cbs (tS l k Y i).flatten).length:=by rw [aI,eD hp32,hpl];omega
     have hset:=aKZ (x:=atV l (k+1) i) hp32 (i:=i) om
     rw [aHY l k hiY] at hset
     have hr:=pZ (mY hl (k+1) i)
     refine W.k ?_
     (refine SW.l [21,23] [0,1,2,3,4,5,6,7,8,9,10,11,12,13,14,15,16,17,18,19,20] ?_;refine cB 21 ?_)
     refine aL (aNn hB3 (k+1) i _ _ hx1 hx2) ?_
     rintro _ Hb4 ⟨rfl,hB4⟩
     rw [Bk.adds_one,hst] at hB4
     rw [show vB (k+1) i (atV l k (2*i)) (atV l k (2*i+1))=atV l (k+1) i from rfl]
     (refine SL.l [22] ?_;refine cB 23 ?_;refine W.i ?_;refine eI ?_)
     rw [hset]
     refine W.k ?_
     refine aT.mk (i+1,Hb4) ?_
     exact⟨by omega,hB4⟩
    ·have hi2:i=Y:=om
     subst hi2
     rw [hpa]
     rw [hnt] at hB3
     refine W.k ?_
     refine bZ.mk Hb3 ?_
     exact hB3
   intro Hb3 hB3
   refine W.k fun b_=>?_
   rename_i b1
   rw [bs1]
   refine W.ap (ys:=[.slice (some ⟨b1,0,none⟩) Y Y]) (mm:=1) hlv (fun w2 hs=>(Sl.own 275 1 b_ (xs:=[.slice (some ⟨b1,0,none⟩) Y Y]) rfl).srcAt hs inferInstance) (fun lv2 Hl2 hv2=>?_) (hys:=rfl) (hbytes:=by simp;omega)
   have h21:=hv2.isOne
   refine W.k ?_
   rw [show ([.pointer (some ⟨b,0,none⟩),.int .i64 (l.length:Int),.slice la (k+1) lc]:List Value).set 2 lv2=[.pointer (some ⟨b,0,none⟩),.int .i64 (l.length:Int),lv2] from rfl]
   subst hYe
   refine aT.mk ⟨k+1,lv2,vs++[.slice (some ⟨nb2,0,none⟩) X X],Hl2,Hw++[(nb2,cl (cbs (qN l D k).flatten) 119)],b1,Hb3⟩ ?_
   exact⟨hkD,hv2,hrwn,hB3⟩
  ·have hk2:k=D:=om
   subst hk2
   have e1:2^(k-k)=1:=by rw [dM]
   have hrwn:=hrw.new (b:=nb2) (aEb hl k k) (wI l k k)
   rw [yT] at hrwn
   rw [aLV] at hB2
   rw [e1] at hlv hrwn ⊢
   obtain⟨la,ll,lc,rfl,hll⟩:=hlv.form
   refine W.k ?_
   refine bZ.mk ⟨k,.slice la ll lc,vs++[.slice (some ⟨nb2,0,none⟩) 1 1],Hl,Hw++[(nb2,cl (cbs (qN l k k).flatten) 119)],nb2,Hb2⟩ ?_
   exact⟨hlv,hrwn,hB2⟩
abbrev xJ(t b:Nat)(l:List (List UInt8))(H:Hp):Prop:=aBB t b l.length (nZ l (dep l.length) (dep l.length+1)) H
theorem aAO(l:List (List UInt8)){D k d:Nat}(h:d<k):(nZ l D k)[d]?=some (qN l D d):=by simp [nZ,h]
theorem mL.get{vs:List Value}{L:List (List (List UInt8))}{H:Hp}(h:mL vs L H){d:Nat}{r:List (List UInt8)}(hd:L[d]?=some r) :
  ∃ (rb cap:Nat) (junk:List Value),vs[d]?=some (.slice (some ⟨rb,0,none⟩) r.length cap)∧At H rb (cl (cbs r.flatten++junk) 119)∧D32 r∧r.length≤cap:=by
 obtain⟨ws,rfl,rfl,rfl,h4⟩:=h
 rw [aH] at hd
 obtain⟨w,hw,rfl⟩:=Option.map_eq_some_iff.1 hd
 have hm:=aP hw
 exact⟨w.b,w.cap,w.junk,by rw [aH,hw];rfl,⟨bG.2 ⟨w,hm,rfl⟩⟩,(h4 w hm).1,(h4 w hm).2.2⟩
theorem aBB.open{t b n:Nat}{L:List (List (List UInt8))}{H:Hp}(h:aBB t b n L H)(hL:0<L.length) :
  ∃ (lb lc:Nat) (vs lj:List Value) (Hw:Hp),H=(t,cl [.pointer (some ⟨b,0,none⟩),.int .i64 (n:Int),.slice (some ⟨lb,0,none⟩) L.length lc] 278)::([(lb,cl (vs++lj) 275)]++Hw)∧mL vs L Hw∧vs.length=L.length∧L.length≤lc:=by
 obtain⟨lv,vs,Hl,Hw,rfl,hlv,hrw⟩:=h
 have hv:=hrw.len
 rcases hlv with ⟨rfl,rfl,rfl⟩|⟨lb,len,cap,junk,rfl,hx,hj,hlc,rfl⟩
 ·simp at hv;omega
 ·obtain rfl:len=L.length:=by omega
  exact⟨lb,cap,vs,junk,Hw,rfl,hrw,hv,hlc⟩
theorem aDA{vs lj:List Value}{d:Nat}{v:Value}(h:vs[d]?=some v):(vs++lj)[d]?=some v:=by
 rw [aN (aG.1 h).1];exact h
theorem sY{L:List (List UInt8)}{junk:List Value}{x:List UInt8}{n:Nat}(h:∀ x∈L,x.length=n){i:Nat}(hi:L[i]?=some x):((cbs L.flatten++junk).drop (i*n)).take n=cbs x:=by
 have hlt:=(aG.1 hi).1
 have hl:(cbs L.flatten).length=L.length*n:=by rw [aI,eD h]
 have h2:(i+1)*n≤L.length*n:=dF n hlt
 rw [gH] at h2
 rw [bW om,aQ (by rw [aK];omega)]
 exact aBa h hi
theorem aOd{t b n:Nat}{L:List (List (List UInt8))}{H:Hp}(hT:aBB t b n L H):Tri prog 127 [.pointer (some ⟨t,0,none⟩)] H (fun _=>True) (fun v H'=>v=.int .i64 (n:Int)∧H'=H):=by
 obtain⟨lv,vs,Hl,Hw,rfl,hlv,hrw⟩:=hT
 have h1:=hlv.isOne
 refine Tri.mk func127 rfl ntmps127 rfl fun w hw=>?_
 refine W.k ?_
 refine Fin.to ((t,cl [.pointer (some ⟨b,0,none⟩),.int .i64 (n:Int),lv] 278)::(Hl++Hw)) ?_
 exact F.f1 ⟨rfl,rfl⟩
theorem aKE{t b tp n D:Nat}{s:Bk}{L:List (List (List UInt8))}{r:List (List UInt8)}{x:List UInt8}{Ht Hb:Hp}(hT:aBB t b n L Ht)(hB:fR b tp s Hb)(hL:L.length=D+1)(hr:L[D]?=some r)(hx:r[0]?=some x)(hm:D≤1099511627776) :
  Tri prog 135 [.pointer (some ⟨t,0,none⟩)] (Ht++Hb) (fun _=>True) (fun v H'=>∃ Hb',v=dgV (Sha.sum (nE n x))∧H'=Ht++Hb'∧fR b tp (s.add (nE n x)) Hb'):=by
 obtain⟨lb,lc,vs,lj,Hw,rfl,hrw,hvl,hlc⟩:=hT.open om
 obtain⟨rb,rc,rj,hv,hat,hr32,hrc⟩:=hrw.get hr
 have hrl:=(aG.1 hx).1
 have hv2:=aDA (lj:=lj) hv
 have hg:=sY (junk:=rj) hr32 hx
 rw [kP] at hg
 have hx32:=hr32 x (aP hx)
 have hc:=pZ hx32
 rw [hL] at hlc hvl ⊢
 refine Tri.mk func135 rfl ntmps135 rfl fun w hw=>?_
 haveI i1:eG (((D+1:Nat):Int)-1) D:=⟨by omega⟩
 have hrr:=pZ (Sha.sum_len (nE n x))
 refine W.k fun b_=>?_
 (refine SW.l [22,23] [0,1,2,3,4,5,6,7,8,9,10,11,12,13,14,15,16,17,18,19,20,21] ?_;refine cB 22 ?_)
 refine aL (aNW hB n x hx32) ?_
 rintro _ Hb' ⟨rfl,hB'⟩
 (refine bO [] ?_;refine cB 23 ?_;refine W.i ?_;refine eI ?_)
 refine W.k ?_
 refine F.cH (((t,cl [.pointer (some ⟨b,0,none⟩),.int .i64 (n:Int),.slice (some ⟨lb,0,none⟩) (D+1) lc] 278)::([(lb,cl (vs++lj) 275)]++Hw))++Hb') (cbs (Sha.sum (nE n x))) ?_
 exact⟨Hb',rfl,rfl,hB'⟩
theorem aIs{t b tp:Nat}{s:Bk}{l:List (List UInt8)}{Ht Hb:Hp}(hT:xJ t b l Ht)(hB:fR b tp s Hb)(h2:l.length≤1024) :
  Tri prog 135 [.pointer (some ⟨t,0,none⟩)] (Ht++Hb) (fun _=>True) (fun v H'=>∃ Hb',v=dgV (xT l)∧H'=Ht++Hb'∧fR b tp (s.add (nE l.length (aEi l))) Hb'):=
 aKE (r:=qN l (dep l.length) (dep l.length)) hT hB (by simp [nZ]) (aAO l om) (wH l (Nat.pow_pos om)) (by have:=wR (n:=l.length) (k:=10) (by simpa using h2);omega)
theorem aOw{t b n:Nat}{L:List (List (List UInt8))}{H:Hp}(hT:aBB t b n L H)(k:Int):Tri prog 143 [.pointer (some ⟨t,0,none⟩),.int .i64 k] H (fun _=>True) (fun v H'=>v=.bool (decide (0≤k∧k<n))∧H'=H):=by
 obtain⟨lv,vs,Hl,Hw,rfl,hlv,hrw⟩:=hT
 have h1:=hlv.isOne
 refine Tri.mk func143 rfl ntmps143 rfl fun w hw=>?_
 by_cases h2:0≤k
 ·by_cases h3:k<n
  ·rw [decide_eq_true ⟨h2,h3⟩]
   refine W.k ?_
   refine Fin.to ((t,cl [.pointer (some ⟨b,0,none⟩),.int .i64 (n:Int),lv] 278)::(Hl++Hw)) ?_
   exact F.f1 ⟨rfl,rfl⟩
  ·rw [decide_eq_false (fun h=>h3 h.2)]
   refine W.k ?_
   refine Fin.to ((t,cl [.pointer (some ⟨b,0,none⟩),.int .i64 (n:Int),lv] 278)::(Hl++Hw)) ?_
   exact F.f1 ⟨rfl,rfl⟩
 ·rw [decide_eq_false (fun h=>h2 h.1)]
  refine W.k ?_
  refine Fin.to ((t,cl [.pointer (some ⟨b,0,none⟩),.int .i64 (n:Int),lv] 278)::(Hl++Hw)) ?_
  exact F.f1 ⟨rfl,rfl⟩
def tJ(l:List (List UInt8))(k:Int):List UInt8:=if 0≤k∧k<l.length then l.getD k.toNat z32 else z32
theorem aOb{t b:Nat}{l:List (List UInt8)}{H:Hp}(hT:xJ t b l H)(k:Int)(h2:l.length≤1024):Tri prog 73 [.pointer (some ⟨t,0,none⟩),.int .i64 k] H (fun _=>True) (fun v H'=>v=dgV (tJ l k)∧H'=H):=by
 have hT2:=hT
 have hle:=aAu l.length
 obtain⟨lb,lc,vs,lj,Hw,rfl,hrw,hvl,hlc⟩:=hT.open (by simp [nZ])
 have hH:=aOw hT2 k
 obtain⟨rb,rc,rj,hv,hat,hr32,hrc⟩:=hrw.get (aAO l (D:=dep l.length) (k:=dep l.length+1) (d:=0) om)
 rw [wI,lP] at hv hrc
 have hv2:=aDA (lj:=lj) hv
 have hLl:(nZ l (dep l.length) (dep l.length+1)).length=dep l.length+1:=by simp [nZ]
 rw [hLl] at hlc hH ⊢
 refine Tri.mk func73 rfl ntmps73 rfl fun w hw=>?_
 refine W.k fun b_=>?_
 refine W.cq hH ?_
 by_cases hk:0≤k∧k<(l.length:Int)
 ·obtain⟨j,rfl⟩:∃ j:Nat,k=(j:Int):=⟨k.toNat,by omega⟩
  have hj:j<l.length:=om
  have hx:tJ l (j:Int)=atV l 0 j:=by unfold tJ;rw [if_pos hk,bK];rfl
  have hg:=sY (junk:=rj) hr32 (wH l (D:=dep l.length) (d:=0) (i:=j) (by rw [lP];omega))
  have hc:=pZ (hr32 _ (aP (wH l (D:=dep l.length) (d:=0) (i:=j) (by rw [lP];omega))))
  rw [decide_eq_true hk,hx]
  generalize 2^dep l.length=X at *
  refine W.k ?_
  refine F.cH ((t,cl [.pointer (some ⟨b,0,none⟩),.int .i64 (l.length:Int),.slice (some ⟨lb,0,none⟩) (dep l.length+1) lc] 278)::([(lb,cl (vs++lj) 275)]++Hw)) (cbs (atV l 0 j)) ?_
  exact⟨rfl,rfl⟩
 ·have hx:tJ l k=z32:=by unfold tJ;rw [if_neg hk]
  rw [decide_eq_false hk,hx]
  refine W.k ?_
  refine F.cH ((t,cl [.pointer (some ⟨b,0,none⟩),.int .i64 (l.length:Int),.slice (some ⟨lb,0,none⟩) (dep l.length+1) lc] 278)::([(lb,cl (vs++lj) 275)]++Hw)) (cbs z32) ?_
  exact⟨rfl,rfl⟩
theorem b1d{x:List UInt8}(h:x.length=32):bQ (fun i=>some (i*32,32)) (zs (List.replicate 32 (.int .u8 0)) 1) [(0,dgV x)]=some (cbs x):=by
 have h1:(vl (dgV x)).length=32:=pZ h
 have h2:(zs (List.replicate 32 (.int .u8 0)) 1).length=32:=by rw [aDp,aM]
 unfold bQ
 dsimp only
 rw [if_pos ⟨h1,by omega⟩]
 unfold bQ
 rw [kP,cQ,List.nil_append,fP,eB om,aJ]
 rfl
theorem qY{P:Program}{C:Ctx}{ρ:Fr}{H:Hp}{fn:Func}{R:Value→Hp→Prop}{e:Exit}{t ty n b u:Nat}{l:List Value}{v2:Value}{T:TypeId}(Hc:Hp){s:Hp}(l2:List Value) [hp:fI H Hc s](hR:R (.tuple #[.agg l2.toArray,v2]) Hc)(he:e=.ret∨e=.normal:=by first|exact .inl rfl|exact .inr rfl)(hrs:fn.results=#[.cell t ty,.tmp u]:=by exact rfl)(ht:lk ρ t=some (.pointer (some ⟨b,0,none⟩)):=by exact rfl)(hu:lk ρ u=some v2:=by exact rfl)(hat:At H b (cl l T):=by infer_instance)(hl:l=l2:=by first|assumption|exact rfl)(iR:eN P ty n:=by infer_instance)(hn:l2.length=n:=by first|assumption|exact rfl):Fin P C fn R e ρ H:=by
 subst hl
 exact Fin.c1t1 he hrs ht hu hn Hc hR
theorem aHM{l:List (List UInt8)}(hl:D32 l)(k:Int):(tJ l k).length=32:=by
 unfold tJ
 split
 ·exact mY hl 0 k.toNat
 ·rfl
end
section
attribute [local irreducible] SW SL SQ SH SA SS Pu Fin bZ aT
open Pq
theorem Rd.rows{K:List Nat}{w:World}{v:Value}{n:Nat}{L:List (List Value)}(hn:0<n)(h:Rd K w n v L.flatten)(hL:∀ x∈L,x.length=n):∃ (a:Option Addr) (cap:Nat),v=.slice a L.length cap∧L.length≤cap ∧
  ∀ (i:Nat) (x:List Value),L[i]?=some x→∃ (b o:Nat) (l:List Value) (T:TypeId) (fz:Nat×Nat),a=some ⟨b,o,none⟩∧w.heap[b]?=some (.cells l.toArray T fz)∧b∉K∧(l.drop (o+i*n)).take n=x:=by
 obtain⟨a,len,cap,rfl,h1,h2,h3⟩:=h
 have hl:L.length=len:=by
  rw [eD hL] at h1
  exact Nat.eq_of_mul_eq_mul_right hn h1
 subst hl
 refine⟨a,cap,rfl,h2,fun i x hi=>?_⟩
 have hlt:i<L.length:=(aG.1 hi).1
 obtain⟨b,o,l,T,fz,rfl,hb,hk,hy⟩:=h3.resolve_left om
 refine⟨b,o,l,T,fz,rfl,hb,hk,?_⟩
 have hm:(i+1)*n≤L.length*n:=dF n hlt
 rw [gH] at hm
 rw [← nB hL hi,← hy,jX,fS,bR,dB om]
end
section
attribute [local irreducible] SW SL SQ SH SA SS Pu Fin bZ aT
abbrev dK(ps:List Pg):List Value:=(ps.map pgC).flatten
theorem aNG{g:FuncId} [aZ prog g]{fs cs:List Value}{Hc:Hp}{β:Pg→Bool}(ps:List Pg)(hg:∀ p∈ps,Tri prog g (fs++[.agg (pgC p).toArray]++cs) Hc (fun _=>True) (fun v H=>v=.bool (β p)∧H=Hc))(hn:ps.length≤1000000)(v:Value) :
  Tri prog 158 [v,.func (.func g) fs.toArray cs.toArray] Hc (fun w=>Rd (Hc.map Prod.fst) w 5 v (dK ps)) (fun r H'=>∃ z,r=.int .i64 z∧H'=Hc∧decide (0≤z)=ps.any β):=by
 refine Tri.mk func158 rfl ntmps158 rfl fun w hw=>?_
 have hL:∀ y∈ps.map pgC,y.length=5:=fun y hy=>by
  obtain⟨x,hx,rfl⟩:=bG.1 hy
  exact dW x
 obtain⟨a,cap,rfl,hcap,hgt⟩:=hw.rows dc hL
 rw [aE] at hcap ⊢
 refine W.j ?_
 refine cN [] Hc (fun _:Unit=>[]) (fun _=>Hc) (fun _=>ps.any β=false) ?_ ?_
 ·refine W.k ?_
  refine bN [0,1,7] (fun i:Nat=>[(8,.int .i64 (i:Int))]) (fun _=>Hc) (fun i=>ps.length-i) (fun i=>i≤ps.length∧(ps.take i).any β=false) 0 ⟨Nat.zero_le _,by simp⟩ ?_
  rintro i ⟨hi,hbad⟩
  by_cases hin:i<ps.length
  ·obtain⟨x,hx⟩:∃ x,ps[i]?=some x:=⟨_,aA hin⟩
   have hxm:=aP hx
   obtain⟨pb,po,lv,T,fz,rfl,hb,hk,hv⟩:=hgt i (pgC x) (by rw [aH,hx];rfl)
   have hxl:=dW x
   have hst:(ps.take (i+1)).any β=β x:=by rw [aO,hx,List.any_append,hbad];simp
   have hc:=hg x hxm
   refine W.k ?_
   refine dH Hc rfl rfl rfl rfl rfl rfl hc (fun _ _=>trivial) ?_
   rintro _ Hx ⟨rfl,hx2⟩
   have hx2:=hx2.symm
   subst hx2
   cases ho:β x with
   | false=>
    rw [ho] at hst
    refine W.k ?_
    refine aT.mk (i+1) ?_
    exact⟨hin,hst⟩
   | true=>
    have hany:ps.any β=true:=List.any_eq_true.2 ⟨x,hxm,ho⟩
    refine W.k ?_
    refine Fin.to Hc ?_
    exact F.f1 ⟨(i:Int),rfl,rfl,by rw [hany];exact decide_eq_true om⟩
  ·have hi2:i=ps.length:=om
   subst hi2
   rw [bT] at hbad
   refine W.k ?_
   refine bZ.mk () ?_
   exact hbad
 rintro _ hbad
 refine W.k ?_
 refine Fin.to Hc ?_
 exact F.f1 ⟨-1,rfl,rfl,by rw [hbad];rfl⟩
theorem aBk{g:FuncId} [aZ prog g]{fs cs:List Value}{Hc:Hp}{β:Pg→Bool}(ps:List Pg)(hg:∀ p∈ps,Tri prog g (fs++[.agg (pgC p).toArray]++cs) Hc (fun _=>True) (fun v H=>v=.bool (β p)∧H=Hc))(hn:ps.length≤1000000)(v:Value) :
  Tri prog 81 [v,.func (.func g) fs.toArray cs.toArray] Hc (fun w=>Rd (Hc.map Prod.fst) w 5 v (dK ps)) (fun r H'=>r=.bool (ps.any β)∧H'=Hc):=by
 refine Tri.mk func81 rfl ntmps81 rfl fun w hw=>?_
 have hv1:=hw.isOne
 have hw2:=hw
 obtain⟨a,len,cap,rfl,-⟩:=hw.get
 refine W.k ?_
 refine aL (aNG ps hg hn _) ?_ rfl (fun w2 hs=>hw2.ro (Hc:=Hc) hs)
 rintro _ Hx ⟨z,rfl,hx2,hz⟩
 have hx2:=hx2.symm
 subst hx2
 cases hb:ps.any β with
 | true=>
  rw [hb] at hz
  have hz2:=of_decide_eq_true hz
  refine W.k ?_
  refine Fin.to Hc ?_
  exact F.f1 ⟨rfl,rfl⟩
 | false=>
  rw [hb] at hz
  have hz2:=of_decide_eq_false hz
  refine W.k ?_
  refine Fin.to Hc ?_
  exact F.f1 ⟨rfl,rfl⟩
end
section
attribute [local irreducible] SW SL SQ SH SA SS Pu Fin bZ aT
open Pq
theorem aIO(r:List (List UInt8))(hr:D32 r)(h1:1≤r.length)(hn:r.length≤1099511627)(v:Value):Tri prog 189 [v] [] (fun w=>Rd [] w 32 v (cbs r.flatten)) (fun o H=>Sl 119 32 o (cbs r.flatten) H):=by
 refine Tri.mk func189 rfl ntmps189 rfl fun w hw=>?_
 have hw2:=hw
 obtain⟨a,cap,rfl,hc,hg⟩:=hw.row hr
 obtain⟨b,o,l,T,fz,rfl,-⟩:=hg 0 _ (aA om)
 have hfl:(cbs r.flatten).length=r.length*32:=by rw [aI,eD hr]
 refine W.k fun b_=>?_
 refine W.ap (ys:=cbs r.flatten) (mm:=r.length) (Sl.own 119 32 b_ (len:=0) (xs:=[]) rfl) (fun w2 hs=>hw2.srcAt hs) (fun v1 H1 hv1=>?_) (hys:=hfl) (hbytes:=by rw [hfl];simp;omega)
 have h11:=hv1.isOne
 rw [List.nil_append] at hv1
 refine W.k ?_
 refine Fin.to H1 ?_
 exact F.f1 hv1
theorem mL.snocSl{vs:List Value}{L:List (List (List UInt8))}{H H1:Hp}(h:mL vs L H){v:Value}{r:List (List UInt8)}(hv:Sl 119 32 v (cbs r.flatten) H1)(hr:D32 r)(hp:1≤r.length):mL (vs++[v]) (L++[r]) (H++H1):=by
 rcases hv with ⟨rfl,h2,rfl⟩|⟨b,len,cap,junk,rfl,hx,hj,hlc,rfl⟩
 ·have h3:=congrArg List.length h2
  rw [aI,eD hr,dA] at h3
  omega
 ·obtain rfl:len=r.length:=by rw [aI,eD hr] at hx;omega
  exact h.snoc ⟨b,cap,junk,r⟩ ⟨hr,by dsimp only;omega,hlc⟩
theorem b1s(a:Option Addr)(l c:Nat):bQ (fun i=>some (i*1,1)) (zs [.slice none 0 0] 1) [(0,.slice a l c)]=some [.slice a l c]:=rfl
structure CS where
 d:Nat
 lv:Value
 vs:List Value
 Hl:Hp
 Hw:Hp
theorem aMq{t b:Nat}{l:List (List UInt8)}{Ht:Hp}(hT:xJ t b l Ht)(hl:D32 l)(h1:1≤l.length)(h2:l.length≤1024):Tri prog 129 [.pointer (some ⟨t,0,none⟩)] Ht (fun _=>True)
  (fun v H'=>∃ c Hc,v=.pointer (some ⟨c,0,none⟩)∧H'=Ht++Hc∧xJ c b l Hc):=by
 have hd10:=wR (n:=l.length) (k:=10) (by simpa using h2)
 obtain⟨lb,lc,vs,lj,Hw,rfl,hrw,hvl,hlc⟩:=hT.open (by simp [nZ])
 have hLl:(nZ l (dep l.length) (dep l.length+1)).length=dep l.length+1:=by simp [nZ]
 rw [hLl] at hlc hvl ⊢
 unfold xJ
 refine Tri.mk func129 rfl ntmps129 rfl fun w hw=>?_
 generalize hD:dep l.length=D at *
 have hbf:bQ (fun i=>[(0,1),(1,1),(2,1)][i]?) ([.pointer none]++[.int .i64 0]++[.slice none 0 0]) [(0,.pointer (some ⟨b,0,none⟩)),(1,.int .i64 (l.length:Int))]=some [.pointer (some ⟨b,0,none⟩),.int .i64 (l.length:Int),.slice none 0 0]:=rfl
 refine W.k ?_
 (refine SW.l [9] [0,1,2,3,4,5,6,7,8] ?_;refine cB 9 ?_;refine W.i fun b_=>?_;refine SG.l [10,11] ?_)
 refine W.j ?_
 refine cN [3] [(b_,cl [.pointer (some ⟨b,0,none⟩),.int .i64 (l.length:Int),.slice none 0 0] 278)] (fun x:CS=>[]) (fun x=>(b_,cl [.pointer (some ⟨b,0,none⟩),.int .i64 (l.length:Int),x.lv] 278)::(x.Hl++x.Hw)) (fun x=>Sl 275 1 x.lv x.vs x.Hl∧mL x.vs (nZ l D (D+1)) x.Hw) ?_ ?_
 rotate_left
 ·rintro⟨d,lv,vs2,Hl,Hw2⟩ ⟨hlv,hrw2⟩
  dsimp only at hlv hrw2 ⊢
  refine W.k ?_
  refine Fin.to (((t,cl [.pointer (some ⟨b,0,none⟩),.int .i64 (l.length:Int),.slice (some ⟨lb,0,none⟩) (D+1) lc] 278)::([(lb,cl (vs++lj) 275)]++Hw))++((b_,cl [.pointer (some ⟨b,0,none⟩),.int .i64 (l.length:Int),lv] 278)::(Hl++Hw2))) ?_
  refine F.f1 ?_
  exact⟨b_,_,rfl,rfl,lv,vs2,Hl,Hw2,rfl,hlv,hrw2⟩
 ·refine W.k ?_
  refine bN [3,21,22] (fun x:CS=>[(23,.int .i64 (x.d:Int))]) (fun x=>(b_,cl [.pointer (some ⟨b,0,none⟩),.int .i64 (l.length:Int),x.lv] 278)::(x.Hl++x.Hw)) (fun x=>D+1-x.d) (fun x=>x.d≤D+1∧Sl 275 1 x.lv x.vs x.Hl∧mL x.vs (nZ l D x.d) x.Hw) ⟨0,.slice none 0 0,[],[],[]⟩ ⟨Nat.zero_le _,Sl.nil _ _,mL.nil⟩ ?_
  rintro⟨d,lv,vs2,Hl,Hw2⟩ ⟨hd,hlv,hrw2⟩
  dsimp only at hd hlv hrw2 ⊢
  have hv1:=hlv.isOne
  by_cases hdD:d<D+1
  ·have hXm:2^(D-d)≤1024:=cV (n:=2) om (show D-d≤10 by omega)
   have hXp:0<2^(D-d):=Nat.pow_pos om
   have hrl:=wI l D d
   have hr32:=aEb hl D d
   obtain⟨rb,rc,rj,hv,hat,-,hrc⟩:=hrw.get (aAO l (D:=D) hdD)
   have hv2:=aDA (lj:=lj) hv
   have hcl:=aIO (qN l D d) hr32 om om (.slice (some ⟨rb,0,none⟩) (qN l D d).length rc)
   have hnx:=yT l D d
   have hrl2:=hrw2.len
   have hlen2:vs2.length=d:=by rw [hrl2];simp [nZ]
   have hfl:(cbs (qN l D d).flatten).length=(qN l D d).length*32:=by rw [aI,eD hr32]
   generalize qN l D d=R at *
   refine W.k ?_
   (refine SW.l [8,11] [0,1,2,3,4,5] ?_;refine aX 6 ?_)
   refine aL hcl ?_ rfl (fun w2 hs=>?_)
   rotate_left
   ·exact Rd.at (T:=119) (fz:=(0,0)) [] hs (l:=cbs R.flatten++rj) (o:=0) (by rw [bH,← hfl,dT];rfl) hfl hrc
   intro cv H1 hcv
   have hcv1:=hcv.isOne
   obtain⟨ca,cl2,cc,rfl,-⟩:=hcv.form
   have hrn:=hrw2.snocSl hcv hr32 om
   rw [hnx] at hrn
   (refine bO [] ?_;refine aX 7 ?_)
   refine jO (fun b7=>?_) (hr:=b1s ..)
   (refine bO [] ?_;refine cB 8 ?_)
   refine W.ap (ys:=[.slice ca cl2 cc]) (mm:=1) hlv (fun w2 hs=>(Sl.own 275 1 b7 (xs:=[.slice ca cl2 cc]) rfl).srcAt hs inferInstance) (fun lv2 Hl2 hv3=>?_) (hys:=rfl) (hbytes:=by simp;omega)
   have h21:=hv3.isOne
   (refine SL.l [9,10] ?_;refine cB 11 ?_;refine W.i ?_;refine eI ?_)
   rw [show ([.pointer (some ⟨b,0,none⟩),.int .i64 (l.length:Int),lv]:List Value).set 2 lv2=[.pointer (some ⟨b,0,none⟩),.int .i64 (l.length:Int),lv2] from rfl]
   refine W.k ?_
   refine aT.mk ⟨d+1,lv2,vs2++[.slice ca cl2 cc],Hl2,Hw2++H1⟩ ?_
   exact⟨hdD,hv3,hrn⟩
  ·have hd2:d=D+1:=om
   subst hd2
   refine W.k ?_
   refine bZ.mk ⟨D+1,lv,vs2,Hl,Hw2⟩ ?_
   exact⟨hlv,hrw2⟩
end
end Go.Proofs.YtnigolgkkjidiaaGreat
