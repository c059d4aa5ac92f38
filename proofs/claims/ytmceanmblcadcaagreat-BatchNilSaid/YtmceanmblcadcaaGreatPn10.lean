/- The document's sums of levels, its root. -/
import Derived.Test.YtmceanmblcadcaaGreatPn9
import Derived.Test.YtmceanmblcadcaaGreatPn7
import Derived.Test.YtmceanmblcadcaaGreatPn6
set_option linter.unusedVariables false
set_option linter.unusedSimpArgs false
set_option linter.unusedSectionVars false
set_option maxHeartbeats 1000000
namespace Go.Proofs.YtmceanmblcadcaaGreat
open Go Go.Proofs.Tryz
section
attribute [local irreducible] SW SL SQ SH SA SS Pu Fin bU aP
theorem Rd.row{K:List Nat}{w:World}{v:Value}{L:List (List UInt8)}(h:Rd K w 32 v (cbs L.flatten))(hL:D32 L):∃ (a:Option Addr) (cap:Nat),v=.slice a L.length cap∧L.length≤cap ∧
  ∀ (i:Nat) (x:List UInt8),L[i]?=some x→∃ (b o:Nat) (l:List Value) (T:TypeId) (fz:Nat×Nat),a=some ⟨b,o,none⟩∧w.heap[b]?=some (.cells l.toArray T fz)∧b∉K∧(l.drop (o+i*32)).take 32=cbs x:=by
 obtain⟨a,len,cap,rfl,h1,h2,h3⟩:=h
 have hl:L.length=len:=by
  rw [aF,eI hL] at h1
  omega
 subst hl
 refine⟨a,cap,rfl,h2,fun i x hi=>?_⟩
 have hlt:i<L.length:=(aD.1 hi).1
 obtain⟨b,o,l,T,fz,rfl,hb,hk,hy⟩:=h3.resolve_left oQ
 refine⟨b,o,l,T,fz,rfl,hb,hk,?_⟩
 rw [← yS hL hi,← hy,kO,fR,cG,cU oQ]
theorem aK3(l:List (List UInt8))(hl:D32 l)(v:Value)(hn:l.length≤1099511627776):∀ (d i:Nat),(i+1)*2^d≤1099511627776 →
  Tri prog 227 [v,.int .i64 (d:Int),.int .i64 (i:Int)] [] (fun w=>Rd [] w 32 v (cbs l.flatten)) (fun r H=>r=dgV (atV l d i)∧H=[]):=by
 intro d
 induction d with
 | zero=>
  intro i hi
  refine Tri.mk func227 rfl ntmps227 rfl fun w hw=>?_
  have hw2:=hw
  obtain⟨a,cap,rfl,hc,hg⟩:=hw.row hl
  have hr:=nR (lF hl 0 i)
  by_cases h:i<l.length
  ·obtain⟨b,o,lv,T,fz,rfl,hb,hk,hv⟩:=hg i _ (aA h)
   have ha:atV l 0 i=l[i]:=by unfold atV;rw [aC,aA h];rfl
   rw [← ha] at hv
   refine W.k fun b_=>?_
   exact F.c0 (cbs (atV l 0 i)) ⟨rfl,rfl⟩
  ·have ha:atV l 0 i=z32:=by unfold atV;rw [aC,bE oQ];rfl
   refine W.k fun b_=>?_
   rw [ha]
   exact F.c0 (cbs z32) ⟨rfl,rfl⟩
 | succ d ih=>
  intro i hi
  refine Tri.mk func227 rfl ntmps227 rfl fun w hw=>?_
  have hw2:=hw
  obtain⟨a,cap,rfl,hc,hg⟩:=hw.row hl
  have hr:=nR (lF hl (d+1) i)
  have hx1:=lF hl d (2*i)
  have hx2:=lF hl d (2*i+1)
  rw [fT] at hi
  have hb1:(2*i+1)*2^d≤(i+1)*(2^d*2):=by rw [← mU,Nat.mul_right_comm];exact cR _ oQ
  have hb2:(2*i+1+1)*2^d≤(i+1)*(2^d*2):=by rw [← mU,Nat.mul_right_comm];exact cR _ oQ
  have hi3:2*i+1≤(2*i+1)*2^d:=Nat.le_mul_of_pos_right _ (Nat.pow_pos oQ)
  have hd3:d<2^d:=Nat.lt_two_pow_self
  have hd4:2^d≤(2*i+1)*2^d:=Nat.le_mul_of_pos_left _ oQ
  have h1:=ih (2*i) oQ
  have h2:=ih (2*i+1) oQ
  have e1:(((d+1:Nat):Int)-1)=(d:Int):=oQ
  have e2:((2*i:Nat):Int)=2*(i:Int):=oQ
  have e3:((2*i+1:Nat):Int)=2*(i:Int)+1:=oQ
  generalize (i+1)*(2^d*2)=X at hi hb1 hb2
  generalize (2*i+1)*2^d=Y at hb1 hi3 hd4
  generalize (2*i+1+1)*2^d=Z at hb2
  generalize 2^d=D at hd3 hd4
  refine W.k fun b_=>?_
  refine dL h1 ?_ ?_ (hpre:=fun w2 hs=>hw2.ro (Hc:=[]) hs)
  ·rw [e1,e2]
  rintro _ _ ⟨rfl,rfl⟩
  refine W.k ?_
  refine dL h2 ?_ ?_ (hpre:=fun w2 hs=>hw2.ro (Hc:=[]) hs)
  ·rw [e1,e3]
  rintro _ _ ⟨rfl,rfl⟩
  refine W.k ?_
  refine W.cq (aIg (d+1) i _ _ hx1 hx2) ?_
  rw [show rX (d+1) i (atV l d (2*i)) (atV l d (2*i+1))=atV l (d+1) i from rfl]
  refine W.k ?_
  exact F.c0 (cbs (atV l (d+1) i)) ⟨rfl,rfl⟩
theorem aEl(l:List (List UInt8))(hl:D32 l)(v:Value)(hn:l.length≤1024) :
  Tri prog 186 [v] [] (fun w=>Rd [] w 32 v (cbs l.flatten)) (fun r H=>r=dgV (uP l)∧H=[]):=by
 refine Tri.mk func186 rfl ntmps186 rfl fun w hw=>?_
 have hw2:=hw
 obtain⟨a,cap,rfl,hc,hg⟩:=hw.row hl
 have hr:=nR (Sha.sum_len (lJ l.length (aBT l)))
 have hd:dep l.length≤10:=tO (by simpa using hn)
 have hd2:2^dep l.length≤2^10:=cI oQ hd
 have ht:(aBT l).length=32:=lF hl _ _
 refine W.k fun b_=>?_
 refine W.cw (aGH l.length oQ) ?_
 refine dL (aK3 l hl (.slice a l.length cap) oQ (dep l.length) 0 oQ) rfl ?_ (hpre:=fun w2 hs=>hw2.ro (Hc:=[]) hs)
 rintro _ _ ⟨rfl,rfl⟩
 rw [show atV l (dep l.length) 0=aBT l from rfl]
 refine W.k ?_
 refine W.cw (aKe l.length _ ht) ?_
 exact F.c0 (cbs (uP l)) ⟨rfl,rfl⟩
structure Rw where
 b:Nat
 cap:Nat
 junk:List Value
 r:List (List UInt8)
def Rw.val(w:Rw):Value:=.slice (some ⟨w.b,0,none⟩) w.r.length w.cap
def Rw.hp(w:Rw):Nat×Obj:=(w.b,cl (cbs w.r.flatten++w.junk) 55)
def Rw.Ok(w:Rw):Prop:=D32 w.r∧w.junk.length=(w.cap-w.r.length)*32∧w.r.length≤w.cap
def kR(vs:List Value)(L:List (List (List UInt8)))(H:Hp):Prop:=∃ ws:List Rw,vs=ws.map Rw.val∧L=ws.map Rw.r∧H=ws.map Rw.hp∧∀ w∈ws,w.Ok
theorem kR.nil:kR [] [] []:=⟨[],rfl,rfl,rfl,by simp⟩
theorem kR.snoc{vs:List Value}{L:List (List (List UInt8))}{H:Hp}(h:kR vs L H)(w:Rw)(hw:w.Ok):kR (vs++[w.val]) (L++[w.r]) (H++[w.hp]):=by
 obtain⟨ws,rfl,rfl,rfl,h4⟩:=h
 refine⟨ws++[w],by simp,by simp,by simp,fun x hx=>?_⟩
 rcases bQ.1 hx with h|h
 ·exact h4 x h
 ·rw [cY] at h;subst h;exact hw
theorem kR.new{vs:List Value}{L:List (List (List UInt8))}{H:Hp}(h:kR vs L H){b len:Nat}{r:List (List UInt8)}(hr:D32 r)(hl:r.length=len):kR (vs++[.slice (some ⟨b,0,none⟩) len len]) (L++[r]) (H++[(b,cl (cbs r.flatten) 55)]):=by
 subst hl
 have:=h.snoc ⟨b,r.length,[],r⟩ ⟨hr,by simp,Nat.le_refl _⟩
 simpa [Rw.val,Rw.hp] using this
theorem kR.len{vs:List Value}{L:List (List (List UInt8))}{H:Hp}(h:kR vs L H):vs.length=L.length:=by
 obtain⟨ws,rfl,rfl,rfl,h4⟩:=h
 simp
def zO(t b n:Nat)(L:List (List (List UInt8)))(H:Hp):Prop:=
 ∃ lv vs Hl Hw,H=(t,cl [.pointer (some ⟨b,0,none⟩),.int .i64 (n:Int),lv] 176)::(Hl++Hw)∧Sl 173 1 lv vs Hl∧kR vs L Hw
def Bk.adds(s:Bk)(ts:List (List UInt8)):Bk:=ts.foldl Bk.add s
theorem Bk.adds_one(s:Bk)(ts:List (List UInt8))(t:List UInt8):(s.adds ts).add t=s.adds (ts++[t]):=by simp [Bk.adds]
def aGg(l:List (List UInt8))(D d:Nat)(i:Nat):List (List UInt8):=(List.range i).map fun i=>uJ (d+1) i (atV l d (2*i)) (atV l d (2*i+1))
def txs(l:List (List UInt8))(D k i:Nat):List (List UInt8):=((List.range k).flatMap fun d=>aGg l D d (2^(D-(d+1))))++aGg l D k i
theorem aG3(l:List (List UInt8))(D k i:Nat):txs l D k i++[uJ (k+1) i (atV l k (2*i)) (atV l k (2*i+1))]=txs l D k (i+1):=by
 simp [txs,aGg,bJ]
theorem aG2(l:List (List UInt8))(D k:Nat):txs l D k (2^(D-(k+1)))=txs l D (k+1) 0:=by
 simp [txs,aGg,bJ]
theorem aIp(l:List (List UInt8))(D:Nat):txs l D D 0=rN l D:=by
 simp [txs,aGg,rN]
def mA(l:List (List UInt8))(D k:Nat):List (List (List UInt8)):=(List.range k).map (oF l D)
theorem vG(l:List (List UInt8))(D k:Nat):mA l D k++[oF l D k]=mA l D (k+1):=by simp [mA,bJ]
theorem aLd(n:Nat):zs (List.replicate 32 (.int .u8 0)) n=cbs (List.replicate n z32).flatten:=by
 unfold zs cbs
 rw [List.map_flatten,dJ,dJ]
 rfl
theorem aIs(n:Nat):D32 (List.replicate n z32):=by
 intro x hx
 rw [List.eq_of_mem_replicate hx];rfl
theorem aLm(l:List (List UInt8)){D:Nat}(h:l.length≤2^D):oF l D 0=l++List.replicate (2^D-l.length) z32:=by
 apply cJ
 intro i
 rcases lD i (2^D) with h1|h1
 ·rw [tE l (by simpa using h1)]
  unfold atV
  rw [aC]
  rcases lD i l.length with h2|h2
  ·rw [aK h2,aA h2];rfl
  ·rw [aO h2,bE h2,lU,if_pos oQ];rfl
 ·rw [bE (by rw [tF];simpa using h1),bE (by simp;omega)]
theorem aDC(l:List (List UInt8))(hl:D32 l){D X:Nat}(hX:X=2^D)(h:l.length≤X):List.take 0 (cbs (List.replicate X z32).flatten)++cbs l.flatten++List.drop (0+(cbs l.flatten).length) (cbs (List.replicate X z32).flatten)=cbs (oF l D 0).flatten:=by
 subst hX
 rw [aLm l h,dF,List.nil_append,eX,aF,eI hl,show List.replicate (2^D) z32=List.replicate l.length z32++List.replicate (2^D-l.length) z32 by rw [fF];congr 1;omega,lK,lK,gU,gU]
 congr 1
 rw [bW (by rw [aF,eI (aIs _)];simp),fL (by rw [aF,eI (aIs _)];simp),List.nil_append]
def qT(l:List (List UInt8))(k Y i:Nat):List (List UInt8):=(List.range i).map (atV l (k+1))++List.replicate (Y-i) z32
theorem aGA{l:List (List UInt8)}(hl:D32 l)(k Y i:Nat):D32 (qT l k Y i):=by
 intro x hx
 rcases bQ.1 hx with h|h
 ·obtain⟨j,-,rfl⟩:=cA.1 h;exact lF hl _ _
 ·exact aIs _ x h
theorem aE1(l:List (List UInt8))(k:Nat){Y i:Nat}(h:i≤Y):(qT l k Y i).length=Y:=by simp [qT];omega
theorem aE2(l:List (List UInt8))(k:Nat){Y i:Nat}(h:i<Y):(qT l k Y i).set i (atV l (k+1) i)=qT l k Y (i+1):=by
 unfold qT
 rw [bL _ _ (by simp),aJ,dS,cZ,show Y-i=(Y-(i+1))+1 by omega,eL,fH,bJ]
 simp
theorem aH5(l:List (List UInt8))(k Y:Nat):qT l k Y 0=List.replicate Y z32:=by simp [qT]
theorem aE0(l:List (List UInt8))(D k:Nat):qT l k (2^(D-(k+1))) (2^(D-(k+1)))=oF l D (k+1):=by simp [qT,oF]
structure NS where
 k:Nat
 lv:Value
 vs:List Value
 Hl:Hp
 Hw:Hp
 b:Nat
 Hb:Hp
theorem aKS{b tp:Nat}{s:Bk}{Hb:Hp}(hB:fB b tp s Hb)(v:Value)(l:List (List UInt8))(hl:D32 l)(h1:1≤l.length)(h2:l.length≤1024) :
  Tri prog 263 [.pointer (some ⟨b,0,none⟩),v] Hb (fun w=>Rd (Hb.map Prod.fst) w 32 v (cbs l.flatten)) (fun r H'=>∃ t Ht Hb',r=.tuple #[.pointer (some ⟨t,0,none⟩),.int .i64 0]∧H'=Ht++Hb'∧zO t b l.length (mA l (dep l.length) (dep l.length+1)) Ht∧fB b tp (s.adds (rN l (dep l.length))) Hb'):=by
 refine Tri.mk func263 rfl ntmps263 rfl fun w hw=>?_
 have hw2:=hw
 obtain⟨a,cap,rfl,hc,hg⟩:=hw.row hl
 have hd:dep l.length≤10:=tO (by simpa using h2)
 have hle:=xC l.length
 have hdp:=aHK l.length oQ
 generalize dep l.length=D at hd hle hdp ⊢
 obtain⟨X,hX⟩:∃ X,X=2^D:=⟨_,rfl⟩
 have hX2:X≤1024:=by rw [hX];exact cI (n:=2) oQ hd
 rw [← hX] at hle
 have hbf:bP (fun i=>[(0,1),(1,1),(2,1)][i]?) ([.pointer none]++[.int .i64 0]++[.slice none 0 0]) [(0,.pointer (some ⟨b,0,none⟩)),(1,.int .i64 (l.length:Int))]=some [.pointer (some ⟨b,0,none⟩),.int .i64 (l.length:Int),.slice none 0 0]:=rfl
 refine W.k fun b_=>?_
 refine W.cq hdp ?_
 haveI:=aK6 (d:=D) oQ hX
 have hrow:=aDC l hl hX hle
 refine W.j fun b_=>?_
 rename_i t
 rw [aLd]
 refine W.cy (mm:=l.length) (ys:=cbs l.flatten) (fun w2 hs=>hw2.srcAt hs) ?_ (hfit:=by rw [aF,aF,eI hl,eI (aIs _),aM];omega)
 rw [hrow]
 refine W.j fun b_=>?_
 rename_i nb
 rw [bs1]
 refine W.ap (ys:=[.slice (some ⟨nb,0,none⟩) X X]) (mm:=1) (Sl.nil _ _) (fun w2 hs=>(Sl.own 173 1 b_ (xs:=[.slice (some ⟨nb,0,none⟩) X X]) rfl).srcAt hs inferInstance) (fun lv0 Hl0 hv0=>?_) (hys:=rfl) (hbytes:=by simp)
 have h01:=hv0.isOne
 rw [List.nil_append] at hv0
 refine W.j ?_
 rw [show ([.pointer (some ⟨b,0,none⟩),.int .i64 (l.length:Int),.slice none 0 0]:List Value).set 2 lv0=[.pointer (some ⟨b,0,none⟩),.int .i64 (l.length:Int),lv0] from rfl]
 refine bZ [0,6] ((t,cl [.pointer (some ⟨b,0,none⟩),.int .i64 (l.length:Int),lv0] 176)::(Hl0++((nb,cl (cbs (oF l D 0).flatten) 55)::Hb))) (fun x:NS=>[]) (fun x:NS=>(t,cl [.pointer (some ⟨b,0,none⟩),.int .i64 (l.length:Int),x.lv] 176)::(x.Hl++(x.Hw++x.Hb)))
  (fun x=>Sl 173 1 x.lv x.vs x.Hl∧kR x.vs (mA l D (D+1)) x.Hw∧fB b tp (s.adds (rN l D)) x.Hb) ?_ ?_
 rotate_left
 ·rintro⟨k,lv,vs,Hl,Hw,nb2,Hb2⟩ ⟨hlv,hrw,hB2⟩
  dsimp only at hlv hrw hB2 ⊢
  refine W.k ?_
  refine Fin.to (((t,cl [.pointer (some ⟨b,0,none⟩),.int .i64 (l.length:Int),lv] 176)::(Hl++Hw))++Hb2) ?_
  refine F.f2 ?_
  exact⟨t,_,Hb2,rfl,rfl,⟨lv,vs,Hl,Hw,rfl,hlv,hrw⟩,hB2⟩
 ·subst hX
  refine W.k ?_
  refine bH [0,6] (fun x:NS=>[(7,.slice (some ⟨x.b,0,none⟩) (2^(D-x.k)) (2^(D-x.k)))]) (fun x=>(t,cl [.pointer (some ⟨b,0,none⟩),.int .i64 (l.length:Int),x.lv] 176)::(x.Hl++(x.Hw++(x.b,cl (cbs (oF l D x.k).flatten) 55)::x.Hb))) (fun x=>D-x.k)
   (fun x=>x.k≤D∧Sl 173 1 x.lv (x.vs++[.slice (some ⟨x.b,0,none⟩) (2^(D-x.k)) (2^(D-x.k))]) x.Hl∧kR x.vs (mA l D x.k) x.Hw∧fB b tp (s.adds (txs l D x.k 0)) x.Hb) ⟨0,lv0,[],Hl0,[],nb,Hb⟩ ⟨Nat.zero_le _,hv0,kR.nil,hB⟩ ?_
  rintro⟨k,lv,vs,Hl,Hw,nb2,Hb2⟩ ⟨hk,hlv,hrw,hB2⟩
  dsimp only at hk hlv hrw hB2 ⊢
  have hv1:=hlv.isOne
  have hrl:=hrw.len
  have hrl2:vs.length=k:=by rw [hrl];simp [mA]
  by_cases hkD:k<D
  ·have hXY:2^(D-k)=2^(D-(k+1))*2:=by rw [show D-k=D-(k+1)+1 by omega,fT]
   have hXm:2^(D-k)≤1024:=cI (n:=2) oQ (show D-k≤10 by omega)
   have hYp:0<2^(D-(k+1)):=Nat.pow_pos oQ
   have hget:∀ i,i<2^(D-k)→(oF l D k)[i]?=some (atV l k i):=fun i h=>tE l h
   have hnx:=vG l D k
   have hpa:=aE0 l D k
   have hst:=fun i=>aG3 l D k i
   have hnt:=aG2 l D k
   have hr32:=aBN hl D k
   have hrwn:=hrw.new (b:=nb2) hr32 (tF l D k)
   rw [hnx] at hrwn
   generalize 2^(D-k)=X at *
   generalize hYe:2^(D-(k+1))=Y at hXY hYp hpa hnt
   have hlv2:=hlv
   obtain⟨la,ll,lc,rfl,hll⟩:=hlv2.form
   obtain rfl:ll=k+1:=by simp at hll;omega
   haveI i1:dK ((X:Int)/2) Y:=⟨by omega⟩
   refine W.j ?_
   refine SW.block ?_
   refine W.j fun b_=>?_
   rename_i b0
   rw [aLd,← aH5 l k Y]
   refine bZ [0,6,7,8] ((b_,cl (cbs (qT l k Y 0).flatten) 55)::Hb2) (fun x:Hp=>[]) (fun x:Hp=>(b_,cl (cbs (oF l D (k+1)).flatten) 55)::x) (fun x=>fB b tp (s.adds (txs l D (k+1) 0)) x) ?_ ?_
   ·refine W.k ?_
    refine bH [0,6,7,8,53] (fun x:Nat×Hp=>[(54,.int .i64 (x.1:Int))]) (fun x=>(b_,cl (cbs (qT l k Y x.1).flatten) 55)::x.2) (fun x=>Y-x.1) (fun x=>x.1≤Y∧fB b tp (s.adds (txs l D k x.1)) x.2) (0,Hb2) ⟨Nat.zero_le _,hB2⟩ ?_
    rintro⟨i,Hb3⟩ ⟨hi,hB3⟩
    dsimp only at hi hB3 ⊢
    by_cases hiY:i<Y
    ·have hx1:=lF hl k (2*i)
     have hx2:=lF hl k (2*i+1)
     have hg1:=yS hr32 (hget (2*i) oQ)
     have hg2:=yS hr32 (hget (2*i+1) oQ)
     have hc1:=nR hx1
     have hc2:=nR hx2
     have hbp:bP (fun i=>[(0,1),(1,1)][i]?) ([.int .i64 0]++[.int .i64 0]) [(0,.int .i64 ((k+1:Nat):Int)),(1,.int .i64 (i:Int))]=some [.int .i64 ((k+1:Nat):Int),.int .i64 (i:Int)]:=rfl
     have hp32:=aGA hl k Y i
     have hpl:=aE1 l k hi
     have hfit:i*32+32≤(cbs (qT l k Y i).flatten).length:=by rw [aF,eI hp32,hpl];omega
     have hset:=aHD (x:=atV l (k+1) i) hp32 (i:=i) oQ
     rw [aE2 l k hiY] at hset
     have hr:=nR (lF hl (k+1) i)
     refine W.k ?_
     (refine SW.l [21,23] [0,1,2,3,4,5,6,7,8,9,10,11,12,13,14,15,16,17,18,19,20] ?_;refine cQ 21 ?_)
     refine aH (aJG hB3 (k+1) i _ _ hx1 hx2) ?_
     rintro _ Hb4 ⟨rfl,hB4⟩
     rw [Bk.adds_one,hst] at hB4
     rw [show rX (k+1) i (atV l k (2*i)) (atV l k (2*i+1))=atV l (k+1) i from rfl]
     (refine SL.l [22] ?_;refine cQ 23 ?_;refine W.i ?_;refine eH ?_)
     rw [hset]
     refine W.k ?_
     refine aP.mk (i+1,Hb4) ?_
     exact⟨by omega,hB4⟩
    ·have hi2:i=Y:=oQ
     subst hi2
     rw [hpa]
     rw [hnt] at hB3
     refine W.k ?_
     refine bU.mk Hb3 ?_
     exact hB3
   intro Hb3 hB3
   refine W.k fun b_=>?_
   rename_i b1
   rw [bs1]
   refine W.ap (ys:=[.slice (some ⟨b1,0,none⟩) Y Y]) (mm:=1) hlv (fun w2 hs=>(Sl.own 173 1 b_ (xs:=[.slice (some ⟨b1,0,none⟩) Y Y]) rfl).srcAt hs inferInstance) (fun lv2 Hl2 hv2=>?_) (hys:=rfl) (hbytes:=by simp;omega)
   have h21:=hv2.isOne
   refine W.k ?_
   rw [show ([.pointer (some ⟨b,0,none⟩),.int .i64 (l.length:Int),.slice la (k+1) lc]:List Value).set 2 lv2=[.pointer (some ⟨b,0,none⟩),.int .i64 (l.length:Int),lv2] from rfl]
   subst hYe
   refine aP.mk ⟨k+1,lv2,vs++[.slice (some ⟨nb2,0,none⟩) X X],Hl2,Hw++[(nb2,cl (cbs (oF l D k).flatten) 55)],b1,Hb3⟩ ?_
   exact⟨hkD,hv2,hrwn,hB3⟩
  ·have hk2:k=D:=oQ
   subst hk2
   have e1:2^(k-k)=1:=by rw [cZ]
   have hrwn:=hrw.new (b:=nb2) (aBN hl k k) (tF l k k)
   rw [vG] at hrwn
   rw [aIp] at hB2
   rw [e1] at hlv hrwn ⊢
   obtain⟨la,ll,lc,rfl,hll⟩:=hlv.form
   refine W.k ?_
   refine bU.mk ⟨k,.slice la ll lc,vs++[.slice (some ⟨nb2,0,none⟩) 1 1],Hl,Hw++[(nb2,cl (cbs (oF l k k).flatten) 55)],nb2,Hb2⟩ ?_
   exact⟨hlv,hrwn,hB2⟩
abbrev uE(t b:Nat)(l:List (List UInt8))(H:Hp):Prop:=zO t b l.length (mA l (dep l.length) (dep l.length+1)) H
theorem xT(l:List (List UInt8)){D k d:Nat}(h:d<k):(mA l D k)[d]?=some (oF l D d):=by simp [mA,h]
theorem kR.get{vs:List Value}{L:List (List (List UInt8))}{H:Hp}(h:kR vs L H){d:Nat}{r:List (List UInt8)}(hd:L[d]?=some r) :
  ∃ (rb cap:Nat) (junk:List Value),vs[d]?=some (.slice (some ⟨rb,0,none⟩) r.length cap)∧At H rb (cl (cbs r.flatten++junk) 55)∧D32 r∧r.length≤cap:=by
 obtain⟨ws,rfl,rfl,rfl,h4⟩:=h
 rw [aL] at hd
 obtain⟨w,hw,rfl⟩:=Option.map_eq_some_iff.1 hd
 have hm:=aQ hw
 exact⟨w.b,w.cap,w.junk,by rw [aL,hw];rfl,⟨cA.2 ⟨w,hm,rfl⟩⟩,(h4 w hm).1,(h4 w hm).2.2⟩
theorem zO.open{t b n:Nat}{L:List (List (List UInt8))}{H:Hp}(h:zO t b n L H)(hL:0<L.length) :
  ∃ (lb lc:Nat) (vs lj:List Value) (Hw:Hp),H=(t,cl [.pointer (some ⟨b,0,none⟩),.int .i64 (n:Int),.slice (some ⟨lb,0,none⟩) L.length lc] 176)::([(lb,cl (vs++lj) 173)]++Hw)∧kR vs L Hw∧vs.length=L.length∧L.length≤lc:=by
 obtain⟨lv,vs,Hl,Hw,rfl,hlv,hrw⟩:=h
 have hv:=hrw.len
 rcases hlv with ⟨rfl,rfl,rfl⟩|⟨lb,len,cap,junk,rfl,hx,hj,hlc,rfl⟩
 ·simp at hv;omega
 ·obtain rfl:len=L.length:=by omega
  exact⟨lb,cap,vs,junk,Hw,rfl,hrw,hv,hlc⟩
theorem aBr{vs lj:List Value}{d:Nat}{v:Value}(h:vs[d]?=some v):(vs++lj)[d]?=some v:=by
 rw [aK (aD.1 h).1];exact h
theorem qB{L:List (List UInt8)}{junk:List Value}{x:List UInt8}{n:Nat}(h:∀ x∈L,x.length=n){i:Nat}(hi:L[i]?=some x):((cbs L.flatten++junk).drop (i*n)).take n=cbs x:=by
 have hlt:=(aD.1 hi).1
 have hl:(cbs L.flatten).length=L.length*n:=by rw [aF,eI h]
 have h2:(i+1)*n≤L.length*n:=cR n hlt
 rw [jF] at h2
 rw [bW oQ,bM (by rw [aW];omega)]
 exact yS h hi
theorem aKt{t b n:Nat}{L:List (List (List UInt8))}{H:Hp}(hT:zO t b n L H):Tri prog 57 [.pointer (some ⟨t,0,none⟩)] H (fun _=>True) (fun v H'=>v=.int .i64 (n:Int)∧H'=H):=by
 obtain⟨lv,vs,Hl,Hw,rfl,hlv,hrw⟩:=hT
 have h1:=hlv.isOne
 refine Tri.mk func57 rfl ntmps57 rfl fun w hw=>?_
 refine W.k ?_
 refine Fin.to ((t,cl [.pointer (some ⟨b,0,none⟩),.int .i64 (n:Int),lv] 176)::(Hl++Hw)) ?_
 exact F.f1 ⟨rfl,rfl⟩
theorem aHh{t b tp n D:Nat}{s:Bk}{L:List (List (List UInt8))}{r:List (List UInt8)}{x:List UInt8}{Ht Hb:Hp}(hT:zO t b n L Ht)(hB:fB b tp s Hb)(hL:L.length=D+1)(hr:L[D]?=some r)(hx:r[0]?=some x)(hm:D≤1099511627776) :
  Tri prog 68 [.pointer (some ⟨t,0,none⟩)] (Ht++Hb) (fun _=>True) (fun v H'=>∃ Hb',v=dgV (Sha.sum (lJ n x))∧H'=Ht++Hb'∧fB b tp (s.add (lJ n x)) Hb'):=by
 obtain⟨lb,lc,vs,lj,Hw,rfl,hrw,hvl,hlc⟩:=hT.open oQ
 obtain⟨rb,rc,rj,hv,hat,hr32,hrc⟩:=hrw.get hr
 have hrl:=(aD.1 hx).1
 have hv2:=aBr (lj:=lj) hv
 have hg:=qB (junk:=rj) hr32 hx
 rw [mD] at hg
 have hx32:=hr32 x (aQ hx)
 have hc:=nR hx32
 rw [hL] at hlc hvl ⊢
 refine Tri.mk func68 rfl ntmps68 rfl fun w hw=>?_
 haveI i1:dK (((D+1:Nat):Int)-1) D:=⟨by omega⟩
 have hrr:=nR (Sha.sum_len (lJ n x))
 refine W.k fun b_=>?_
 (refine SW.l [22,23] [0,1,2,3,4,5,6,7,8,9,10,11,12,13,14,15,16,17,18,19,20,21] ?_;refine cQ 22 ?_)
 refine aH (aKc hB n x hx32) ?_
 rintro _ Hb' ⟨rfl,hB'⟩
 (refine bI [] ?_;refine cQ 23 ?_;refine W.i ?_;refine eH ?_)
 refine W.k ?_
 refine F.cH (((t,cl [.pointer (some ⟨b,0,none⟩),.int .i64 (n:Int),.slice (some ⟨lb,0,none⟩) (D+1) lc] 176)::([(lb,cl (vs++lj) 173)]++Hw))++Hb') (cbs (Sha.sum (lJ n x))) ?_
 exact⟨Hb',rfl,rfl,hB'⟩
theorem aFs{t b tp:Nat}{s:Bk}{l:List (List UInt8)}{Ht Hb:Hp}(hT:uE t b l Ht)(hB:fB b tp s Hb)(h2:l.length≤1024) :
  Tri prog 68 [.pointer (some ⟨t,0,none⟩)] (Ht++Hb) (fun _=>True) (fun v H'=>∃ Hb',v=dgV (uP l)∧H'=Ht++Hb'∧fB b tp (s.add (lJ l.length (aBT l))) Hb'):=
 aHh (r:=oF l (dep l.length) (dep l.length)) hT hB (by simp [mA]) (xT l oQ) (tE l (Nat.pow_pos oQ)) (by have:=tO (n:=l.length) (k:=10) (by simpa using h2);omega)
theorem aKO{t b n:Nat}{L:List (List (List UInt8))}{H:Hp}(hT:zO t b n L H)(k:Int):Tri prog 84 [.pointer (some ⟨t,0,none⟩),.int .i64 k] H (fun _=>True) (fun v H'=>v=.bool (decide (0≤k∧k<n))∧H'=H):=by
 obtain⟨lv,vs,Hl,Hw,rfl,hlv,hrw⟩:=hT
 have h1:=hlv.isOne
 refine Tri.mk func84 rfl ntmps84 rfl fun w hw=>?_
 by_cases h2:0≤k
 ·by_cases h3:k<n
  ·rw [decide_eq_true ⟨h2,h3⟩]
   refine W.k ?_
   refine Fin.to ((t,cl [.pointer (some ⟨b,0,none⟩),.int .i64 (n:Int),lv] 176)::(Hl++Hw)) ?_
   exact F.f1 ⟨rfl,rfl⟩
  ·rw [decide_eq_false (fun h=>h3 h.2)]
   refine W.k ?_
   refine Fin.to ((t,cl [.pointer (some ⟨b,0,none⟩),.int .i64 (n:Int),lv] 176)::(Hl++Hw)) ?_
   exact F.f1 ⟨rfl,rfl⟩
 ·rw [decide_eq_false (fun h=>h2 h.1)]
  refine W.k ?_
  refine Fin.to ((t,cl [.pointer (some ⟨b,0,none⟩),.int .i64 (n:Int),lv] 176)::(Hl++Hw)) ?_
  exact F.f1 ⟨rfl,rfl⟩
def qL(l:List (List UInt8))(k:Int):List UInt8:=if 0≤k∧k<l.length then l.getD k.toNat z32 else z32
theorem aKr{t b:Nat}{l:List (List UInt8)}{H:Hp}(hT:uE t b l H)(k:Int)(h2:l.length≤1024):Tri prog 42 [.pointer (some ⟨t,0,none⟩),.int .i64 k] H (fun _=>True) (fun v H'=>v=dgV (qL l k)∧H'=H):=by
 have hT2:=hT
 have hle:=xC l.length
 obtain⟨lb,lc,vs,lj,Hw,rfl,hrw,hvl,hlc⟩:=hT.open (by simp [mA])
 have hH:=aKO hT2 k
 obtain⟨rb,rc,rj,hv,hat,hr32,hrc⟩:=hrw.get (xT l (D:=dep l.length) (k:=dep l.length+1) (d:=0) oQ)
 rw [tF,jE] at hv hrc
 have hv2:=aBr (lj:=lj) hv
 have hLl:(mA l (dep l.length) (dep l.length+1)).length=dep l.length+1:=by simp [mA]
 rw [hLl] at hlc hH ⊢
 refine Tri.mk func42 rfl ntmps42 rfl fun w hw=>?_
 refine W.k fun b_=>?_
 refine W.cq hH ?_
 by_cases hk:0≤k∧k<(l.length:Int)
 ·obtain⟨j,rfl⟩:∃ j:Nat,k=(j:Int):=⟨k.toNat,by omega⟩
  have hj:j<l.length:=oQ
  have hx:qL l (j:Int)=atV l 0 j:=by unfold qL;rw [if_pos hk,aX];rfl
  have hg:=qB (junk:=rj) hr32 (tE l (D:=dep l.length) (d:=0) (i:=j) (by rw [jE];omega))
  have hc:=nR (hr32 _ (aQ (tE l (D:=dep l.length) (d:=0) (i:=j) (by rw [jE];omega))))
  rw [decide_eq_true hk,hx]
  generalize 2^dep l.length=X at *
  refine W.k ?_
  refine F.cH ((t,cl [.pointer (some ⟨b,0,none⟩),.int .i64 (l.length:Int),.slice (some ⟨lb,0,none⟩) (dep l.length+1) lc] 176)::([(lb,cl (vs++lj) 173)]++Hw)) (cbs (atV l 0 j)) ?_
  exact⟨rfl,rfl⟩
 ·have hx:qL l k=z32:=by unfold qL;rw [if_neg hk]
  rw [decide_eq_false hk,hx]
  refine W.k ?_
  refine F.cH ((t,cl [.pointer (some ⟨b,0,none⟩),.int .i64 (l.length:Int),.slice (some ⟨lb,0,none⟩) (dep l.length+1) lc] 176)::([(lb,cl (vs++lj) 173)]++Hw)) (cbs z32) ?_
  exact⟨rfl,rfl⟩
theorem b1d{x:List UInt8}(h:x.length=32):bP (fun i=>some (i*32,32)) (zs (List.replicate 32 (.int .u8 0)) 1) [(0,dgV x)]=some (cbs x):=by
 have h1:(vl (dgV x)).length=32:=nR h
 have h2:(zs (List.replicate 32 (.int .u8 0)) 1).length=32:=by rw [aBh,aM]
 unfold bP
 dsimp only
 rw [if_pos ⟨h1,by omega⟩]
 unfold bP
 rw [mD,dF,List.nil_append,eX,fL oQ,aE]
 rfl
theorem oN{P:Program}{C:Ctx}{ρ:Fr}{H:Hp}{fn:Func}{R:Value→Hp→Prop}{e:Exit}{t ty n b u:Nat}{l:List Value}{v2:Value}{T:TypeId}(Hc:Hp){s:Hp}(l2:List Value) [hp:eY H Hc s](hR:R (.tuple #[.agg l2.toArray,v2]) Hc)(he:e=.ret∨e=.normal:=by first|exact .inl rfl|exact .inr rfl)(hrs:fn.results=#[.cell t ty,.tmp u]:=by exact rfl)(ht:lk ρ t=some (.pointer (some ⟨b,0,none⟩)):=by exact rfl)(hu:lk ρ u=some v2:=by exact rfl)(hat:At H b (cl l T):=by infer_instance)(hl:l=l2:=by first|assumption|exact rfl)(iR:eV P ty n:=by infer_instance)(hn:l2.length=n:=by first|assumption|exact rfl):Fin P C fn R e ρ H:=by
 subst hl
 exact Fin.c1t1 he hrs ht hu hn Hc hR
theorem aES{l:List (List UInt8)}(hl:D32 l)(k:Int):(qL l k).length=32:=by
 unfold qL
 split
 ·exact lF hl 0 k.toNat
 ·rfl
namespace Aes
def rotW(w:List UInt8):List UInt8:=w.drop 1++w.take 1
def xorH(w:List UInt8)(p:UInt8):List UInt8:=w.set 0 (w.getD 0 0 ^^^ p)
def nextW(w:List UInt8)(i n:Nat):List UInt8:=
 if i%n=0 then xorH (subW (rotW w)) (Gf.pow 2 (i/n-1)) else if 6<n∧i%n=4 then subW w else w
theorem nextW_len{w:List UInt8}(h:w.length=4)(i n:Nat):(nextW w i n).length=4:=by
 unfold nextW xorH rotW
 split
 ·rw [cT,subW_len];simp;omega
 ·split
  ·rw [subW_len];exact h
  ·exact h
end Aes
theorem four{w:List UInt8}(h:w.length=4):∃ a b c d,w=[a,b,c,d]:=by
 match w,h with
 | [a,b,c,d],_=>exact⟨a,b,c,d,rfl⟩
abbrev W4(ws:List (List UInt8)):Prop:=∀ x∈ws,x.length=4
theorem aHs{c b bw len cap:Nat}{r:Value}{junk:List Value}(ws:List (List UInt8))(hws:W4 ws)(hl:ws.length=len)(hc:len≤cap)(w0:List UInt8)(i n:Nat)(hn:4≤n)(hn8:n≤8)(hi:n≤i)(hi6:i≤1000)(hw0:ws[i-1]?=some w0) :
  Tri prog 90 [.pointer (some ⟨c,0,none⟩),.int .i64 (i:Int),.int .i64 (n:Int)] [(bw,cl (cbs ws.flatten++junk) 192),(c,nD b (.slice (some ⟨bw,0,none⟩) len cap) r),(b,fN)] (fun _=>True)
  (fun v H=>v=.agg (cbs (Aes.nextW w0 i n)).toArray∧H=[(bw,cl (cbs ws.flatten++junk) 192),(c,nD b (.slice (some ⟨bw,0,none⟩) len cap) r),(b,fN)]):=by
 refine Tri.mk func90 rfl ntmps90 rfl fun w hw=>?_
 have hx4:=hws w0 (aQ hw0)
 have hil:i-1<ws.length:=(aD.1 hw0).1
 have hg:=qB (junk:=junk) hws hw0
 haveI:dK ((i:Int)-1) (i-1):=⟨by omega⟩
 obtain⟨a0,a1,a2,a3,rfl⟩:=four hx4
 have hL:=Aes.nextW_len hx4 i n
 have hL2:(cbs (Aes.nextW [a0,a1,a2,a3] i n)).length=4:=by unfold cbs;rw [aJ,hL]
 generalize hF:(cbs ws.flatten++junk)=Fc at *
 refine W.j fun _ b_=>?_
 rename_i b6
 have hR:∀ k,k=i/n-1→(i:Int)/(n:Int)-1=(k:Int):=fun k hk=>by
  have h1:1≤i/n:=Nat.div_pos hi oQ
  have h2:(i:Int)/(n:Int)=((i/n:Nat):Int):=by simp
  omega
 have hM:(i:Int)%(n:Int)=((i%n:Nat):Int):=by simp
 refine bZ [6,7] [(b_,cl (cbs [a0,a1,a2,a3]) 192),(b6,cl [.int .u8 0,.int .u8 0,.int .u8 0,.int .u8 0] 192),(bw,cl Fc 192),(c,nD b (.slice (some ⟨bw,0,none⟩) len cap) r),(b,fN)] (fun _:Unit=>[])
  (fun _=>[(b_,cl (cbs (Aes.nextW [a0,a1,a2,a3] i n)) 192),(b6,cl [.int .u8 0,.int .u8 0,.int .u8 0,.int .u8 0] 192),(bw,cl Fc 192),(c,nD b (.slice (some ⟨bw,0,none⟩) len cap) r),(b,fN)]) (fun _=>True) ?_ ?_
 ·have hs:=aJb (c:=c) (b:=b) (ws:=.slice (some ⟨bw,0,none⟩) len cap) (r:=r)
  by_cases h0:i%n=0
  ·rw [h0] at hM
   have e:Aes.nextW [a0,a1,a2,a3] i n=[Aes.S a1 ^^^ Gf.pow 2 (i/n-1),Aes.S a2,Aes.S a3,Aes.S a0]:=by unfold Aes.nextW;rw [if_pos h0];rfl
   have hc0:cbs [a0,a1,a2,a3]=[u8v a0,u8v a1,u8v a2,u8v a3]:=rfl
   have hl4:(cbs (Aes.subW [a1,a2,a3,a0])).length=4:=rfl
   rw [e,hc0]
   refine W.k ?_
   refine W.cw (hs [a1,a2,a3,a0] rfl) ?_
   have hw:IntKind.i64.wrap ((i:Int)/(n:Int)-1)=((i/n-1:Nat):Int):=by
    have h2:i/n≤1000:=gS (jZ ..) hi6
    rw [hR _ rfl];exact w64 oQ
   have h2:i/n-1≤1000000:=by
    have h2:i/n≤1000:=gS (jZ ..) hi6
    omega
   (refine SW.l [9] [0,1,2,3] ?_;refine eW 4 rfl (aBG rfl rfl rfl oQ oQ oQ) ?_;refine eW 5 rfl (aAj rfl rfl rfl hw) ?_;refine aU 6 ?_)
   refine W.cq (aEd 2 (i/n-1) h2) ?_
   (refine SL.l [7,8] ?_;refine cQ 9 ?_;refine W.i ?_;refine eH ?_)
   have hfin:(cbs (Aes.subW [a1,a2,a3,a0])).set 0 (.int .u8 ((Aes.S a1 ^^^ Gf.pow 2 (i/n-1)).toNat:Int))=cbs [Aes.S a1 ^^^ Gf.pow 2 (i/n-1),Aes.S a2,Aes.S a3,Aes.S a0]:=rfl
   rw [hfin]
   refine W.k ?_
   refine bU.mk () ?_
   trivial
  ·have h0':¬ (i:Int)%(n:Int)=0:=oQ
   by_cases h6:6<n
   ·by_cases h4:i%n=4
    ·have h4':(i:Int)%(n:Int)=4:=oQ
     have e:Aes.nextW [a0,a1,a2,a3] i n=Aes.subW [a0,a1,a2,a3]:=by unfold Aes.nextW;rw [if_neg h0,if_pos ⟨h6,h4⟩]
     have hl4:(cbs (Aes.subW [a0,a1,a2,a3])).length=4:=rfl
     rw [e]
     refine W.k ?_
     refine W.cw (hs [a0,a1,a2,a3] rfl) ?_
     refine bU.mk () ?_
     trivial
    ·have h4':¬ (i:Int)%(n:Int)=4:=oQ
     have e:Aes.nextW [a0,a1,a2,a3] i n=[a0,a1,a2,a3]:=by unfold Aes.nextW;rw [if_neg h0,if_neg (fun h=>h4 h.2)]
     rw [e]
     refine W.k ?_
     refine bU.mk () ?_
     trivial
   ·have e:Aes.nextW [a0,a1,a2,a3] i n=[a0,a1,a2,a3]:=by unfold Aes.nextW;rw [if_neg h0,if_neg (fun h=>h6 h.1)]
    rw [e]
    refine W.k ?_
    refine bU.mk () ?_
    trivial
 rintro _ -
 refine W.k ?_
 exact F.cH [(bw,cl Fc 192),(c,nD b (.slice (some ⟨bw,0,none⟩) len cap) r),(b,fN)] _ ⟨rfl,rfl⟩
end
section
attribute [local irreducible] SW SL SQ SH SA SS Pu Fin bU aP
open Pq
theorem Rd.rows{K:List Nat}{w:World}{v:Value}{n:Nat}{L:List (List Value)}(hn:0<n)(h:Rd K w n v L.flatten)(hL:∀ x∈L,x.length=n):∃ (a:Option Addr) (cap:Nat),v=.slice a L.length cap∧L.length≤cap ∧
  ∀ (i:Nat) (x:List Value),L[i]?=some x→∃ (b o:Nat) (l:List Value) (T:TypeId) (fz:Nat×Nat),a=some ⟨b,o,none⟩∧w.heap[b]?=some (.cells l.toArray T fz)∧b∉K∧(l.drop (o+i*n)).take n=x:=by
 obtain⟨a,len,cap,rfl,h1,h2,h3⟩:=h
 have hl:L.length=len:=by
  rw [eI hL] at h1
  exact Nat.eq_of_mul_eq_mul_right hn h1
 subst hl
 refine⟨a,cap,rfl,h2,fun i x hi=>?_⟩
 have hlt:i<L.length:=(aD.1 hi).1
 obtain⟨b,o,l,T,fz,rfl,hb,hk,hy⟩:=h3.resolve_left oQ
 refine⟨b,o,l,T,fz,rfl,hb,hk,?_⟩
 have hm:(i+1)*n≤L.length*n:=cR n hlt
 rw [jF] at hm
 rw [← qG hL hi,← hy,kO,fR,cG,cU oQ]
theorem aFV(r:List (List UInt8))(hr:D32 r)(h1:1≤r.length)(hn:r.length≤1099511627)(v:Value):Tri prog 107 [v] [] (fun w=>Rd [] w 32 v (cbs r.flatten)) (fun o H=>Sl 55 32 o (cbs r.flatten) H):=by
 refine Tri.mk func107 rfl ntmps107 rfl fun w hw=>?_
 have hw2:=hw
 obtain⟨a,cap,rfl,hc,hg⟩:=hw.row hr
 obtain⟨b,o,l,T,fz,rfl,-⟩:=hg 0 _ (aA oQ)
 have hfl:(cbs r.flatten).length=r.length*32:=by rw [aF,eI hr]
 refine W.k fun b_=>?_
 refine W.ap (ys:=cbs r.flatten) (mm:=r.length) (Sl.own 55 32 b_ (len:=0) (xs:=[]) rfl) (fun w2 hs=>hw2.srcAt hs) (fun v1 H1 hv1=>?_) (hys:=hfl) (hbytes:=by rw [hfl];simp;omega)
 have h11:=hv1.isOne
 rw [List.nil_append] at hv1
 refine W.k ?_
 refine Fin.to H1 ?_
 exact F.f1 hv1
theorem kR.snocSl{vs:List Value}{L:List (List (List UInt8))}{H H1:Hp}(h:kR vs L H){v:Value}{r:List (List UInt8)}(hv:Sl 55 32 v (cbs r.flatten) H1)(hr:D32 r)(hp:1≤r.length):kR (vs++[v]) (L++[r]) (H++H1):=by
 rcases hv with ⟨rfl,h2,rfl⟩|⟨b,len,cap,junk,rfl,hx,hj,hlc,rfl⟩
 ·have h3:=congrArg List.length h2
  rw [aF,eI hr,cM] at h3
  omega
 ·obtain rfl:len=r.length:=by rw [aF,eI hr] at hx;omega
  exact h.snoc ⟨b,cap,junk,r⟩ ⟨hr,by dsimp only;omega,hlc⟩
theorem b1s(a:Option Addr)(l c:Nat):bP (fun i=>some (i*1,1)) (zs [.slice none 0 0] 1) [(0,.slice a l c)]=some [.slice a l c]:=rfl
structure CS where
 d:Nat
 lv:Value
 vs:List Value
 Hl:Hp
 Hw:Hp
theorem aIR{t b:Nat}{l:List (List UInt8)}{Ht:Hp}(hT:uE t b l Ht)(hl:D32 l)(h1:1≤l.length)(h2:l.length≤1024):Tri prog 60 [.pointer (some ⟨t,0,none⟩)] Ht (fun _=>True)
  (fun v H'=>∃ c Hc,v=.pointer (some ⟨c,0,none⟩)∧H'=Ht++Hc∧uE c b l Hc):=by
 have hd10:=tO (n:=l.length) (k:=10) (by simpa using h2)
 obtain⟨lb,lc,vs,lj,Hw,rfl,hrw,hvl,hlc⟩:=hT.open (by simp [mA])
 have hLl:(mA l (dep l.length) (dep l.length+1)).length=dep l.length+1:=by simp [mA]
 rw [hLl] at hlc hvl ⊢
 unfold uE
 refine Tri.mk func60 rfl ntmps60 rfl fun w hw=>?_
 generalize hD:dep l.length=D at *
 have hbf:bP (fun i=>[(0,1),(1,1),(2,1)][i]?) ([.pointer none]++[.int .i64 0]++[.slice none 0 0]) [(0,.pointer (some ⟨b,0,none⟩)),(1,.int .i64 (l.length:Int))]=some [.pointer (some ⟨b,0,none⟩),.int .i64 (l.length:Int),.slice none 0 0]:=rfl
 refine W.k ?_
 (refine SW.l [9] [0,1,2,3,4,5,6,7,8] ?_;refine cQ 9 ?_;refine W.i fun b_=>?_;refine SG.l [10,11] ?_)
 refine W.j ?_
 refine bZ [3] [(b_,cl [.pointer (some ⟨b,0,none⟩),.int .i64 (l.length:Int),.slice none 0 0] 176)] (fun x:CS=>[]) (fun x=>(b_,cl [.pointer (some ⟨b,0,none⟩),.int .i64 (l.length:Int),x.lv] 176)::(x.Hl++x.Hw)) (fun x=>Sl 173 1 x.lv x.vs x.Hl∧kR x.vs (mA l D (D+1)) x.Hw) ?_ ?_
 rotate_left
 ·rintro⟨d,lv,vs2,Hl,Hw2⟩ ⟨hlv,hrw2⟩
  dsimp only at hlv hrw2 ⊢
  refine W.k ?_
  refine Fin.to (((t,cl [.pointer (some ⟨b,0,none⟩),.int .i64 (l.length:Int),.slice (some ⟨lb,0,none⟩) (D+1) lc] 176)::([(lb,cl (vs++lj) 173)]++Hw))++((b_,cl [.pointer (some ⟨b,0,none⟩),.int .i64 (l.length:Int),lv] 176)::(Hl++Hw2))) ?_
  refine F.f1 ?_
  exact⟨b_,_,rfl,rfl,lv,vs2,Hl,Hw2,rfl,hlv,hrw2⟩
 ·refine W.k ?_
  refine bH [3,21,22] (fun x:CS=>[(23,.int .i64 (x.d:Int))]) (fun x=>(b_,cl [.pointer (some ⟨b,0,none⟩),.int .i64 (l.length:Int),x.lv] 176)::(x.Hl++x.Hw)) (fun x=>D+1-x.d) (fun x=>x.d≤D+1∧Sl 173 1 x.lv x.vs x.Hl∧kR x.vs (mA l D x.d) x.Hw) ⟨0,.slice none 0 0,[],[],[]⟩ ⟨Nat.zero_le _,Sl.nil _ _,kR.nil⟩ ?_
  rintro⟨d,lv,vs2,Hl,Hw2⟩ ⟨hd,hlv,hrw2⟩
  dsimp only at hd hlv hrw2 ⊢
  have hv1:=hlv.isOne
  by_cases hdD:d<D+1
  ·have hXm:2^(D-d)≤1024:=cI (n:=2) oQ (show D-d≤10 by omega)
   have hXp:0<2^(D-d):=Nat.pow_pos oQ
   have hrl:=tF l D d
   have hr32:=aBN hl D d
   obtain⟨rb,rc,rj,hv,hat,-,hrc⟩:=hrw.get (xT l (D:=D) hdD)
   have hv2:=aBr (lj:=lj) hv
   have hcl:=aFV (oF l D d) hr32 oQ oQ (.slice (some ⟨rb,0,none⟩) (oF l D d).length rc)
   have hnx:=vG l D d
   have hrl2:=hrw2.len
   have hlen2:vs2.length=d:=by rw [hrl2];simp [mA]
   have hfl:(cbs (oF l D d).flatten).length=(oF l D d).length*32:=by rw [aF,eI hr32]
   generalize oF l D d=R at *
   refine W.k ?_
   (refine SW.l [8,11] [0,1,2,3,4,5] ?_;refine aU 6 ?_)
   refine aH hcl ?_ rfl (fun w2 hs=>?_)
   rotate_left
   ·exact Rd.at (T:=55) (fz:=(0,0)) [] hs (l:=cbs R.flatten++rj) (o:=0) (by rw [bN,← hfl,dG];rfl) hfl hrc
   intro cv H1 hcv
   have hcv1:=hcv.isOne
   obtain⟨ca,cl2,cc,rfl,-⟩:=hcv.form
   have hrn:=hrw2.snocSl hcv hr32 oQ
   rw [hnx] at hrn
   (refine bI [] ?_;refine aU 7 ?_)
   refine iO (fun b7=>?_) (hr:=b1s ..)
   (refine bI [] ?_;refine cQ 8 ?_)
   refine W.ap (ys:=[.slice ca cl2 cc]) (mm:=1) hlv (fun w2 hs=>(Sl.own 173 1 b7 (xs:=[.slice ca cl2 cc]) rfl).srcAt hs inferInstance) (fun lv2 Hl2 hv3=>?_) (hys:=rfl) (hbytes:=by simp;omega)
   have h21:=hv3.isOne
   (refine SL.l [9,10] ?_;refine cQ 11 ?_;refine W.i ?_;refine eH ?_)
   rw [show ([.pointer (some ⟨b,0,none⟩),.int .i64 (l.length:Int),lv]:List Value).set 2 lv2=[.pointer (some ⟨b,0,none⟩),.int .i64 (l.length:Int),lv2] from rfl]
   refine W.k ?_
   refine aP.mk ⟨d+1,lv2,vs2++[.slice ca cl2 cc],Hl2,Hw2++H1⟩ ?_
   exact⟨hdD,hv3,hrn⟩
  ·have hd2:d=D+1:=oQ
   subst hd2
   refine W.k ?_
   refine bU.mk ⟨D+1,lv,vs2,Hl,Hw2⟩ ?_
   exact⟨hlv,hrw2⟩
end
section
attribute [local irreducible] SW SL SQ SH SA SS Pu Fin bU aP
theorem Rd.lastAt{w:World}{a:Option Addr}{len cap:Nat}{bs:List UInt8}(h:Rd [] w 1 (.slice a len cap) (cbs bs))(hl:0<len):∃ (b o:Nat) (l:List Value) (T:TypeId) (fz:Nat×Nat) (c:UInt8),a=some ⟨b,o,none⟩∧w.heap[b]?=some (.cells l.toArray T fz)∧b∉([]:List Nat)∧l[o+(len-1)]?=some (.int .u8 (c.toNat:Int)):=by
 obtain⟨a',len',cap',he,hyl,hc,hr⟩:=h.get
 cases he
 rw [aF,Nat.mul_one] at hyl
 obtain⟨b,o,l,T,fz,ha,hb,hk,hys⟩:=hr hl
 obtain⟨c,hc1⟩:∃ c,bs[len-1]?=some c:=⟨_,aA oQ⟩
 refine⟨b,o,l,T,fz,c,ha,hb,hk,?_⟩
 have:((l.drop o).take (len*1))[len-1]?=(cbs bs)[len-1]?:=by rw [hys]
 rw [bB,if_pos oQ,bA] at this
 rw [this]
 unfold cbs
 rw [aL,hc1]
 rfl
theorem aIU(v:Value)(bs:List UInt8):Tri prog 71 [v] [] (fun w=>Rd [] w 1 v (cbs bs)) (fun v H=>∃ ys:List UInt8,ys.length=256∧Sl 5 1 v (cbs ys) H):=by
 refine Tri.mk func71 rfl ntmps71 rfl fun w hw=>?_
 obtain⟨a,len,cap,rfl,hl,hc,-⟩:=hw.get
 rw [aF,Nat.mul_one] at hl
 by_cases hb:256<len
 ·have hR:=Rd.pre 256 hw
  rw [show min 256 len=256 by omega] at hR
  obtain⟨b0,o0,l0,T0,fz0,c,rfl,hbq,hbk,hcell⟩:=hR.lastAt oQ
  (refine W.j ?_;repeat intro b_)
  have h0:Sl 5 1 (.slice (some ⟨b_,0,none⟩) 0 0) [] [(b_,cl ([]:List Value) 5)]:=Sl.mk (xs:=[]) (junk:=[]) (len:=0) (cap:=0) rfl rfl (Nat.le_refl _)
  have hml:(bs.take 256).length=256:=by first|exact hl|(rw [aI];omega)
  refine W.ap h0 (fun w2 hs=>hR.srcAt hs) (fun v1 H1 h1=>?_) (hys:=by rw [aF,Nat.mul_one];exact hml) (hbytes:=by rw [aF,hml];simp <;> omega)
  have h11:=h1.isOne
  rw [List.nil_append] at h1
  (refine W.j ?_;repeat intro b_)
  refine bZ [] H1 (fun x:Value×Hp×List UInt8=>[(3,x.1)]) (fun x=>x.2.1) (fun x=>x.2.2.length=256∧Sl 5 1 x.1 (cbs x.2.2) x.2.1) ?_ ?_
  ·(refine W.k ?_;repeat intro b_)
   refine bH [0] (fun x:List UInt8×Value×Hp=>[(3,x.2.1)]) (fun x=>x.2.2) (fun x=>256-x.1.length) (fun x=>x.1.length≤256∧Sl 5 1 x.2.1 (cbs x.1) x.2.2) (bs.take 256,v1,H1) ⟨by rw [hml];omega,h1⟩ ?_
   rintro⟨ys,v2,H2⟩ ⟨hy,h2⟩
   dsimp only at hy h2 ⊢
   have h21:=h2.isOne
   obtain⟨a2,l2,c2,rfl,hl2⟩:=h2.form
   rw [aF,Nat.mul_one] at hl2
   by_cases hlt:ys.length<256
   ·have hbf:bP (fun i=>some (i*1,1)) (zs [.int .u8 0] 1) [(0,.int .u8 (c.toNat:Int))]=some (cbs [c]):=rfl
    have hN:dK (((256:Nat):Int)-1) (256-1):=⟨by omega⟩
    (refine W.k ?_;repeat intro b_)
    refine W.ap (ys:=cbs [c]) (mm:=1) h2 (fun w2 hs=>(Sl.own 5 1 b_ (xs:=cbs [c]) rfl).srcAt hs inferInstance) (fun v3 H3 h3=>?_) (hys:=rfl) (hbytes:=by rw [aF,aF];simp <;> omega)
    have h31:=h3.isOne
    rw [← gU] at h3
    (refine W.k ?_;repeat intro b_)
    have hyl:(ys++[c]).length=ys.length+1:=by rw [aB,dV]
    refine aP.mk (ys++[c],v3,H3) ?_
    exact⟨by dsimp only;omega,h3⟩
   ·(refine W.k ?_;repeat intro b_)
    refine bU.mk (.slice a2 l2 c2,H2,ys) ?_
    exact⟨by dsimp only;omega,h2⟩
  rintro⟨v2,H2,ys⟩ ⟨hy,h2⟩
  dsimp only at hy h2 ⊢
  have h21:=h2.isOne
  (refine W.k ?_;repeat intro b_)
  refine Fin.to H2 ?_
  exact F.f1 ⟨ys,hy,h2⟩
 by_cases hm0:0<len
 ·have hR:=hw
  obtain⟨b0,o0,l0,T0,fz0,c,rfl,hbq,hbk,hcell⟩:=hR.lastAt oQ
  (refine W.j ?_;repeat intro b_)
  have h0:Sl 5 1 (.slice (some ⟨b_,0,none⟩) 0 0) [] [(b_,cl ([]:List Value) 5)]:=Sl.mk (xs:=[]) (junk:=[]) (len:=0) (cap:=0) rfl rfl (Nat.le_refl _)
  have hml:(bs).length=len:=by first|exact hl|(rw [aI];omega)
  refine W.ap h0 (fun w2 hs=>hR.srcAt hs) (fun v1 H1 h1=>?_) (hys:=by rw [aF,Nat.mul_one];exact hml) (hbytes:=by rw [aF,hml];simp <;> omega)
  have h11:=h1.isOne
  rw [List.nil_append] at h1
  (refine W.j ?_;repeat intro b_)
  refine bZ [] H1 (fun x:Value×Hp×List UInt8=>[(3,x.1)]) (fun x=>x.2.1) (fun x=>x.2.2.length=256∧Sl 5 1 x.1 (cbs x.2.2) x.2.1) ?_ ?_
  ·(refine W.k ?_;repeat intro b_)
   refine bH [0] (fun x:List UInt8×Value×Hp=>[(3,x.2.1)]) (fun x=>x.2.2) (fun x=>256-x.1.length) (fun x=>x.1.length≤256∧Sl 5 1 x.2.1 (cbs x.1) x.2.2) (bs,v1,H1) ⟨by rw [hml];omega,h1⟩ ?_
   rintro⟨ys,v2,H2⟩ ⟨hy,h2⟩
   dsimp only at hy h2 ⊢
   have h21:=h2.isOne
   obtain⟨a2,l2,c2,rfl,hl2⟩:=h2.form
   rw [aF,Nat.mul_one] at hl2
   by_cases hlt:ys.length<256
   ·have hbf:bP (fun i=>some (i*1,1)) (zs [.int .u8 0] 1) [(0,.int .u8 (c.toNat:Int))]=some (cbs [c]):=rfl
    have hN:dK (((len:Nat):Int)-1) (len-1):=⟨by omega⟩
    (refine W.k ?_;repeat intro b_)
    refine W.ap (ys:=cbs [c]) (mm:=1) h2 (fun w2 hs=>(Sl.own 5 1 b_ (xs:=cbs [c]) rfl).srcAt hs inferInstance) (fun v3 H3 h3=>?_) (hys:=rfl) (hbytes:=by rw [aF,aF];simp <;> omega)
    have h31:=h3.isOne
    rw [← gU] at h3
    (refine W.k ?_;repeat intro b_)
    have hyl:(ys++[c]).length=ys.length+1:=by rw [aB,dV]
    refine aP.mk (ys++[c],v3,H3) ?_
    exact⟨by dsimp only;omega,h3⟩
   ·(refine W.k ?_;repeat intro b_)
    refine bU.mk (.slice a2 l2 c2,H2,ys) ?_
    exact⟨by dsimp only;omega,h2⟩
  rintro⟨v2,H2,ys⟩ ⟨hy,h2⟩
  dsimp only at hy h2 ⊢
  have h21:=h2.isOne
  (refine W.k ?_;repeat intro b_)
  refine Fin.to H2 ?_
  exact F.f1 ⟨ys,hy,h2⟩
 ·have hR:=hw
  (refine W.j ?_;repeat intro b_)
  have h0:Sl 5 1 (.slice (some ⟨b_,0,none⟩) 0 0) [] [(b_,cl ([]:List Value) 5)]:=Sl.mk (xs:=[]) (junk:=[]) (len:=0) (cap:=0) rfl rfl (Nat.le_refl _)
  have hml:(bs).length=len:=by first|exact hl|(rw [aI];omega)
  refine W.ap h0 (fun w2 hs=>hR.srcAt hs) (fun v1 H1 h1=>?_) (hys:=by rw [aF,Nat.mul_one];exact hml) (hbytes:=by rw [aF,hml];simp <;> omega)
  have h11:=h1.isOne
  rw [List.nil_append] at h1
  (refine W.j ?_;repeat intro b_)
  refine bZ [] H1 (fun x:Value×Hp×List UInt8=>[(3,x.1)]) (fun x=>x.2.1) (fun x=>x.2.2.length=256∧Sl 5 1 x.1 (cbs x.2.2) x.2.1) ?_ ?_
  ·(refine W.k ?_;repeat intro b_)
   refine bH [0] (fun x:List UInt8×Value×Hp=>[(3,x.2.1)]) (fun x=>x.2.2) (fun x=>256-x.1.length) (fun x=>x.1.length≤256∧Sl 5 1 x.2.1 (cbs x.1) x.2.2) (bs,v1,H1) ⟨by rw [hml];omega,h1⟩ ?_
   rintro⟨ys,v2,H2⟩ ⟨hy,h2⟩
   dsimp only at hy h2 ⊢
   have h21:=h2.isOne
   obtain⟨a2,l2,c2,rfl,hl2⟩:=h2.form
   rw [aF,Nat.mul_one] at hl2
   by_cases hlt:ys.length<256
   ·have hbf:bP (fun i=>some (i*1,1)) (zs [.int .u8 0] 1) [(0,.int .u8 0)]=some (cbs [0]):=rfl
    (refine W.k ?_;repeat intro b_)
    refine W.ap (ys:=cbs [0]) (mm:=1) h2 (fun w2 hs=>(Sl.own 5 1 b_ (xs:=cbs [0]) rfl).srcAt hs inferInstance) (fun v3 H3 h3=>?_) (hys:=rfl) (hbytes:=by rw [aF,aF];simp <;> omega)
    have h31:=h3.isOne
    rw [← gU] at h3
    (refine W.k ?_;repeat intro b_)
    have hyl:(ys++[0]).length=ys.length+1:=by rw [aB,dV]
    refine aP.mk (ys++[0],v3,H3) ?_
    exact⟨by dsimp only;omega,h3⟩
   ·(refine W.k ?_;repeat intro b_)
    refine bU.mk (.slice a2 l2 c2,H2,ys) ?_
    exact⟨by dsimp only;omega,h2⟩
  rintro⟨v2,H2,ys⟩ ⟨hy,h2⟩
  dsimp only at hy h2 ⊢
  have h21:=h2.isOne
  (refine W.k ?_;repeat intro b_)
  refine Fin.to H2 ?_
  exact F.f1 ⟨ys,hy,h2⟩
end
end Go.Proofs.YtmceanmblcadcaaGreat
