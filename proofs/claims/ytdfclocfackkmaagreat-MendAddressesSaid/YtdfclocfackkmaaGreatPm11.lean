/- The document's sums of levels, its root. -/
import Derived.Test.YtdfclocfackkmaaGreatPm10
set_option linter.unusedVariables false
set_option linter.unusedSimpArgs false
set_option linter.unusedSectionVars false
set_option maxHeartbeats 1000000
namespace Go.Proofs.YtdfclocfackkmaaGreat
open Go Go.Proofs.Tryz
section
attribute [local irreducible] SW SL SQ SH SA SS Pu Fin bS aN
theorem Rd.row{K:List Nat}{w:World}{v:Value}{L:LL}(h:Rd K w 32 v (cbs L.flatten))(hL:D32 L):∃ (a:Option Addr) (cap:Nat),v=.slice a L.length cap/\L.length<=cap /\ ∀ (i:Nat) (x:LB),L[i]?=some x->∃ (b o:Nat) (l:LV) (T:TypeId) (fz:Nat×Nat),a=some ⟨b,o,none⟩/\w.heap[b]?=some (.cells l.toArray T fz)/\b∉K/\(l.drop (o+i*32)).take 32=cbs x:=by
 obtain⟨a,len,cap,rfl,h1,h2,h3⟩:=h;have hl:L.length=len:=by rw [aI,dH hL] at h1;omega
 subst hl;refine⟨a,cap,rfl,h2,fun i x hi=>?_⟩;have hlt:i<L.length:=(aD.1 hi).1;obtain⟨b,o,l,T,fz,rfl,hb,hk,hy⟩:=h3.resolve_left oQ;refine⟨b,o,l,T,fz,rfl,hb,hk,?_⟩;rw [<-aBQ hL hi,<-hy,jT,fK,cG,cO oQ]
theorem aQd(l:LL)(hl:D32 l)(v:Value)(hn:l.length<=1099511627776):∀ (d i:Nat),(i+1)*2^d<=1099511627776 -> Tri prog 132 [v,.int .i64 (d:Int),.int .i64 (i:Int)] [] (fun w=>Rd [] w 32 v (cbs l.flatten)) (fun r H=>r=dgV (atV l d i)/\H=[]):=by
 intro d;induction d with
 | zero=>
  intro i hi
  refine Tri.mt func132 ntmps132 fun w hw=>?_
  have hw2:=hw
  obtain⟨a,cap,rfl,hc,hg⟩:=hw.row hl
  have hr:=lN (lH hl 0 i)
  by_cases h:i<l.length
  ·obtain⟨b,o,lv,T,fz,rfl,hb,hk,hv⟩:=hg i _ (aA h)
   have ha:atV l 0 i=l[i]:=by unfold atV;rw [aE,aA h];rfl
   rw [<-ha] at hv
   refine W.k fun b_=>?_
   exact F.c0 (cbs (atV l 0 i)) ⟨rfl,rfl⟩
  ·have ha:atV l 0 i=z32:=by unfold atV;rw [aE,bF oQ];rfl
   refine W.k fun b_=>?_
   rw [ha]
   exact F.c0 (cbs z32) ⟨rfl,rfl⟩
 | succ d ih=>
  intro i hi
  refine Tri.mt func132 ntmps132 fun w hw=>?_
  have hw2:=hw
  obtain⟨a,cap,rfl,hc,hg⟩:=hw.row hl
  have hr:=lN (lH hl (d+1) i)
  have hx1:=lH hl d (2*i)
  have hx2:=lH hl d (2*i+1)
  rw [fE] at hi
  have hb1:(2*i+1)*2^d<=(i+1)*(2^d*2):=by rw [<-pM,Nat.mul_right_comm];exact dC _ oQ
  have hb2:(2*i+1+1)*2^d<=(i+1)*(2^d*2):=by rw [<-pM,Nat.mul_right_comm];exact dC _ oQ
  have hi3:2*i+1<=(2*i+1)*2^d:=Nat.le_mul_of_pos_right _ (Nat.pow_pos oQ)
  have hd3:d<2^d:=Nat.lt_two_pow_self
  have hd4:2^d<=(2*i+1)*2^d:=Nat.le_mul_of_pos_left _ oQ
  have h1:=ih (2*i) oQ
  have h2:=ih (2*i+1) oQ
  have e1:(((d+1:Nat):Int)-1)=(d:Int):=oQ
  have e2:((2*i:Nat):Int)=2*(i:Int):=oQ
  have e3:((2*i+1:Nat):Int)=2*(i:Int)+1:=oQ
  generalize (i+1)*(2^d*2)=X at hi hb1 hb2
  generalize (2*i+1)*2^d=Y at hb1 hi3 hd4
  generalize (2*i+1+1)*2^d=Z at hb2
  generalize 2^d=D at hd3 hd4
  refine W.k fun b_=>?_
  refine eC h1 ?_ ?_ (hpre:=fun w2 hs=>hw2.ro (Hc:=[]) hs)
  ·rw [e1,e2]
  rintro _ _ ⟨rfl,rfl⟩
  refine W.k ?_
  refine eC h2 ?_ ?_ (hpre:=fun w2 hs=>hw2.ro (Hc:=[]) hs)
  ·rw [e1,e3]
  rintro _ _ ⟨rfl,rfl⟩
  refine W.k ?_
  refine W.cq (aMR (d+1) i _ _ hx1 hx2) ?_
  rw [show oE (d+1) i (atV l d (2*i)) (atV l d (2*i+1))=atV l (d+1) i from rfl]
  refine W.k ?_
  exact F.c0 (cbs (atV l (d+1) i)) ⟨rfl,rfl⟩
theorem aB3(l:LL)(hl:D32 l)(v:Value)(hn:l.length<=1024):Tri prog 54 [v] [] (fun w=>Rd [] w 32 v (cbs l.flatten)) (fun r H=>r=dgV (fN l)/\H=[]):=by refine Tri.mt func54 ntmps54 fun w hw=>?_;have hw2:=hw;obtain⟨a,cap,rfl,hc,hg⟩:=hw.row hl;have hr:=lN (Sha.sum_len (mW l.length (aE2 l)));have hd:dep l.length<=10:=uF (by simpa using hn);have hd2:2^dep l.length<=2^10:=dD oQ hd;have ht:(aE2 l).length=32:=lH hl _ _;refine W.k fun b_=>?_;refine W.cw (aK5 l.length oQ) ?_;refine eC (aQd l hl (.slice a l.length cap) oQ (dep l.length) 0 oQ) rfl ?_ (hpre:=fun w2 hs=>hw2.ro (Hc:=[]) hs);rintro _ _ ⟨rfl,rfl⟩;rw [show atV l (dep l.length) 0=aE2 l from rfl];refine W.k ?_;refine W.cw (aO7 l.length _ ht) ?_;exact F.c0 (cbs (fN l)) ⟨rfl,rfl⟩
structure Rw where
 b:Nat
 cap:Nat
 junk:LV
 r:LL
def Rw.val(w:Rw):Value:=.slice (some ⟨w.b,0,none⟩) w.r.length w.cap
def Rw.hp(w:Rw):Nat×Obj:=(w.b,cl (cbs w.r.flatten++w.junk) 91)
def Rw.Ok(w:Rw):Prop:=D32 w.r/\w.junk.length=(w.cap-w.r.length)*32/\w.r.length<=w.cap
def jI(vs:LV)(L:List LL)(H:Hp):Prop:=∃ ws:List Rw,vs=ws.map Rw.val/\L=ws.map Rw.r/\H=ws.map Rw.hp/\∀ w∈ws,w.Ok
theorem jI.nil:jI [] [] []:=⟨[],rfl,rfl,rfl,by simp⟩
theorem jI.snoc{vs:LV}{L:List LL}{H:Hp}(h:jI vs L H)(w:Rw)(hw:w.Ok):jI (vs++[w.val]) (L++[w.r]) (H++[w.hp]):=by
 obtain⟨ws,rfl,rfl,rfl,h4⟩:=h;refine⟨ws++[w],by simp,by simp,by simp,fun x hx=>?_⟩;rcases bJ.1 hx with h|h
 ·exact h4 x h
 rw [bW] at h;subst h;exact hw
theorem jI.new{vs:LV}{L:List LL}{H:Hp}(h:jI vs L H){b len:Nat}{r:LL}(hr:D32 r)(hl:r.length=len):jI (vs++[.slice (some ⟨b,0,none⟩) len len]) (L++[r]) (H++[(b,cl (cbs r.flatten) 91)]):=by subst hl;have:=h.snoc ⟨b,r.length,[],r⟩ ⟨hr,by simp,Nat.le_refl _⟩;simpa [Rw.val,Rw.hp] using this
theorem jI.len{vs:LV}{L:List LL}{H:Hp}(h:jI vs L H):vs.length=L.length:=by obtain⟨ws,rfl,rfl,rfl,h4⟩:=h;simp
def vD(t b n:Nat)(L:List LL)(H:Hp):Prop:=
 ∃ lv vs Hl Hw,H=(t,cl [.pointer (some ⟨b,0,none⟩),.int .i64 (n:Int),lv] 297)::(Hl++Hw)/\Sl 294 1 lv vs Hl/\jI vs L Hw
def Bk.adds(s:Bk)(ts:LL):Bk:=ts.foldl Bk.add s
theorem Bk.adds_one(s:Bk)(ts:LL)(t:LB):(s.adds ts).add t=s.adds (ts++[t]):=by simp [Bk.adds]
def aKt(l:LL)(D d:Nat)(i:Nat):LL:=(List.range i).map fun i=>wK (d+1) i (atV l d (2*i)) (atV l d (2*i+1))
def txs(l:LL)(D k i:Nat):LL:=((List.range k).flatMap fun d=>aKt l D d (2^(D-(d+1))))++aKt l D k i
theorem aLx(l:LL)(D k i:Nat):txs l D k i++[wK (k+1) i (atV l k (2*i)) (atV l k (2*i+1))]=txs l D k (i+1):=by simp [txs,aKt,bT]
theorem aLw(l:LL)(D k:Nat):txs l D k (2^(D-(k+1)))=txs l D (k+1) 0:=by simp [txs,aKt,bT]
theorem aM8(l:LL)(D:Nat):txs l D D 0=uX l D:=by simp [txs,aKt,uX]
def lD(l:LL)(D k:Nat):List LL:=(List.range k).map (qT l D)
theorem zH(l:LL)(D k:Nat):lD l D k++[qT l D k]=lD l D (k+1):=by simp [lD,bT]
theorem aQq(n:Nat):zs (List.replicate 32 (.int .u8 0)) n=cbs (List.replicate n z32).flatten:=by unfold zs cbs;rw [List.map_flatten,eG,eG];rfl
theorem aNb(n:Nat):D32 (List.replicate n z32):=by intro x hx;rw [List.eq_of_mem_replicate hx];rfl
theorem aQC(l:LL){D:Nat}(h:l.length<=2^D):qT l D 0=l++List.replicate (2^D-l.length) z32:=by
 apply cM;intro i;rcases mP i (2^D) with h1|h1
 ·rw [wQ l (by simpa using h1)];unfold atV;rw [aE];rcases mP i l.length with h2|h2
  ·rw [aJ h2,aA h2];rfl
  rw [aV h2,bF h2,nP,if_pos oQ];rfl
 rw [bF (by rw [wR];simpa using h1),bF (by simp;omega)]
theorem aHj(l:LL)(hl:D32 l){D X:Nat}(hX:X=2^D)(h:l.length<=X):List.take 0 (cbs (List.replicate X z32).flatten)++cbs l.flatten++List.drop (0+(cbs l.flatten).length) (cbs (List.replicate X z32).flatten)=cbs (qT l D 0).flatten:=by subst hX;rw [aQC l h,cU,List.nil_append,fT,aI,dH hl,show List.replicate (2^D) z32=List.replicate l.length z32++List.replicate (2^D-l.length) z32 by rw [gG];congr 1;omega,mX,mX,iW,iW];congr 1;rw [cJ (by rw [aI,dH (aNb _)];simp),gN (by rw [aI,dH (aNb _)];simp),List.nil_append]
def tR(l:LL)(k Y i:Nat):LL:=(List.range i).map (atV l (k+1))++List.replicate (Y-i) z32
theorem aKR{l:LL}(hl:D32 l)(k Y i:Nat):D32 (tR l k Y i):=by
 intro x hx;rcases bJ.1 hx with h|h
 ·obtain⟨j,-,rfl⟩:=bM.1 h;exact lH hl _ _
 exact aNb _ x h
theorem aJa(l:LL)(k:Nat){Y i:Nat}(h:i<=Y):(tR l k Y i).length=Y:=by simp [tR];omega
theorem aJb(l:LL)(k:Nat){Y i:Nat}(h:i<Y):(tR l k Y i).set i (atV l (k+1) i)=tR l k Y (i+1):=by unfold tR;rw [bY _ _ (by simp),aC,dR,dO,show Y-i=(Y-(i+1))+1 by omega,fI,fR,bT];simp
theorem aMF(l:LL)(k Y:Nat):tR l k Y 0=List.replicate Y z32:=by simp [tR]
theorem aI9(l:LL)(D k:Nat):tR l k (2^(D-(k+1))) (2^(D-(k+1)))=qT l D (k+1):=by simp [tR,qT]
structure NS where
 k:Nat
 lv:Value
 vs:LV
 Hl:Hp
 Hw:Hp
 b:Nat
 Hb:Hp
theorem aPZ{b tp:Nat}{s:Bk}{Hb:Hp}(hB:eP b tp s Hb)(v:Value)(l:LL)(hl:D32 l)(h1:1<=l.length)(h2:l.length<=1024):Tri prog 245 [.pointer (some ⟨b,0,none⟩),v] Hb (fun w=>Rd (Hb.map Prod.fst) w 32 v (cbs l.flatten)) (fun r H'=>∃ t Ht Hb',r=.tuple #[.pointer (some ⟨t,0,none⟩),.int .i64 0]/\H'=Ht++Hb'/\vD t b l.length (lD l (dep l.length) (dep l.length+1)) Ht/\eP b tp (s.adds (uX l (dep l.length))) Hb'):=by
 refine Tri.mt func245 ntmps245 fun w hw=>?_;have hw2:=hw;obtain⟨a,cap,rfl,hc,hg⟩:=hw.row hl;have hd:dep l.length<=10:=uF (by simpa using h2);have hle:=yU l.length;have hdp:=aMd l.length oQ;generalize dep l.length=D at hd hle hdp |-;obtain⟨X,hX⟩:∃ X,X=2^D:=⟨_,rfl⟩;have hX2:X<=1024:=by rw [hX];exact dD (n:=2) oQ hd
 rw [<-hX] at hle;have hbf:bV (fun i=>[(0,1),(1,1),(2,1)][i]?) ([.pointer none]++[.int .i64 0]++[.slice none 0 0]) [(0,.pointer (some ⟨b,0,none⟩)),(1,.int .i64 (l.length:Int))]=some [.pointer (some ⟨b,0,none⟩),.int .i64 (l.length:Int),.slice none 0 0]:=rfl;refine W.k fun b_=>?_;refine W.cq hdp ?_;haveI:=aQg (d:=D) oQ hX;have hrow:=aHj l hl hX hle;refine W.j fun b_=>?_;rename_i t;rw [aQq];refine W.cy (mm:=l.length) (ys:=cbs l.flatten) (fun w2 hs=>hw2.srcAt hs) ?_ (hfit:=by rw [aI,aI,dH hl,dH (aNb _),bA];omega);rw [hrow];refine W.j fun b_=>?_;rename_i nb;rw [bs1];refine W.ap (ys:=[.slice (some ⟨nb,0,none⟩) X X]) (mm:=1) (Sl.nil _ _) (fun w2 hs=>(Sl.own 294 1 b_ (xs:=[.slice (some ⟨nb,0,none⟩) X X]) rfl).srcAt hs inferInstance) (fun lv0 Hl0 hv0=>?_) (hys:=rfl) (hbytes:=by simp);have h01:=hv0.isOne;rw [List.nil_append] at hv0;refine W.j ?_;rw [show ([.pointer (some ⟨b,0,none⟩),.int .i64 (l.length:Int),.slice none 0 0]:LV).set 2 lv0=[.pointer (some ⟨b,0,none⟩),.int .i64 (l.length:Int),lv0] from rfl];refine bP [0,6] ((t,cl [.pointer (some ⟨b,0,none⟩),.int .i64 (l.length:Int),lv0] 297)::(Hl0++((nb,cl (cbs (qT l D 0).flatten) 91)::Hb))) (fun x:NS=>[]) (fun x:NS=>(t,cl [.pointer (some ⟨b,0,none⟩),.int .i64 (l.length:Int),x.lv] 297)::(x.Hl++(x.Hw++x.Hb)))
  (fun x=>Sl 294 1 x.lv x.vs x.Hl/\jI x.vs (lD l D (D+1)) x.Hw/\eP b tp (s.adds (uX l D)) x.Hb) ?_ ?_
 rotate_left
 ·rintro⟨k,lv,vs,Hl,Hw,nb2,Hb2⟩ ⟨hlv,hrw,hB2⟩;dsimp only at hlv hrw hB2 |-;refine W.k ?_;refine Fin.to (((t,cl [.pointer (some ⟨b,0,none⟩),.int .i64 (l.length:Int),lv] 297)::(Hl++Hw))++Hb2) ?_;refine F.f2 ?_;exact⟨t,_,Hb2,rfl,rfl,⟨lv,vs,Hl,Hw,rfl,hlv,hrw⟩,hB2⟩
 subst hX;refine W.k ?_;refine bE [0,6] (fun x:NS=>[(7,.slice (some ⟨x.b,0,none⟩) (2^(D-x.k)) (2^(D-x.k)))]) (fun x=>(t,cl [.pointer (some ⟨b,0,none⟩),.int .i64 (l.length:Int),x.lv] 297)::(x.Hl++(x.Hw++(x.b,cl (cbs (qT l D x.k).flatten) 91)::x.Hb))) (fun x=>D-x.k)
  (fun x=>x.k<=D/\Sl 294 1 x.lv (x.vs++[.slice (some ⟨x.b,0,none⟩) (2^(D-x.k)) (2^(D-x.k))]) x.Hl/\jI x.vs (lD l D x.k) x.Hw/\eP b tp (s.adds (txs l D x.k 0)) x.Hb) ⟨0,lv0,[],Hl0,[],nb,Hb⟩ ⟨Nat.zero_le _,hv0,jI.nil,hB⟩ ?_
 rintro⟨k,lv,vs,Hl,Hw,nb2,Hb2⟩ ⟨hk,hlv,hrw,hB2⟩;dsimp only at hk hlv hrw hB2 |-;have hv1:=hlv.isOne;have hrl:=hrw.len;have hrl2:vs.length=k:=by rw [hrl];simp [lD]
 by_cases hkD:k<D
 ·have hXY:2^(D-k)=2^(D-(k+1))*2:=by rw [show D-k=D-(k+1)+1 by omega,fE]
  have hXm:2^(D-k)<=1024:=dD (n:=2) oQ (show D-k<=10 by omega);have hYp:0<2^(D-(k+1)):=Nat.pow_pos oQ;have hget:∀ i,i<2^(D-k)->(qT l D k)[i]?=some (atV l k i):=fun i h=>wQ l h;have hnx:=zH l D k;have hpa:=aI9 l D k;have hst:=fun i=>aLx l D k i;have hnt:=aLw l D k;have hr32:=aEV hl D k;have hrwn:=hrw.new (b:=nb2) hr32 (wR l D k);rw [hnx] at hrwn;generalize 2^(D-k)=X at *;generalize hYe:2^(D-(k+1))=Y at hXY hYp hpa hnt;have hlv2:=hlv;obtain⟨la,ll,lc,rfl,hll⟩:=hlv2.form;obtain rfl:ll=k+1:=by simp at hll;omega
  haveI i1:eB ((X:Int)/2) Y:=⟨oQ⟩;refine W.j ?_;refine SW.block ?_;refine W.j fun b_=>?_;rename_i b0;rw [aQq,<-aMF l k Y];refine bP [0,6,7,8] ((b_,cl (cbs (tR l k Y 0).flatten) 91)::Hb2) (fun x:Hp=>[]) (fun x:Hp=>(b_,cl (cbs (qT l D (k+1)).flatten) 91)::x) (fun x=>eP b tp (s.adds (txs l D (k+1) 0)) x) ?_ ?_
  ·refine W.k ?_;refine bE [0,6,7,8,53] (fun x:Nat×Hp=>[(54,.int .i64 (x.1:Int))]) (fun x=>(b_,cl (cbs (tR l k Y x.1).flatten) 91)::x.2) (fun x=>Y-x.1) (fun x=>x.1<=Y/\eP b tp (s.adds (txs l D k x.1)) x.2) (0,Hb2) ⟨Nat.zero_le _,hB2⟩ ?_;rintro⟨i,Hb3⟩ ⟨hi,hB3⟩;dsimp only at hi hB3 |-;by_cases hiY:i<Y
   ·have hx1:=lH hl k (2*i);have hx2:=lH hl k (2*i+1);have hg1:=aBQ hr32 (hget (2*i) oQ);have hg2:=aBQ hr32 (hget (2*i+1) oQ);have hc1:=lN hx1;have hc2:=lN hx2;have hbp:bV (fun i=>[(0,1),(1,1)][i]?) ([.int .i64 0]++[.int .i64 0]) [(0,.int .i64 ((k+1:Nat):Int)),(1,.int .i64 (i:Int))]=some [.int .i64 ((k+1:Nat):Int),.int .i64 (i:Int)]:=rfl;have hp32:=aKR hl k Y i;have hpl:=aJa l k hi;have hfit:i*32+32<=(cbs (tR l k Y i).flatten).length:=by rw [aI,dH hp32,hpl];omega
    have hset:=aHH (x:=atV l (k+1) i) hp32 (i:=i) oQ;rw [aJb l k hiY] at hset;have hr:=lN (lH hl (k+1) i);refine W.k ?_;(refine SW.l [21,23] [0,1,2,3,4,5,6,7,8,9,10,11,12,13,14,15,16,17,18,19,20] ?_;refine bL 21 ?_);refine aF (aKA hB3 (k+1) i _ _ hx1 hx2) ?_;rintro _ Hb4 ⟨rfl,hB4⟩;rw [Bk.adds_one,hst] at hB4;rw [show oE (k+1) i (atV l k (2*i)) (atV l k (2*i+1))=atV l (k+1) i from rfl];(refine SL.l [22] ?_;refine bL 23 ?_;refine W.i ?_;refine SS.dn ?_);rw [hset];refine W.k ?_;refine aN.mk (i+1,Hb4) ?_;exact⟨oQ,hB4⟩
   have hi2:i=Y:=oQ;subst hi2;rw [hpa];rw [hnt] at hB3;refine W.k ?_;refine bS.mk Hb3 ?_;exact hB3
  intro Hb3 hB3;refine W.k fun b_=>?_;rename_i b1;rw [bs1];refine W.ap (ys:=[.slice (some ⟨b1,0,none⟩) Y Y]) (mm:=1) hlv (fun w2 hs=>(Sl.own 294 1 b_ (xs:=[.slice (some ⟨b1,0,none⟩) Y Y]) rfl).srcAt hs inferInstance) (fun lv2 Hl2 hv2=>?_) (hys:=rfl) (hbytes:=by simp;omega);have h21:=hv2.isOne;refine W.k ?_;rw [show ([.pointer (some ⟨b,0,none⟩),.int .i64 (l.length:Int),.slice la (k+1) lc]:LV).set 2 lv2=[.pointer (some ⟨b,0,none⟩),.int .i64 (l.length:Int),lv2] from rfl];subst hYe;refine aN.mk ⟨k+1,lv2,vs++[.slice (some ⟨nb2,0,none⟩) X X],Hl2,Hw++[(nb2,cl (cbs (qT l D k).flatten) 91)],b1,Hb3⟩ ?_;exact⟨hkD,hv2,hrwn,hB3⟩
 have hk2:k=D:=oQ;subst hk2;have e1:2^(k-k)=1:=by rw [dO]
 have hrwn:=hrw.new (b:=nb2) (aEV hl k k) (wR l k k);rw [zH] at hrwn;rw [aM8] at hB2;rw [e1] at hlv hrwn |-;obtain⟨la,ll,lc,rfl,hll⟩:=hlv.form;refine W.k ?_;refine bS.mk ⟨k,.slice la ll lc,vs++[.slice (some ⟨nb2,0,none⟩) 1 1],Hl,Hw++[(nb2,cl (cbs (qT l k k).flatten) 91)],nb2,Hb2⟩ ?_;exact⟨hlv,hrwn,hB2⟩
abbrev rJ(t b:Nat)(l:LL)(H:Hp):Prop:=vD t b l.length (lD l (dep l.length) (dep l.length+1)) H
theorem aBp(l:LL){D k d:Nat}(h:d<k):(lD l D k)[d]?=some (qT l D d):=by simp [lD,h]
theorem jI.get{vs:LV}{L:List LL}{H:Hp}(h:jI vs L H){d:Nat}{r:LL}(hd:L[d]?=some r):∃ (rb cap:Nat) (junk:LV),vs[d]?=some (.slice (some ⟨rb,0,none⟩) r.length cap)/\At H rb (cl (cbs r.flatten++junk) 91)/\D32 r/\r.length<=cap:=by obtain⟨ws,rfl,rfl,rfl,h4⟩:=h;rw [aL] at hd;obtain⟨w,hw,rfl⟩:=Option.map_eq_some_iff.1 hd;have hm:=aP hw;exact⟨w.b,w.cap,w.junk,by rw [aL,hw];rfl,⟨bM.2 ⟨w,hm,rfl⟩⟩,(h4 w hm).1,(h4 w hm).2.2⟩
theorem vD.open{t b n:Nat}{L:List LL}{H:Hp}(h:vD t b n L H)(hL:0<L.length):∃ (lb lc:Nat) (vs lj:LV) (Hw:Hp),H=(t,cl [.pointer (some ⟨b,0,none⟩),.int .i64 (n:Int),.slice (some ⟨lb,0,none⟩) L.length lc] 297)::([(lb,cl (vs++lj) 294)]++Hw)/\jI vs L Hw/\vs.length=L.length/\L.length<=lc:=by
 obtain⟨lv,vs,Hl,Hw,rfl,hlv,hrw⟩:=h;have hv:=hrw.len;rcases hlv with ⟨rfl,rfl,rfl⟩|⟨lb,len,cap,junk,rfl,hx,hj,hlc,rfl⟩
 ·simp at hv;omega
 obtain rfl:len=L.length:=by omega
 exact⟨lb,cap,vs,junk,Hw,rfl,hrw,hv,hlc⟩
theorem xA{vs lj:LV}{d:Nat}{v:Value}(h:vs[d]?=some v):(vs++lj)[d]?=some v:=by rw [aJ (aD.1 h).1];exact h
theorem nD{L:LL}{junk:LV}{x:LB}{n:Nat}(h:∀ x∈L,x.length=n){i:Nat}(hi:L[i]?=some x):((cbs L.flatten++junk).drop (i*n)).take n=cbs x:=by
 have hlt:=(aD.1 hi).1;have hl:(cbs L.flatten).length=L.length*n:=by rw [aI,dH h]
 have h2:(i+1)*n<=L.length*n:=dC n hlt;rw [gD] at h2;rw [cJ oQ,bU (by rw [bG];omega)];exact aBQ h hi
theorem aPr{t b n:Nat}{L:List LL}{H:Hp}(hT:vD t b n L H):Tri prog 150 [.pointer (some ⟨t,0,none⟩)] H NT (fun v H'=>v=.int .i64 (n:Int)/\H'=H):=by obtain⟨lv,vs,Hl,Hw,rfl,hlv,hrw⟩:=hT;have h1:=hlv.isOne;refine Tri.mt func150 ntmps150 fun w hw=>?_;refine W.k ?_;refine Fin.to ((t,cl [.pointer (some ⟨b,0,none⟩),.int .i64 (n:Int),lv] 297)::(Hl++Hw)) ?_;exact F.f1 ⟨rfl,rfl⟩
theorem aLK{t b tp n D:Nat}{s:Bk}{L:List LL}{r:LL}{x:LB}{Ht Hb:Hp}(hT:vD t b n L Ht)(hB:eP b tp s Hb)(hL:L.length=D+1)(hr:L[D]?=some r)(hx:r[0]?=some x)(hm:D<=1099511627776):Tri prog 130 [.pointer (some ⟨t,0,none⟩)] (Ht++Hb) NT (fun v H'=>∃ Hb',v=dgV (Sha.sum (mW n x))/\H'=Ht++Hb'/\eP b tp (s.add (mW n x)) Hb'):=by obtain⟨lb,lc,vs,lj,Hw,rfl,hrw,hvl,hlc⟩:=hT.open oQ;obtain⟨rb,rc,rj,hv,hat,hr32,hrc⟩:=hrw.get hr;have hrl:=(aD.1 hx).1;have hv2:=xA (lj:=lj) hv;have hg:=nD (junk:=rj) hr32 hx;rw [jM] at hg;have hx32:=hr32 x (aP hx);have hc:=lN hx32;rw [hL] at hlc hvl |-;refine Tri.mt func130 ntmps130 fun w hw=>?_;haveI i1:eB (((D+1:Nat):Int)-1) D:=⟨oQ⟩;have hrr:=lN (Sha.sum_len (mW n x));refine W.k fun b_=>?_;(refine SW.l [22,23] [0,1,2,3,4,5,6,7,8,9,10,11,12,13,14,15,16,17,18,19,20,21] ?_;refine bL 22 ?_);refine aF (aO4 hB n x hx32) ?_;rintro _ Hb' ⟨rfl,hB'⟩;(refine bB [] ?_;refine bL 23 ?_;refine W.i ?_;refine SS.dn ?_);refine W.k ?_;refine F.cH (((t,cl [.pointer (some ⟨b,0,none⟩),.int .i64 (n:Int),.slice (some ⟨lb,0,none⟩) (D+1) lc] 297)::([(lb,cl (vs++lj) 294)]++Hw))++Hb') (cbs (Sha.sum (mW n x))) ?_;exact⟨Hb',rfl,rfl,hB'⟩
theorem aD8{t b tp:Nat}{s:Bk}{l:LL}{Ht Hb:Hp}(hT:rJ t b l Ht)(hB:eP b tp s Hb)(h2:l.length<=1024) :
  Tri prog 130 [.pointer (some ⟨t,0,none⟩)] (Ht++Hb) NT (fun v H'=>∃ Hb',v=dgV (fN l)/\H'=Ht++Hb'/\eP b tp (s.add (mW l.length (aE2 l))) Hb'):=
 aLK (r:=qT l (dep l.length) (dep l.length)) hT hB (by simp [lD]) (aBp l oQ) (wQ l (Nat.pow_pos oQ)) (by have:=uF (n:=l.length) (k:=10) (by simpa using h2);omega)
theorem aNo{t b n:Nat}{L:List LL}{H:Hp}(hT:vD t b n L H)(k:Int):Tri prog 185 [.pointer (some ⟨t,0,none⟩),.int .i64 k] H NT (fun v H'=>v=.bool (decide (0<=k/\k<n))/\H'=H):=by
 obtain⟨lv,vs,Hl,Hw,rfl,hlv,hrw⟩:=hT;have h1:=hlv.isOne;refine Tri.mt func185 ntmps185 fun w hw=>?_;by_cases h2:0<=k
 ·by_cases h3:k<n
  ·rw [decide_eq_true ⟨h2,h3⟩];refine W.k ?_;refine Fin.to ((t,cl [.pointer (some ⟨b,0,none⟩),.int .i64 (n:Int),lv] 297)::(Hl++Hw)) ?_;exact F.f1 ⟨rfl,rfl⟩
  rw [decide_eq_false (fun h=>h3 h.2)];refine W.k ?_;refine Fin.to ((t,cl [.pointer (some ⟨b,0,none⟩),.int .i64 (n:Int),lv] 297)::(Hl++Hw)) ?_;exact F.f1 ⟨rfl,rfl⟩
 rw [decide_eq_false (fun h=>h2 h.1)];refine W.k ?_;refine Fin.to ((t,cl [.pointer (some ⟨b,0,none⟩),.int .i64 (n:Int),lv] 297)::(Hl++Hw)) ?_;exact F.f1 ⟨rfl,rfl⟩
def mK(l:LL)(k:Int):LB:=if 0<=k/\k<l.length then l.getD k.toNat z32 else z32
theorem aNc{t b:Nat}{l:LL}{H:Hp}(hT:rJ t b l H)(k:Int)(h2:l.length<=1024):Tri prog 110 [.pointer (some ⟨t,0,none⟩),.int .i64 k] H NT (fun v H'=>v=dgV (mK l k)/\H'=H):=by
 have hT2:=hT;have hle:=yU l.length;obtain⟨lb,lc,vs,lj,Hw,rfl,hrw,hvl,hlc⟩:=hT.open (by simp [lD]);have hH:=aNo hT2 k;obtain⟨rb,rc,rj,hv,hat,hr32,hrc⟩:=hrw.get (aBp l (D:=dep l.length) (k:=dep l.length+1) (d:=0) oQ);rw [wR,iU] at hv hrc;have hv2:=xA (lj:=lj) hv;have hLl:(lD l (dep l.length) (dep l.length+1)).length=dep l.length+1:=by simp [lD]
 rw [hLl] at hlc hH |-;refine Tri.mt func110 ntmps110 fun w hw=>?_;refine W.k fun b_=>?_;refine W.cq hH ?_;by_cases hk:0<=k/\k<(l.length:Int)
 ·obtain⟨j,rfl⟩:∃ j:Nat,k=(j:Int):=⟨k.toNat,oQ⟩;have hj:j<l.length:=oQ;have hx:mK l (j:Int)=atV l 0 j:=by unfold mK;rw [if_pos hk,aS];rfl
  have hg:=nD (junk:=rj) hr32 (wQ l (D:=dep l.length) (d:=0) (i:=j) (by rw [iU];omega));have hc:=lN (hr32 _ (aP (wQ l (D:=dep l.length) (d:=0) (i:=j) (by rw [iU];omega))));rw [decide_eq_true hk,hx];generalize 2^dep l.length=X at *;refine W.k ?_;refine F.cH ((t,cl [.pointer (some ⟨b,0,none⟩),.int .i64 (l.length:Int),.slice (some ⟨lb,0,none⟩) (dep l.length+1) lc] 297)::([(lb,cl (vs++lj) 294)]++Hw)) (cbs (atV l 0 j)) ?_;exact⟨rfl,rfl⟩
 have hx:mK l k=z32:=by unfold mK;rw [if_neg hk]
 rw [decide_eq_false hk,hx];refine W.k ?_;refine F.cH ((t,cl [.pointer (some ⟨b,0,none⟩),.int .i64 (l.length:Int),.slice (some ⟨lb,0,none⟩) (dep l.length+1) lc] 297)::([(lb,cl (vs++lj) 294)]++Hw)) (cbs z32) ?_;exact⟨rfl,rfl⟩
theorem b1d{x:LB}(h:x.length=32):bV (fun i=>some (i*32,32)) (zs (List.replicate 32 (.int .u8 0)) 1) [(0,dgV x)]=some (cbs x):=by
 have h1:(vl (dgV x)).length=32:=lN h;have h2:(zs (List.replicate 32 (.int .u8 0)) 1).length=32:=by rw [aBx,bA]
 unfold bV;dsimp only;rw [if_pos ⟨h1,oQ⟩];unfold bV;rw [jM,cU,List.nil_append,fT,gN oQ,aG];rfl
theorem pT{P:Program}{C:Ctx}{A:Fr}{H:Hp}{fn:Func}{R:Value->Hp->Prop}{e:Exit}{t ty n b u:Nat}{l:LV}{v2:Value}{T:TypeId}(Hc:Hp){s:Hp}(l2:LV) [hp:eY H Hc s](hR:R (.tuple #[.agg l2.toArray,v2]) Hc)(he:e=.ret\/e=.normal:=by first|exact .inl rfl|exact .inr rfl)(hrs:fn.results=#[.cell t ty,.tmp u]:=by exact rfl)(ht:lk A t=some (.pointer (some ⟨b,0,none⟩)):=by exact rfl)(hu:lk A u=some v2:=by exact rfl)(hat:At H b (cl l T):=by infer_instance)(hl:l=l2:=by first|assumption|exact rfl)(iR:fB P ty n:=by infer_instance)(hn:l2.length=n:=by first|assumption|exact rfl):Fin P C fn R e A H:=by subst hl;exact Fin.c1t1 he hrs ht hu hn Hc hR
theorem aNA(d i:Nat)(hd:d<=1099511627776)(hi:i<=1099511627776):Tri prog 231 [aCR d i] [] NT (fun v H=>v=aCR (d+1) (i/2)/\H=[]):=by refine Tri.mt func231 ntmps231 fun w hw=>?_;have hbp:bV (fun i=>[(0,1),(1,1)][i]?) ([.int .i64 0]++[.int .i64 0]) [(0,.int .i64 ((d:Int)+1)),(1,.int .i64 ((i:Int)/2))]=some [.int .i64 ((d+1:Nat):Int),.int .i64 ((i/2:Nat):Int)]:=rfl;(refine W.k ?_;repeat intro b_);exact F.c0 [.int .i64 ((d+1:Nat):Int),.int .i64 ((i/2:Nat):Int)] ⟨rfl,rfl⟩
theorem xG{l:LL}(hl:D32 l)(k:Int):(mK l k).length=32:=by
 unfold mK;split
 ·exact lH hl 0 k.toNat
 rfl
namespace Aes
def rotW(w:LB):LB:=w.drop 1++w.take 1
def xorH(w:LB)(p:UInt8):LB:=w.set 0 (w.getD 0 0 ^^^ p)
def nextW(w:LB)(i n:Nat):LB:=
 if i%n=0 then xorH (subW (rotW w)) (Gf.pow 2 (i/n-1)) else if 6<n/\i%n=4 then subW w else w
theorem nextW_len{w:LB}(h:w.length=4)(i n:Nat):(nextW w i n).length=4:=by
 unfold nextW xorH rotW;split
 ·rw [cE,subW_len];simp;omega
 split
 ·rw [subW_len];exact h
 exact h
end Aes
theorem four{w:LB}(h:w.length=4):∃ a b c d,w=[a,b,c,d]:=by
 match w,h with
 | [a,b,c,d],_=>exact⟨a,b,c,d,rfl⟩
abbrev W4(ws:LL):Prop:=∀ x∈ws,x.length=4
theorem aLX{c b bw len cap:Nat}{r:Value}{junk:LV}(ws:LL)(hws:W4 ws)(hl:ws.length=len)(hc:len<=cap)(w0:LB)(i n:Nat)(hn:4<=n)(hn8:n<=8)(hi:n<=i)(hi6:i<=1000)(hw0:ws[i-1]?=some w0):Tri prog 84 [.pointer (some ⟨c,0,none⟩),.int .i64 (i:Int),.int .i64 (n:Int)] [(bw,cl (cbs ws.flatten++junk) 193),(c,pY b (.slice (some ⟨bw,0,none⟩) len cap) r),(b,gK)] NT (fun v H=>v=.agg (cbs (Aes.nextW w0 i n)).toArray/\H=[(bw,cl (cbs ws.flatten++junk) 193),(c,pY b (.slice (some ⟨bw,0,none⟩) len cap) r),(b,gK)]):=by
 refine Tri.mt func84 ntmps84 fun w hw=>?_;have hx4:=hws w0 (aP hw0);have hil:i-1<ws.length:=(aD.1 hw0).1;have hg:=nD (junk:=junk) hws hw0;haveI:eB ((i:Int)-1) (i-1):=⟨oQ⟩;obtain⟨a0,a1,a2,a3,rfl⟩:=four hx4;have hL:=Aes.nextW_len hx4 i n;have hL2:(cbs (Aes.nextW [a0,a1,a2,a3] i n)).length=4:=by unfold cbs;rw [aC,hL]
 generalize hF:(cbs ws.flatten++junk)=Fc at *;refine W.j fun _ b_=>?_;rename_i b6;have hR:∀ k,k=i/n-1->(i:Int)/(n:Int)-1=(k:Int):=fun k hk=>by
  have h1:1<=i/n:=Nat.div_pos hi oQ;have h2:(i:Int)/(n:Int)=((i/n:Nat):Int):=by simp
  omega
 have hM:(i:Int)%(n:Int)=((i%n:Nat):Int):=by simp
 refine bP [6,7] [(b_,cl (cbs [a0,a1,a2,a3]) 193),(b6,cl [.int .u8 0,.int .u8 0,.int .u8 0,.int .u8 0] 193),(bw,cl Fc 193),(c,pY b (.slice (some ⟨bw,0,none⟩) len cap) r),(b,gK)] (fun _:Unit=>[])
  (fun _=>[(b_,cl (cbs (Aes.nextW [a0,a1,a2,a3] i n)) 193),(b6,cl [.int .u8 0,.int .u8 0,.int .u8 0,.int .u8 0] 193),(bw,cl Fc 193),(c,pY b (.slice (some ⟨bw,0,none⟩) len cap) r),(b,gK)]) NT ?_ ?_
 ·have hs:=aN1 (c:=c) (b:=b) (ws:=.slice (some ⟨bw,0,none⟩) len cap) (r:=r);by_cases h0:i%n=0
  ·rw [h0] at hM;have e:Aes.nextW [a0,a1,a2,a3] i n=[Aes.S a1 ^^^ Gf.pow 2 (i/n-1),Aes.S a2,Aes.S a3,Aes.S a0]:=by unfold Aes.nextW;rw [if_pos h0];rfl
   have hc0:cbs [a0,a1,a2,a3]=[u8v a0,u8v a1,u8v a2,u8v a3]:=rfl;have hl4:(cbs (Aes.subW [a1,a2,a3,a0])).length=4:=rfl;rw [e,hc0];refine W.k ?_;refine W.cw (hs [a1,a2,a3,a0] rfl) ?_;have hw:IntKind.i64.wrap ((i:Int)/(n:Int)-1)=((i/n-1:Nat):Int):=by have h2:i/n<=1000:=cZ (kF ..) hi6;rw [hR _ rfl];exact w64 oQ
   have h2:i/n-1<=1000000:=by have h2:i/n<=1000:=cZ (kF ..) hi6;omega
   (refine SW.l [9] [0,1,2,3] ?_;refine dS 4 rfl (aHf rfl rfl rfl oQ oQ oQ) ?_;refine dS 5 rfl (aDL rfl rfl rfl hw) ?_;refine aX 6 ?_);refine W.cq (aH6 2 (i/n-1) h2) ?_;(refine SL.l [7,8] ?_;refine bL 9 ?_;refine W.i ?_;refine SS.dn ?_);have hfin:(cbs (Aes.subW [a1,a2,a3,a0])).set 0 (.int .u8 ((Aes.S a1 ^^^ Gf.pow 2 (i/n-1)).toNat:Int))=cbs [Aes.S a1 ^^^ Gf.pow 2 (i/n-1),Aes.S a2,Aes.S a3,Aes.S a0]:=rfl;rw [hfin];refine W.k ?_;refine bS.mk () ?_;trivial
  have h0':¬ (i:Int)%(n:Int)=0:=oQ;by_cases h6:6<n
  ·by_cases h4:i%n=4
   ·have h4':(i:Int)%(n:Int)=4:=oQ;have e:Aes.nextW [a0,a1,a2,a3] i n=Aes.subW [a0,a1,a2,a3]:=by unfold Aes.nextW;rw [if_neg h0,if_pos ⟨h6,h4⟩]
    have hl4:(cbs (Aes.subW [a0,a1,a2,a3])).length=4:=rfl;rw [e];refine W.k ?_;refine W.cw (hs [a0,a1,a2,a3] rfl) ?_;refine bS.mk () ?_;trivial
   have h4':¬ (i:Int)%(n:Int)=4:=oQ;have e:Aes.nextW [a0,a1,a2,a3] i n=[a0,a1,a2,a3]:=by unfold Aes.nextW;rw [if_neg h0,if_neg (fun h=>h4 h.2)]
   rw [e];refine W.k ?_;refine bS.mk () ?_;trivial
  have e:Aes.nextW [a0,a1,a2,a3] i n=[a0,a1,a2,a3]:=by unfold Aes.nextW;rw [if_neg h0,if_neg (fun h=>h6 h.1)]
  rw [e];refine W.k ?_;refine bS.mk () ?_;trivial
 rintro _ -;refine W.k ?_;exact F.cH [(bw,cl Fc 193),(c,pY b (.slice (some ⟨bw,0,none⟩) len cap) r),(b,gK)] _ ⟨rfl,rfl⟩
theorem Rd.lastAt{w:World}{a:Option Addr}{len cap:Nat}{bs:LB}(h:Rd [] w 1 (.slice a len cap) (cbs bs))(hl:0<len):∃ (b o:Nat) (l:LV) (T:TypeId) (fz:Nat×Nat) (c:UInt8),a=some ⟨b,o,none⟩/\w.heap[b]?=some (.cells l.toArray T fz)/\b∉([]:List Nat)/\l[o+(len-1)]?=some (.int .u8 (c.toNat:Int)):=by
 obtain⟨a',len',cap',he,hyl,hc,hr⟩:=h.get;cases he;rw [aI,Nat.mul_one] at hyl;obtain⟨b,o,l,T,fz,ha,hb,hk,hys⟩:=hr hl;obtain⟨c,hc1⟩:∃ c,bs[len-1]?=some c:=⟨_,aA oQ⟩;refine⟨b,o,l,T,fz,c,ha,hb,hk,?_⟩;have:((l.drop o).take (len*1))[len-1]?=(cbs bs)[len-1]?:=by rw [hys]
 rw [bD,if_pos oQ,bH] at this;rw [this];unfold cbs;rw [aL,hc1];rfl
theorem aJF(v:Value)(bs:LB):Tri prog 68 [v] [] (fun w=>Rd [] w 1 v (cbs bs)) (fun v H=>∃ ys:LB,ys.length=256/\Sl 5 1 v (cbs ys) H):=by
 refine Tri.mt func68 ntmps68 fun w hw=>?_;obtain⟨a,len,cap,rfl,hl,hc,-⟩:=hw.get;rw [aI,Nat.mul_one] at hl;by_cases hb:256<len
 ·have hR:=Rd.pre 256 hw;rw [show min 256 len=256 by omega] at hR;obtain⟨b0,o0,l0,T0,fz0,c,rfl,hbq,hbk,hcell⟩:=hR.lastAt oQ;refine W.j fun b_=>?_;have h0:Sl 5 1 (.slice (some ⟨b_,0,none⟩) 0 0) [] [(b_,cl ([]:LV) 5)]:=Sl.mk (xs:=[]) (junk:=[]) (len:=0) (cap:=0) rfl rfl (Nat.le_refl _);have hml:(bs.take 256).length=256:=by first|exact hl|(rw [aH];omega)
  refine W.ap h0 (fun w2 hs=>hR.srcAt hs) (fun v1 H1 h1=>?_) (hys:=by rw [aI,Nat.mul_one];exact hml) (hbytes:=by rw [aI,hml];simp <;> omega);have h11:=h1.isOne;rw [List.nil_append] at h1;refine W.j ?_;refine bP [] H1 (fun x:Value×Hp×LB=>[(3,x.1)]) (fun x=>x.2.1) (fun x=>x.2.2.length=256/\Sl 5 1 x.1 (cbs x.2.2) x.2.1) ?_ ?_
  ·refine W.k ?_;refine bE [0] (fun x:LB×Value×Hp=>[(3,x.2.1)]) (fun x=>x.2.2) (fun x=>256-x.1.length) (fun x=>x.1.length<=256/\Sl 5 1 x.2.1 (cbs x.1) x.2.2) (bs.take 256,v1,H1) ⟨by rw [hml];omega,h1⟩ ?_;rintro⟨ys,v2,H2⟩ ⟨hy,h2⟩;dsimp only at hy h2 |-;have h21:=h2.isOne;obtain⟨a2,l2,c2,rfl,hl2⟩:=h2.form;rw [aI,Nat.mul_one] at hl2;by_cases hlt:ys.length<256
   ·have hbf:bV (fun i=>some (i*1,1)) (zs [.int .u8 0] 1) [(0,.int .u8 (c.toNat:Int))]=some (cbs [c]):=rfl;have hN:eB (((256:Nat):Int)-1) (256-1):=⟨oQ⟩;refine W.k fun b_=>?_;refine W.ap (ys:=cbs [c]) (mm:=1) h2 (fun w2 hs=>(Sl.own 5 1 b_ (xs:=cbs [c]) rfl).srcAt hs inferInstance) (fun v3 H3 h3=>?_) (hys:=rfl) (hbytes:=by rw [aI,aI];simp <;> omega);have h31:=h3.isOne;rw [<-iW] at h3;refine W.k ?_;have hyl:(ys++[c]).length=ys.length+1:=by rw [aB,cN]
    refine aN.mk (ys++[c],v3,H3) ?_;exact⟨by dsimp only;omega,h3⟩
   refine W.k ?_;refine bS.mk (.slice a2 l2 c2,H2,ys) ?_;exact⟨by dsimp only;omega,h2⟩
  rintro⟨v2,H2,ys⟩ ⟨hy,h2⟩;dsimp only at hy h2 |-;have h21:=h2.isOne;refine W.k ?_;refine Fin.to H2 ?_;exact F.f1 ⟨ys,hy,h2⟩
 by_cases hm0:0<len
 ·have hR:=hw;obtain⟨b0,o0,l0,T0,fz0,c,rfl,hbq,hbk,hcell⟩:=hR.lastAt oQ;refine W.j fun b_=>?_;have h0:Sl 5 1 (.slice (some ⟨b_,0,none⟩) 0 0) [] [(b_,cl ([]:LV) 5)]:=Sl.mk (xs:=[]) (junk:=[]) (len:=0) (cap:=0) rfl rfl (Nat.le_refl _);have hml:(bs).length=len:=by first|exact hl|(rw [aH];omega)
  refine W.ap h0 (fun w2 hs=>hR.srcAt hs) (fun v1 H1 h1=>?_) (hys:=by rw [aI,Nat.mul_one];exact hml) (hbytes:=by rw [aI,hml];simp <;> omega);have h11:=h1.isOne;rw [List.nil_append] at h1;refine W.j ?_;refine bP [] H1 (fun x:Value×Hp×LB=>[(3,x.1)]) (fun x=>x.2.1) (fun x=>x.2.2.length=256/\Sl 5 1 x.1 (cbs x.2.2) x.2.1) ?_ ?_
  ·refine W.k ?_;refine bE [0] (fun x:LB×Value×Hp=>[(3,x.2.1)]) (fun x=>x.2.2) (fun x=>256-x.1.length) (fun x=>x.1.length<=256/\Sl 5 1 x.2.1 (cbs x.1) x.2.2) (bs,v1,H1) ⟨by rw [hml];omega,h1⟩ ?_;rintro⟨ys,v2,H2⟩ ⟨hy,h2⟩;dsimp only at hy h2 |-;have h21:=h2.isOne;obtain⟨a2,l2,c2,rfl,hl2⟩:=h2.form;rw [aI,Nat.mul_one] at hl2;by_cases hlt:ys.length<256
   ·have hbf:bV (fun i=>some (i*1,1)) (zs [.int .u8 0] 1) [(0,.int .u8 (c.toNat:Int))]=some (cbs [c]):=rfl;have hN:eB (((len:Nat):Int)-1) (len-1):=⟨oQ⟩;refine W.k fun b_=>?_;refine W.ap (ys:=cbs [c]) (mm:=1) h2 (fun w2 hs=>(Sl.own 5 1 b_ (xs:=cbs [c]) rfl).srcAt hs inferInstance) (fun v3 H3 h3=>?_) (hys:=rfl) (hbytes:=by rw [aI,aI];simp <;> omega);have h31:=h3.isOne;rw [<-iW] at h3;refine W.k ?_;have hyl:(ys++[c]).length=ys.length+1:=by rw [aB,cN]
    refine aN.mk (ys++[c],v3,H3) ?_;exact⟨by dsimp only;omega,h3⟩
   refine W.k ?_;refine bS.mk (.slice a2 l2 c2,H2,ys) ?_;exact⟨by dsimp only;omega,h2⟩
  rintro⟨v2,H2,ys⟩ ⟨hy,h2⟩;dsimp only at hy h2 |-;have h21:=h2.isOne;refine W.k ?_;refine Fin.to H2 ?_;exact F.f1 ⟨ys,hy,h2⟩
 have hR:=hw;refine W.j fun b_=>?_;have h0:Sl 5 1 (.slice (some ⟨b_,0,none⟩) 0 0) [] [(b_,cl ([]:LV) 5)]:=Sl.mk (xs:=[]) (junk:=[]) (len:=0) (cap:=0) rfl rfl (Nat.le_refl _);have hml:(bs).length=len:=by first|exact hl|(rw [aH];omega)
 refine W.ap h0 (fun w2 hs=>hR.srcAt hs) (fun v1 H1 h1=>?_) (hys:=by rw [aI,Nat.mul_one];exact hml) (hbytes:=by rw [aI,hml];simp <;> omega);have h11:=h1.isOne;rw [List.nil_append] at h1;refine W.j ?_;refine bP [] H1 (fun x:Value×Hp×LB=>[(3,x.1)]) (fun x=>x.2.1) (fun x=>x.2.2.length=256/\Sl 5 1 x.1 (cbs x.2.2) x.2.1) ?_ ?_
 ·refine W.k ?_;refine bE [0] (fun x:LB×Value×Hp=>[(3,x.2.1)]) (fun x=>x.2.2) (fun x=>256-x.1.length) (fun x=>x.1.length<=256/\Sl 5 1 x.2.1 (cbs x.1) x.2.2) (bs,v1,H1) ⟨by rw [hml];omega,h1⟩ ?_;rintro⟨ys,v2,H2⟩ ⟨hy,h2⟩;dsimp only at hy h2 |-;have h21:=h2.isOne;obtain⟨a2,l2,c2,rfl,hl2⟩:=h2.form;rw [aI,Nat.mul_one] at hl2;by_cases hlt:ys.length<256
  ·have hbf:bV (fun i=>some (i*1,1)) (zs [.int .u8 0] 1) [(0,.int .u8 0)]=some (cbs [0]):=rfl;refine W.k fun b_=>?_;refine W.ap (ys:=cbs [0]) (mm:=1) h2 (fun w2 hs=>(Sl.own 5 1 b_ (xs:=cbs [0]) rfl).srcAt hs inferInstance) (fun v3 H3 h3=>?_) (hys:=rfl) (hbytes:=by rw [aI,aI];simp <;> omega);have h31:=h3.isOne;rw [<-iW] at h3;refine W.k ?_;have hyl:(ys++[0]).length=ys.length+1:=by rw [aB,cN]
   refine aN.mk (ys++[0],v3,H3) ?_;exact⟨by dsimp only;omega,h3⟩
  refine W.k ?_;refine bS.mk (.slice a2 l2 c2,H2,ys) ?_;exact⟨by dsimp only;omega,h2⟩
 rintro⟨v2,H2,ys⟩ ⟨hy,h2⟩;dsimp only at hy h2 |-;have h21:=h2.isOne;refine W.k ?_;refine Fin.to H2 ?_;exact F.f1 ⟨ys,hy,h2⟩
end
end Go.Proofs.YtdfclocfackkmaaGreat
