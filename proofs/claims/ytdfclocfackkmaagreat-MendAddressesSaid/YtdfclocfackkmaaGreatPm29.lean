/- The order of places; which leaves there are. -/
import Derived.Test.YtdfclocfackkmaaGreatPm27
import Derived.Test.YtdfclocfackkmaaGreatPm28
import Derived.Test.YtdfclocfackkmaaGreatPm25
set_option linter.unusedVariables false
set_option linter.unusedSimpArgs false
set_option linter.unusedSectionVars false
set_option maxHeartbeats 2000000
namespace Go.Proofs.YtdfclocfackkmaaGreat
open Go Go.Proofs.Tryz
section
attribute [local irreducible] SW SL SQ SH SA SS Pu Fin bS aN
open Pq
def jW(x y:Int×Int):Bool:=decide (x.1<y.1\/(x.1=y.1/\x.2<y.2))
theorem yS:Ord (Int×Int) jW:=⟨fun x y h=>by simp [jW] at h |-;omega,fun x y z h1 h2=>by simp [jW] at h1 h2 |-;omega⟩
abbrev fBl:FuncId:=229
theorem aEg:aE9 fBl jW:=fun x y=>by
 refine Tri.mt func229 ntmps229 fun w hw=>?_
 by_cases h1:x.1<y.1
 ·rw [show jW x y=true by simp [jW,h1]]
  refine W.k fun _ b_=>?_
  exact F.n
 ·by_cases h2:x.1=y.1
  ·by_cases h3:x.2<y.2
   ·rw [show jW x y=true by simp [jW,h2,h3]]
    refine W.k fun _ b_=>?_
    exact F.n
   ·rw [show jW x y=false by simp [jW,h1,h3]]
    refine W.k fun _ b_=>?_
    exact F.n
  ·rw [show jW x y=false by simp [jW,h1,h2]]
   refine W.k fun _ b_=>?_
   exact F.n
def lA(x:Int×LB):LV:=.int .i64 x.1::cbs x.2
abbrev nL(xs:List (Int×LB)):LV:=(xs.map lA).flatten
theorem pG{x:Int×LB}(h:x.2.length=32):(lA x).length=33:=by unfold lA;rw [aW,aI,h]
instance(x:Int×LB):OC (lA x):=by unfold lA;infer_instance
theorem Rd.rows{K:List Nat}{w:World}{v:Value}{n:Nat}{L:List LV}(hn:0<n)(h:Rd K w n v L.flatten)(hL:∀ x∈L,x.length=n):∃ (a:Option Addr) (cap:Nat),v=.slice a L.length cap/\L.length<=cap /\ ∀ (i:Nat) (x:LV),L[i]?=some x->∃ (b o:Nat) (l:LV) (T:TypeId) (fz:Nat×Nat),a=some ⟨b,o,none⟩/\w.heap[b]?=some (.cells l.toArray T fz)/\b∉K/\(l.drop (o+i*n)).take n=x:=by
 obtain⟨a,len,cap,rfl,h1,h2,h3⟩:=h;have hl:L.length=len:=by rw [dH hL] at h1;exact Nat.eq_of_mul_eq_mul_right hn h1
 subst hl;refine⟨a,cap,rfl,h2,fun i x hi=>?_⟩;have hlt:i<L.length:=(aD.1 hi).1;obtain⟨b,o,l,T,fz,rfl,hb,hk,hy⟩:=h3.resolve_left oQ;refine⟨b,o,l,T,fz,rfl,hb,hk,?_⟩;have hm:(i+1)*n<=L.length*n:=dC n hlt;rw [gD] at hm;rw [<-tC hL hi,<-hy,jT,fK,cG,cO oQ]
def okK(n:Nat)(k:Int):Bool:=decide (0<=k/\k<n)
theorem aPc{t b n bx:Nat}{L:List LL}{H:Hp}(hT:vD t b n L H)(x:Int×LB)(hx:x.2.length=32):Tri prog 227 [.agg (lA x).toArray,.pointer (some ⟨bx,0,none⟩)] ((bx,cl [.pointer (some ⟨t,0,none⟩)] 155)::H) NT (fun v H'=>v=.bool (!okK n x.1)/\H'=(bx,cl [.pointer (some ⟨t,0,none⟩)] 155)::H):=by refine Tri.mt func227 ntmps227 fun w hw=>?_;have hl:=pG hx;have hv:(lA x)[0]?=some (.int .i64 x.1):=rfl;have hO:OC (lA x):=inferInstance;generalize lA x=Z at *;refine W.k fun b_=>?_;refine aF (aNo hT x.1) ?_;rintro _ Hx ⟨rfl,rfl⟩;refine W.k ?_;refine Fin.to ((bx,cl [.pointer (some ⟨t,0,none⟩)] 155)::Hx) ?_;exact F.f1 ⟨rfl,rfl⟩
theorem aPW{t b n bx:Nat}{L:List LL}{H:Hp}(hT:vD t b n L H)(xs:List (Int×LB))(hxs:∀ x∈xs,x.2.length=32)(hn:xs.length<=1000000)(v:Value):Tri prog 258 [v,.func (.func 227) #[] #[.pointer (some ⟨bx,0,none⟩)]] ((bx,cl [.pointer (some ⟨t,0,none⟩)] 155)::H) (fun w=>Rd (((bx,cl [.pointer (some ⟨t,0,none⟩)] 155)::H).map Prod.fst) w 33 v (nL xs)) (fun r H'=>∃ z,r=.int .i64 z/\H'=(bx,cl [.pointer (some ⟨t,0,none⟩)] 155)::H/\decide (0<=z)=xs.any (fun x=>!okK n x.1)):=by
 refine Tri.mt func258 ntmps258 fun w hw=>?_;have hL:∀ y∈xs.map lA,y.length=33:=fun y hy=>by obtain⟨x,hx,rfl⟩:=bM.1 hy;exact pG (hxs x hx)
 obtain⟨a,cap,rfl,hcap,hg⟩:=hw.rows dQ hL;rw [aC] at hcap |-;refine W.j ?_;refine bP [] ((bx,cl [.pointer (some ⟨t,0,none⟩)] 155)::H) (fun _:Unit=>[]) (fun _=>(bx,cl [.pointer (some ⟨t,0,none⟩)] 155)::H) (fun _=>xs.any (fun x=>!okK n x.1)=false) ?_ ?_
 ·refine W.k ?_;refine bE [0,1,7] (fun i:Nat=>[(8,.int .i64 (i:Int))]) (fun _=>(bx,cl [.pointer (some ⟨t,0,none⟩)] 155)::H) (fun i=>xs.length-i) (fun i=>i<=xs.length/\(xs.take i).any (fun x=>!okK n x.1)=false) 0 ⟨Nat.zero_le _,by simp⟩ ?_;rintro i ⟨hi,hbad⟩;by_cases hin:i<xs.length
  ·obtain⟨x,hx⟩:∃ x,xs[i]?=some x:=⟨_,aA hin⟩;have hxm:=aP hx;obtain⟨pb,po,lv,T,fz,rfl,hb,hk,hv⟩:=hg i (lA x) (by rw [aL,hx];rfl);have hxl:=pG (hxs x hxm);have hst:(xs.take (i+1)).any (fun x=>!okK n x.1)=!okK n x.1:=by rw [aY,hx,List.any_append,hbad];simp
   have hc:=aPc (bx:=bx) hT x (hxs x hxm);refine W.k ?_;refine dN ((bx,cl [.pointer (some ⟨t,0,none⟩)] 155)::H) rfl rfl rfl rfl rfl rfl hc (fun _ _=>trivial) ?_;rintro _ _ ⟨rfl,rfl⟩;cases ho:okK n x.1 with
   | true=>
    rw [ho] at hst
    refine W.k ?_
    refine aN.mk (i+1) ?_
    exact⟨hin,hst⟩
   | false=>
    have hany:xs.any (fun x=>!okK n x.1)=true:=List.any_eq_true.2 ⟨x,hxm,by rw [ho];rfl⟩
    refine W.k ?_
    refine Fin.to ((bx,cl [.pointer (some ⟨t,0,none⟩)] 155)::H) ?_
    exact F.f1 ⟨(i:Int),rfl,rfl,by rw [hany];exact decide_eq_true oQ⟩
  have hi2:i=xs.length:=oQ;subst hi2;rw [bO] at hbad;refine W.k ?_;refine bS.mk () ?_;exact hbad
 rintro _ hbad;refine W.k ?_;refine Fin.to ((bx,cl [.pointer (some ⟨t,0,none⟩)] 155)::H) ?_;exact F.f1 ⟨-1,rfl,rfl,by rw [hbad];rfl⟩
theorem aN8{t b n bx:Nat}{L:List LL}{H:Hp}(hT:vD t b n L H)(xs:List (Int×LB))(hxs:∀ x∈xs,x.2.length=32)(hn:xs.length<=1000000)(v:Value):Tri prog 226 [v,.func (.func 227) #[] #[.pointer (some ⟨bx,0,none⟩)]] ((bx,cl [.pointer (some ⟨t,0,none⟩)] 155)::H) (fun w=>Rd (((bx,cl [.pointer (some ⟨t,0,none⟩)] 155)::H).map Prod.fst) w 33 v (nL xs)) (fun r H'=>r=.bool (xs.any (fun x=>!okK n x.1))/\H'=(bx,cl [.pointer (some ⟨t,0,none⟩)] 155)::H):=by
 refine Tri.mt func226 ntmps226 fun w hw=>?_;have hv1:=hw.isOne;have hw2:=hw;obtain⟨a,len,cap,rfl,-⟩:=hw.get;refine W.k ?_;refine aF (aPW hT xs hxs hn _) ?_ rfl (fun w2 hs=>hw2.ro (Hc:=(bx,cl [.pointer (some ⟨t,0,none⟩)] 155)::H) hs);rintro _ Hx ⟨z,rfl,rfl,hz⟩;cases hb:xs.any (fun x=>!okK n x.1) with
 | true=>
  rw [hb] at hz
  have hz2:=of_decide_eq_true hz
  refine W.k ?_
  refine Fin.to ((bx,cl [.pointer (some ⟨t,0,none⟩)] 155)::H) ?_
  exact F.f1 ⟨rfl,rfl⟩
 | false=>
  rw [hb] at hz
  have hz2:=of_decide_eq_false hz
  refine W.k ?_
  refine Fin.to ((bx,cl [.pointer (some ⟨t,0,none⟩)] 155)::H) ?_
  exact F.f1 ⟨rfl,rfl⟩
def plQ(l:LV):Prop:=(∃ n,(l.drop 0).take 1=[.int .i64 n])/\(∃ n,(l.drop (0+1)).take 1=[.int .i64 n])/\l.length=2
instance plEq:EqS prog 334 plQ where
 under:=by kernel_rfl
 held:=by kernel_rfl
 guard:=by kernel_rfl
 cov:=by
  refine⟨_,1,2,underlying334,dQ,?_⟩
  unfold plQ
  refine Cov.cons (n:=1) (D':=1) (agg:=false) (p:=fun l=>∃ n,l=[.int .i64 n]) ?_ rfl ?_ ?_ ?_
  ·decide
  ·exact xV.int (t:=3) underlying3
  ·decide
  refine Cov.cons (n:=1) (D':=1) (agg:=false) (p:=fun l=>∃ n,l=[.int .i64 n]) ?_ rfl ?_ ?_ ?_
  ·decide
  ·exact xV.int (t:=3) underlying3
  ·decide
  exact Cov.nil 2
abbrev plC(p:Pl):LV:=[.int .i64 (p.1:Int),.int .i64 (p.2:Int)]
theorem aDO(p:Pl):plQ (plC p):=⟨⟨_,rfl⟩,⟨_,rfl⟩,rfl⟩
theorem aKT{p q:Pl}(h:p≠q):plC p≠plC q:=fun e=>h (by
 simp only [qP,Value.int.injEq,true_and,and_true] at e
 exact Prod.ext oQ oQ)
def uT(cur:Nat->Nat->LB)(D d:Nat):LL:=(List.range (2^(D-d))).map (cur d)
def tU(cur:Nat->Nat->LB)(D:Nat):List LL:=(List.range (D+1)).map (uT cur D)
theorem aBo(cur:Nat->Nat->LB)(D:Nat):(tU cur D).length=D+1:=by simp [tU]
theorem nG(cur:Nat->Nat->LB)(D d:Nat):(uT cur D d).length=2^(D-d):=by simp [uT]
theorem rE(cur:Nat->Nat->LB){D d:Nat}(h:d<=D):(tU cur D)[d]?=some (uT cur D d):=by simp [tU,show d<D+1 by omega]
theorem aGm(cur:Nat->Nat->LB){D d i:Nat}(h:i<2^(D-d)):(uT cur D d)[i]?=some (cur d i):=by simp [uT,h]
theorem aGn(cur:Nat->Nat->LB)(D d i:Nat)(x:LB):(uT cur D d).set i x=uT (xY cur (d,i) x) D d:=by
 apply cM;intro j;unfold uT xY;rw [dW];simp only [aC,dR,aL];by_cases hj:j<2^(D-d)
 ·rw [eI hj];by_cases e:i=j
  ·subst e;simp [hj]
  rw [if_neg e];simp [Ne.symm e]
 rw [bF (l:=List.range _) (by simpa using hj)];by_cases e:i=j
 ·subst e;simp [hj]
 simp [e]
theorem aDU(cur:Nat->Nat->LB){D d:Nat}(i:Nat)(x:LB)(h:d<=D):(tU cur D).set d (uT (xY cur (d,i) x) D d)=tU (xY cur (d,i) x) D:=by
 apply cM;intro j;rw [dW,aBo];by_cases e:d=j
 ·subst e;rw [if_pos rfl,if_pos oQ,rE _ h]
 rw [if_neg e];by_cases hj:j<=D
 ·rw [rE _ hj,rE _ hj];congr 1;unfold uT xY;apply eJ;intro i' _;dsimp only;rw [if_neg (fun hh=>e hh.1.symm)]
 rw [bF (by rw [aBo];omega),bF (by rw [aBo];omega)]
theorem jI.get2{vs:LV}{L:List LL}{H:Hp}(h:jI vs L H){d:Nat}{r:LL}(hd:L[d]?=some r):∃ (rb cap:Nat) (junk:LV) (Ha Hz:Hp),vs[d]?=some (.slice (some ⟨rb,0,none⟩) r.length cap)/\H=Ha++((rb,cl (cbs r.flatten++junk) 91)::Hz)/\D32 r/\r.length<=cap /\ ∀ r2:LL,D32 r2->r2.length=r.length->jI vs (L.set d r2) (Ha++((rb,cl (cbs r2.flatten++junk) 91)::Hz)):=by
 obtain⟨ws,rfl,rfl,rfl,h4⟩:=h;rw [aL] at hd;obtain⟨w,hw,rfl⟩:=Option.map_eq_some_iff.1 hd;obtain⟨hl,hv⟩:=aD.1 hw;have hm:=aP hw;have hs:ws=ws.take d++w::ws.drop (d+1):=by conv=>lhs;rw [<-dF d ws,bK hl,hv]
 refine⟨w.b,w.cap,w.junk,(ws.take d).map Rw.hp,(ws.drop (d+1)).map Rw.hp,by rw [aL,hw];rfl,?_,(h4 w hm).1,(h4 w hm).2.2,fun r2 h2 h3=>?_⟩
 ·conv=>lhs;rw [hs]
  simp [Rw.hp]
 refine⟨ws.set d { w with r:=r2 },?_,?_,?_,fun x hx=>?_⟩
 ·rw [gC,show ({ w with r:=r2 }:Rw).val=w.val by simp [Rw.val,h3]];exact (aGx (by rw [aL,hw];rfl)).symm
 ·rw [gC]
 ·rw [gC,fY,if_pos (by simpa using hl)];simp [Rw.hp,gX,iD]
 rcases gT hx with h5|rfl
 ·exact h4 x h5
 obtain⟨g1,g2,g3⟩:=h4 w hm;exact⟨h2,by show w.junk.length=(w.cap-r2.length)*32;rw [h3];exact g2,by show r2.length<=w.cap;omega⟩
theorem aAb{L:LL}{junk:LV}{x:LB}(h:D32 L){i:Nat}(hi:i<L.length):(cbs L.flatten++junk).take (i*32)++cbs x++(cbs L.flatten++junk).drop (i*32+32)=cbs (L.set i x).flatten++junk:=by
 have hl:(cbs L.flatten).length=L.length*32:=by rw [aI,dH h]
 rw [bU oQ,cJ oQ,<-aT,aHH h hi]
def jE(l:LL)(xs:List (Int×LB)):LL:=xs.foldl (fun l x=>l.set x.1.toNat x.2) l
theorem qM(l:LL)(xs:List (Int×LB)):(jE l xs).length=l.length:=by
 unfold jE;induction xs generalizing l with
 | nil=>rfl
 | cons x xs ih=>rw [fC,ih,cE]
theorem sK{l:LL}(hl:D32 l)(xs:List (Int×LB))(hx:∀ x∈xs,x.2.length=32):D32 (jE l xs):=by
 unfold jE;induction xs generalizing l with
 | nil=>exact hl
 | cons x xs ih=>exact ih (aMY hl (hx x (gZ ..))) fun y hy=>hx y (cV _ hy)
theorem aC7(l:LL)(xs:List (Int×LB))(x:Int×LB):jE l (xs++[x])=(jE l xs).set x.1.toNat x.2:=by simp [jE]
theorem aHp(l:LL)(xs:List (Int×LB)):∀ i,i∉xs.map (fun x=>x.1.toNat)->(jE l xs).getD i z32=l.getD i z32:=by
 unfold jE;induction xs generalizing l with
 | nil=>intro i _;rfl
 | cons x xs ih=>
  intro i hi
  simp only [eE,cD,not_or] at hi
  rw [fC,ih _ i hi.2,aE,aE,List.getElem?_set_ne (Ne.symm hi.1)]
def uE(l:LL)(xs:List (Int×LB))(j:Nat):Nat->Nat->LB:=fun d i=>if d=0 then (jE l (xs.take j)).getD i z32 else atV l d i
theorem aOa(l:LL)(xs:List (Int×LB)):uE l xs 0=atV l:=by
 funext d i;unfold uE;split
 ·rename_i h;subst h;rfl
 rfl
theorem aIL(l:LL){xs:List (Int×LB)}{j:Nat}{x:Int×LB}(hx:xs[j]?=some x)(hk:x.1.toNat<l.length):uE l xs (j+1)=xY (uE l xs j) (0,x.1.toNat) x.2:=by
 funext d i;unfold uE xY;dsimp only;rw [aY,hx,show (some x).toList=[x] from rfl,aC7];by_cases hd:d=0
 ·subst hd;rw [if_pos rfl,if_pos rfl,aE,dW,qM];by_cases e:x.1.toNat=i
  ·subst e;simp [hk]
  rw [if_neg e,if_neg (fun hh=>e hh.2.symm),aE]
 rw [if_neg hd,if_neg (fun hh=>hd hh.1),if_neg hd]
theorem aHJ{l:LL}(hl:D32 l){xs:List (Int×LB)}(hx:∀ x∈xs,x.2.length=32)(j d i:Nat):(uE l xs j d i).length=32:=by
 unfold uE;split
 ·exact lH (sK hl _ fun x h=>hx x (dM h)) 0 i
 exact lH hl d i
theorem aIk{cur:Nat->Nat->LB}(h:∀ d i,(cur d i).length=32)(D d:Nat):D32 (uT cur D d):=by intro x hx;obtain⟨i,-,rfl⟩:=bM.1 hx;exact h d i
theorem aMI{cur:Nat->Nat->LB}(h:∀ d i,(cur d i).length=32)(p:Pl){x:LB}(hx:x.length=32):∀ d i,(xY cur p x d i).length=32:=fun d i=>by
 unfold xY
 split
 ·exact hx
 ·exact h d i
theorem aLi(xs:List Nat):(aDX xs).length<=xs.length:=by
 have key:∀ (xs s:List Nat),(xs.foldl vL s).length<=s.length+xs.length:=by
  intro xs;induction xs with
  | nil=>intro s;simp
  | cons x xs ih=>
   intro s
   have:=ih (vL s x)
   have h2:(vL s x).length<=s.length+1:=by unfold vL;split <;> simp
   rw [fC,aW]
   omega
 simpa [aDX] using key xs []
theorem aIF(ks:List Nat)(D:Nat):rK ks D<=D*ks.length:=by
 induction D with
 | zero=>simp [rK]
 | succ D ih=>
  have:=aLi (ks.map fun k=>k/2^(D+1))
  rw [aC] at this
  unfold rK aEY
  rw [gD]
  omega
theorem vD.open2{t b n:Nat}{L:List LL}{H:Hp}(h:vD t b n L H)(hL:0<L.length):∃ (lb lc:Nat) (vs lj:LV) (Hw:Hp),H=(t,cl [.pointer (some ⟨b,0,none⟩),.int .i64 (n:Int),.slice (some ⟨lb,0,none⟩) L.length lc] 297)::([(lb,cl (vs++lj) 294)]++Hw)/\jI vs L Hw/\vs.length=L.length/\L.length<=lc/\Sl 294 1 (.slice (some ⟨lb,0,none⟩) L.length lc) vs [(lb,cl (vs++lj) 294)]:=by
 obtain⟨lv,vs,Hl,Hw,rfl,hlv,hrw⟩:=h;have hv:=hrw.len;have hlv2:=hlv;rcases hlv with ⟨rfl,rfl,rfl⟩|⟨lb,len,cap,junk,rfl,hx,hj,hlc,rfl⟩
 ·simp at hv;omega
 obtain rfl:len=L.length:=by omega
 exact⟨lb,cap,vs,junk,Hw,rfl,hrw,hv,hlc,hlv2⟩
theorem b2p(p:Int×Int):bV (fun i=>some (i*2,2)) (zs [.int .i64 0,.int .i64 0] 1) [(0,.agg [(.int .i64 p.1:Value),.int .i64 p.2].toArray)]=some (tc p):=rfl
def plx(x:Sx):Pl:=(x.a.toNat,x.b.toNat)
def NN(ws:List Sx):Prop:=∀ x∈ws,0<=x.a/\0<=x.b
structure WS where
 ws:List Sx
 next:Nat
 last:Pl
 done:List Pl
 cur:Nat->Nat->LB
 vs:LV
 Hw:Hp
 Hq:Hp
 Hb:Hp
 s:Bk
theorem aNw{qp:Nat}{ws:List Sx}{next:Nat}{H:Hp}(hQ:nK qp fBl jW ws next H)(hN:NN ws)(hn:ws.length<=1000000):Tri prog 232 [.pointer (some ⟨qp,0,none⟩)] H NT (fun v H'=>∃ (p:Pl) (ok:Bool) (ws':List Sx),v=.tuple #[aCR p.1 p.2,.bool ok]/\nK qp fBl jW ws' next H'/\NN ws'/\((ok=false/\ws=[]/\ws'=[])\/(ok=true/\ws'.length+1=ws.length/\(∃ x∈ws,plx x=p)/\(∀ y∈ws,¬ plt (plx y) p)/\(∀ y∈ws',y∈ws)/\(∀ y∈ws,plx y≠p->y∈ws')))):=by
 refine (aNN yS aEg hQ hn).mono ?_;rintro v H' (⟨h1,rfl,rfl⟩|⟨x,hmin,hQ2,rfl⟩)
 ·subst h1;exact⟨(0,0),false,[],rfl,hQ,hN,.inl ⟨rfl,rfl,rfl⟩⟩
 obtain⟨ha,hb⟩:=hN x hmin.1;have hlen:=List.length_erase_of_mem hmin.1;have hpos:=nV hmin.1;refine⟨plx x,true,ws.erase x,?_,hQ2,fun y hy=>hN y (List.mem_of_mem_erase hy),.inr ⟨rfl,oQ,⟨x,hmin.1,rfl⟩,fun y hy h=>?_,fun y hy=>List.mem_of_mem_erase hy,fun y hy hne=>(List.mem_erase_of_ne (by rintro rfl;exact hne rfl)).2 hy⟩⟩
 ·unfold aCR tc plx;dsimp only;rw [Int.toNat_of_nonneg ha,Int.toNat_of_nonneg hb]
 have h1:=hmin.2 y hy;obtain⟨hc,hd⟩:=hN y hy;have h2:jW (y.a,y.b) (x.a,x.b)=true:=by unfold plt plx at h;dsimp only at h;unfold jW;refine decide_eq_true ?_;dsimp only;omega
 unfold le lts at h1;rw [h2] at h1;simp at h1
theorem aKV{ks:List Nat}{D:Nat}{V:LL}{last:Pl}{done:List Pl}{cur:Nat->Nat->LB}{ws ws':List Sx}{p:Pl}{ok:Bool}(h:SI ks D V (fun q=>∃ y∈ws,plx y=q) last done cur) (hp:(ok=false/\ws=[]/\ws'=[])\/(ok=true/\ws'.length+1=ws.length/\(∃ x∈ws,plx x=p)/\(∀ y∈ws,¬ plt (plx y) p)/\(∀ y∈ws',y∈ws)/\(∀ y∈ws,plx y≠p->y∈ws'))):SI ks D V (fun q=>(ok=true/\q=p)\/∃ y∈ws',plx y=q) last done cur/\(ok=true->∀ y∈ws',¬ plt (plx y) p)/\(ok=false->ws'=[])/\ws'.length+ok.toNat<=ws.length:=by
 rcases hp with ⟨rfl,h3,h4⟩|⟨rfl,h3,⟨z,hz,hzp⟩,h5,h6,h7⟩
 ·subst h3 h4;refine⟨?_,by simp,by simp,by simp⟩;have e:(fun q=>(false=true/\q=p)\/∃ y∈([]:List Sx),plx y=q)=(fun q=>∃ y∈([]:List Sx),plx y=q):=by funext q;simp
  rw [e];exact h
 refine⟨?_,fun _ y hy=>h5 y (h6 y hy),by simp,by simp;omega⟩;have e:(fun q=>(true=true/\q=p)\/∃ y∈ws',plx y=q)=(fun q=>∃ y∈ws,plx y=q):=by
  funext q;refine propext ⟨?_,?_⟩
  ·rintro (⟨-,rfl⟩|⟨y,hy,e⟩)
   ·exact⟨z,hz,hzp⟩
   exact⟨y,h6 y hy,e⟩
  rintro⟨y,hy,e⟩;by_cases hq:q=p
  ·exact .inl ⟨rfl,hq⟩
  exact .inr ⟨y,h7 y hy (by rw [e];exact hq),e⟩
 rw [e];exact h
theorem aPB{t b tp:Nat}{s:Bk}{l:LL}{Ht Hb:Hp}(hT:rJ t b l Ht)(hB:eP b tp s Hb)(hl:D32 l)(h1:1<=l.length)(h2:l.length<=1024)(xs:List (Int×LB))(hxs:∀ x∈xs,x.2.length=32)(hn:xs.length<=1000)(hok:xs.any (fun x=>!okK l.length x.1)=false)(v:Value):Tri prog 177 [.pointer (some ⟨t,0,none⟩),v] (Ht++Hb) (fun w=>Rd ((Ht++Hb).map Prod.fst) w 33 v (nL xs)) (fun r H'=>∃ Ht' Hb' s',r=.tuple #[.int .i64 ((rK (xs.map fun x=>x.1.toNat) (dep l.length):Nat):Int),.int .i64 0]/\H'=Ht'++Hb'/\rJ t b (jE l xs) Ht'/\eP b tp s' Hb'):=by
 refine Tri.mt func177 ntmps177 fun w hw=>?_;have hv1:=hw.isOne;have hw2:=hw;have hokx:∀ x∈xs,0<=x.1/\x.1<l.length:=fun x hx=>by have:=List.any_eq_false.1 hok x hx;simpa [okK] using this
 have hL33:∀ y∈xs.map lA,y.length=33:=fun y hy=>by obtain⟨x,hx,rfl⟩:=bM.1 hy;exact pG (hxs x hx)
 obtain⟨a,cap,rfl,hcap,hg⟩:=hw.rows dQ hL33;rw [aC] at hcap hw2 hv1 |-;have hd10:=uF (n:=l.length) (k:=10) (by simpa using h2);have hle:=yU l.length;have hwl:(jE l xs).length=l.length:=qM l xs;have hcont:=fun bx=>aN8 (bx:=bx) hT xs hxs oQ (.slice a xs.length cap);obtain⟨lb,lc,vs0,lj,Hw0,hHt,hrw0,hvl,hlc,hSl⟩:=hT.open2 (by simp [lD]);have hLl:(lD l (dep l.length) (dep l.length+1)).length=dep l.length+1:=by simp [lD]
 rw [hLl] at hHt hvl hlc hSl;unfold rJ;rw [hwl];have hrw1:jI vs0 (tU (uE l xs 0) (dep l.length)) Hw0:=by rw [aOa];exact hrw0
 generalize hD:dep l.length=D at *;rw [hok] at hcont;refine W.k fun b_=>?_;refine W.cq (hcont b_) ?_ rfl (fun w2 hs=>hw2.ro (Hc:=(b_,cl [.pointer (some ⟨t,0,none⟩)] 155)::Ht) hs);subst hHt;refine W.k ?_;refine aF (aNL fBl jW) ?_;rintro _ Hq0 ⟨qp,rfl,hQ0⟩;refine W.j ?_;refine bP [2,6] (Hw0++Hq0) (fun x:WS=>[]) (fun x=>x.Hw++x.Hq) (fun x=>jI vs0 (tU (uE l xs xs.length) D) x.Hw/\nK qp fBl jW x.ws xs.length x.Hq/\NN x.ws/\x.ws.length=xs.length/\∀ p,(∃ y∈x.ws,plx y=p)↔∃ k∈xs.map (fun x=>x.1.toNat),p=(1,k/2)) ?_ ?_
 ·refine W.k ?_;refine bE [2,6,20,21] (fun y:Nat×List Sx×Hp×Hp=>[(22,.int .i64 (y.1:Int))]) (fun y=>y.2.2.1++y.2.2.2) (fun y=>xs.length-y.1) (fun y=>y.1<=xs.length/\jI vs0 (tU (uE l xs y.1) D) y.2.2.1/\nK qp fBl jW y.2.1 y.1 y.2.2.2/\NN y.2.1/\y.2.1.length=y.1/\∀ p,(∃ z∈y.2.1,plx z=p)↔∃ k∈(xs.take y.1).map (fun x=>x.1.toNat),p=(1,k/2)) (0,[],Hw0,Hq0) ⟨Nat.zero_le _,hrw1,hQ0,by simp [NN],rfl,by simp⟩ ?_;rintro⟨j,ws,Hw1,Hq1⟩ ⟨hj,hrw,hQ,hNN,hwsl,hmem⟩;dsimp only at hj hrw hQ hNN hwsl hmem |-;by_cases hjx:j<xs.length
  ·obtain⟨x,hx⟩:∃ x,xs[j]?=some x:=⟨_,aA hjx⟩;have hxm:=aP hx;obtain⟨pb,po,lv,T,fz,rfl,hb,hk,hv⟩:=hg j (lA x) (by rw [aL,hx];rfl);obtain⟨hk0,hk1⟩:=hokx x hxm;obtain⟨k,hkk⟩:∃ k:Nat,x.1=(k:Int):=⟨x.1.toNat,oQ⟩;have hkt:x.1.toNat=k:=oQ;have hkl:k<l.length:=oQ;obtain⟨rb,rc,rj,Ha,Hz,hvr,rfl,hr32,hrc,hback⟩:=hrw.get2 (rE (uE l xs j) (Nat.zero_le D));rw [nG,iU] at hvr hrc;have hvr2:=xA (lj:=lj) hvr;have hset:=aAb (junk:=rj) (x:=x.2) hr32 (i:=k) (by rw [nG,iU];omega);have hcn:=aIL l hx (by rw [hkt];exact hkl);rw [hkt] at hcn;rw [aGn,<-hcn] at hset;have hb3:=hback (uT (uE l xs (j+1)) D 0) (aIk (aHJ hl hxs _) D 0) (by rw [nG,nG]);have hset2:=aDU (uE l xs j) k x.2 (Nat.zero_le D);rw [<-hcn] at hset2;rw [hset2] at hb3;have hz0:(lA x)[0]?=some (.int .i64 (k:Int)):=by unfold lA;rw [hkk];rfl
   have hz1:((lA x).drop (0+1)).take 32=cbs x.2:=by unfold lA;rw [fT,List.drop_succ_cons,bQ,aK (by rw [aI,hxs x hxm];omega)]
   have hzl:=pG (hxs x hxm);have hzO:OC (lA x):=inferInstance;have hc2:=lN (hxs x hxm);have hz33:(List.replicate 33 (Value.int .u8 0)).length=33:=rfl;have hfit:k*32+32<=(cbs (uT (uE l xs j) D 0).flatten++rj).length:=by rw [aB,aI,dH hr32,nG,iU];omega
   have hbp:bV (fun i=>[(0,1),(1,1)][i]?) ([.int .i64 0]++[.int .i64 0]) [(0,.int .i64 0),(1,.int .i64 (k:Int))]=some [.int .i64 ((0:Nat):Int),.int .i64 (k:Int)]:=rfl;have hbq:=b2p (((1:Nat):Int),((k/2:Nat):Int));generalize lA x=Z at *;generalize 2^D=X at *;refine W.k fun b_=>?_;(refine SW.l [11] [0,1,2,3,4,5,6,7,8,9,10] ?_;refine bL 11 ?_;refine W.i ?_;refine SS.dn ?_);rw [hset];refine W.k ?_;refine W.cw (aNA 0 k oQ oQ) ?_;intro b_;refine aF (aHy yS aEg hQ [(((1:Nat):Int),((k/2:Nat):Int))] (.slice (some ⟨b_,0,none⟩) 1 1) (by rw [hwsl];simp;omega) (by simp;omega)) ?_ rfl (fun w2 hs=>?_);rotate_left
   ·rw [dE,List.flatMap_nil,aG];exact Rd.own (Hc:=Hq1) (Sl.own 334 2 b_ (len:=1) (xs:=tc (((1:Nat):Int),((k/2:Nat):Int))) rfl) hs inferInstance
   rintro _ Hq2 ⟨rfl,hQ2⟩;have hQ3:nK qp fBl jW (ws++[⟨((1:Nat):Int),((k/2:Nat):Int),(j:Int)⟩]) (j+1) Hq2:=hQ2;have hplx:plx ⟨((1:Nat):Int),((k/2:Nat):Int),(j:Int)⟩=(1,k/2):=by unfold plx;dsimp only;rw [aS,aS]
   have hmem2:∀ p,(∃ z∈ws++[(⟨((1:Nat):Int),((k/2:Nat):Int),(j:Int)⟩:Sx)],plx z=p)↔∃ k∈(xs.take (j+1)).map (fun x=>x.1.toNat),p=(1,k/2):=fun p=>by
    rw [aY,hx,show (some x).toList=[x] from rfl,aZ];constructor
    ·rintro⟨z,hz,rfl⟩;rcases bJ.1 hz with h|h
     ·obtain⟨k',hk',e⟩:=(hmem (plx z)).1 ⟨z,h,rfl⟩;exact⟨k',aO _ hk',e⟩
     rw [bW] at h;subst h;exact⟨k,aM _ (by simp [hkt]),hplx⟩
    rintro⟨k',hk',rfl⟩;rcases bJ.1 hk' with h|h
    ·obtain⟨z,hz,e⟩:=(hmem _).2 ⟨k',h,rfl⟩;exact⟨z,aO _ hz,e⟩
    simp only [eE,mO,bW] at h;refine⟨⟨((1:Nat):Int),((k/2:Nat):Int),(j:Int)⟩,by simp,?_⟩;rw [h,hkt];exact hplx
   refine W.k ?_;refine aN.mk (j+1,ws++[⟨((1:Nat):Int),((k/2:Nat):Int),(j:Int)⟩],Ha++((rb,cl (cbs (uT (uE l xs (j+1)) D 0).flatten++rj) 91)::Hz),Hq2) ?_;refine⟨hjx,hb3,hQ3,fun z hz=>?_,by rw [aB,hwsl];rfl,hmem2⟩;rcases bJ.1 hz with h|h
   ·exact hNN z h
   rw [bW] at h;subst h;exact⟨by simp,by dsimp only;omega⟩
  have hj2:j=xs.length:=oQ;subst hj2;rw [bO] at hmem;refine W.k ?_;refine bS.mk ⟨ws,0,(0,0),[],atV l,[],Hw1,Hq1,[],s⟩ ?_;exact⟨hrw,hQ,hNN,hwsl,hmem⟩
 rintro⟨ws,next,last,done,cur,vs,Hw1,Hq1,Hb1,s1⟩ ⟨hrw,hQ,hNN,hwsl,hmem⟩;dsimp only at hrw hQ hNN hwsl hmem |-;have hks:∀ k∈xs.map (fun x=>x.1.toNat),k<l.length:=fun k hk=>by obtain⟨x,hx,rfl⟩:=bM.1 hk;have:=hokx x hx;omega
 have hst0:=SI.start (ks:=xs.map fun x=>x.1.toNat) (D:=D) (l:=l) (w:=jE l xs) (aHp l xs) (cur:=uE l xs xs.length) (fun i hi=>by unfold uE;rw [if_pos rfl,bO];rfl) (fun d i h1 h2=>by unfold uE;rw [if_neg oQ]) hmem;have hA:=aIF (xs.map fun x=>x.1.toNat) D;rw [aC] at hA;have hA2:rK (xs.map fun x=>x.1.toNat) D<=10*1000:=cZ hA (jA hd10 hn);have h32c:=fun d i=>aHJ hl hxs xs.length d i;generalize hKS:xs.map (fun x=>x.1.toNat)=ks at *;generalize hAA:rK ks D=A at *;generalize hV:jE l xs=V at *;generalize uE l xs xs.length=cur0 at *;have hb00:bV (fun i=>[(0,1),(1,1)][i]?) ([.int .i64 0]++[.int .i64 0]) []=some (plC (0,0)):=rfl;refine W.j fun b_=>?_;refine aF (aNw hQ hNN oQ) ?_;rintro _ Hq2 ⟨p0,ok0,ws0,rfl,hQ0',hNN0,hp0⟩;obtain⟨g1,g2,g3,g4⟩:=aKV hst0 hp0;refine W.j fun b_=>?_;rename_i bx b10;refine bP [2,6] ((b_,cl (plC p0) 334)::(b10,cl (plC (0,0)) 334)::(Hw1++(Hq2++Hb))) (fun y:WS=>[(9,.int .i64 (A:Int))]) (fun y=>y.Hw++y.Hb) (fun y=>jI vs0 (lD V D (D+1)) y.Hw/\eP b tp y.s y.Hb) ?_ ?_;rotate_left
 ·rintro⟨j1,j2,j3,j4,j5,j6,Hw9,j7,Hb9,s9⟩ ⟨hr9,hB9⟩;dsimp only at hr9 hB9 |-;refine W.k ?_;refine Fin.to (((t,cl [.pointer (some ⟨b,0,none⟩),.int .i64 (l.length:Int),.slice (some ⟨lb,0,none⟩) (D+1) lc] 297)::([(lb,cl (vs0++lj) 294)]++Hw9))++Hb9) ?_;refine F.f2 ?_;refine⟨_,Hb9,s9,rfl,rfl,⟨_,vs0,_,Hw9,rfl,hSl,hr9⟩,hB9⟩
 refine W.k ?_;refine bE [2,6,10] (fun y:Nat×Pl×Bool×WS=>[(9,.int .i64 (y.2.2.2.done.length:Int)),(11,.pointer (some ⟨y.1,0,none⟩)),(12,.bool y.2.2.1)]) (fun y=>(y.1,cl (plC y.2.1) 334)::(b10,cl (plC y.2.2.2.last) 334)::(y.2.2.2.Hw++(y.2.2.2.Hq++y.2.2.2.Hb))) (fun y=>y.2.2.2.ws.length+(A-y.2.2.2.done.length)+y.2.2.1.toNat)
  (fun y=>(jI vs0 (tU y.2.2.2.cur D) y.2.2.2.Hw/\(∀ d i,(y.2.2.2.cur d i).length=32)/\eP b tp y.2.2.2.s y.2.2.2.Hb)/\(nK qp fBl jW y.2.2.2.ws y.2.2.2.next y.2.2.2.Hq/\NN y.2.2.2.ws)/\SI ks D V (fun q=>(y.2.2.1=true/\q=y.2.1)\/∃ z∈y.2.2.2.ws,plx z=q) y.2.2.2.last y.2.2.2.done y.2.2.2.cur/\((y.2.2.1=true->∀ z∈y.2.2.2.ws,¬ plt (plx z) y.2.1)/\(y.2.2.1=false->y.2.2.2.ws=[]))/\y.2.2.2.ws.length+(A-y.2.2.2.done.length)+y.2.2.1.toNat<=20000/\y.2.2.2.next+(A-y.2.2.2.done.length)<=20000)
  (b_,p0,ok0,⟨ws0,xs.length,(0,0),[],cur0,[],Hw1,Hq2,Hb,s⟩) ⟨⟨hrw,h32c,hB⟩,⟨hQ0',hNN0⟩,g1,⟨g2,g3⟩,by simp only [List.length_nil];omega,by simp only [List.length_nil];omega⟩ ?_
 rintro⟨b11,p,ok,⟨ws1,nx,last1,done1,cur1,j6,Hw2,Hq3,Hb2,s2⟩⟩ ⟨⟨hrw2,h32d,hB2⟩,⟨hQ2,hNN2⟩,hSI,⟨hmin,hend⟩,hb1,hb2⟩;dsimp only at hrw2 h32d hB2 hQ2 hNN2 hSI hmin hend hb1 hb2 |-;cases ok with
 | false=>
  have hws:=hend rfl
  subst hws
  have hno:∀ q,¬ ((false=true/\q=p)\/∃ z∈([]:List Sx),plx z=q):=fun q=>by simp
  have hcnt:=hSI.count hno
  have hfin:=(hSI.fin hno).1
  have hrows:tU cur1 D=lD V D (D+1):=by
   unfold tU lD
   refine eJ fun d hd=>?_
   unfold uT qT
   refine eJ fun i hi=>?_
   exact hfin d i (by have:=eK.1 hd;omega) (eK.1 hi)
  rw [hrows] at hrw2
  rw [hAA] at hcnt
  rw [hcnt]
  refine W.k ?_
  refine bS.mk ⟨[],0,(0,0),[],cur1,[],Hw2,[],Hb2,s2⟩ ?_
  exact⟨hrw2,hB2⟩
 | true=>
  have hmin':=hmin rfl
  have hdl:=hSI.le
  rw [hAA] at hdl
  refine W.j ?_
  refine bP [2,6,10,11] ((b10,cl (plC last1) 334)::(Hw2++(Hq3++Hb2))) (fun y:WS=>[(9,.int .i64 (y.done.length:Int))]) (fun y=>(b10,cl (plC y.last) 334)::(y.Hw++(y.Hq++y.Hb)))
   (fun y=>(jI vs0 (tU y.cur D) y.Hw/\(∀ d i,(y.cur d i).length=32)/\eP b tp y.s y.Hb)/\(nK qp fBl jW y.ws y.next y.Hq/\NN y.ws)/\SI ks D V (fun q=>∃ z∈y.ws,plx z=q) y.last y.done y.cur/\y.ws.length+(A-y.done.length)<=ws1.length+(A-done1.length)/\y.next+(A-y.done.length)<=20000) ?_ ?_
  rotate_left
  ·rintro⟨ws3,nx3,last3,done3,cur3,j6',Hw4,Hq4,Hb4,s4⟩ ⟨⟨hrw4,h32e,hB4⟩,⟨hQ4,hNN4⟩,hSI4,hm4,hn4⟩
   dsimp only at hrw4 h32e hB4 hQ4 hNN4 hSI4 hm4 hn4 |-
   refine W.k fun b_=>?_
   refine aF (aNw hQ4 hNN4 oQ) ?_
   rintro _ Hq5 ⟨p5,ok5,ws5,rfl,hQ5,hNN5,hp5⟩
   obtain⟨e1,e2,e3,e4⟩:=aKV hSI4 hp5
   refine W.k ?_
   refine aN.mk (b_,p5,ok5,⟨ws5,nx3,last3,done3,cur3,[],Hw4,Hq5,Hb4,s4⟩) ?_ (hM:=?_)
   ·exact⟨⟨hrw4,h32e,hB4⟩,⟨hQ5,hNN5⟩,e1,⟨e2,e3⟩,by dsimp only;omega,hn4⟩
   ·show ws5.length+(A-done3.length)+ok5.toNat<ws1.length+(A-done1.length)+true.toNat
    rw [Bool.toNat_true]
    omega
  by_cases hpl:p=last1
  ·subst hpl
   have hsk:=hSI.skip (p:=p) (Q':=fun q=>∃ z∈ws1,plx z=q) (.inl rfl) (fun q hq=>.inr hq) (fun q hq hne=>hq.elim (fun h=>absurd h.2 hne) id)
   refine W.k ?_
   (refine SW.l [] [0,1] ?_;refine dS 2 rfl (aH3 rfl rfl rfl (aDO _) (aDO _) rfl) ?_;refine SG.l [3,4,5,6,7,8,9,10,11,12,13] ?_)
   refine W.k ?_
   refine bS.mk ⟨ws1,nx,p,done1,cur1,[],Hw2,Hq3,Hb2,s2⟩ ?_
   exact⟨⟨hrw2,h32d,hB2⟩,⟨hQ2,hNN2⟩,hsk,Nat.le_refl _,hb2⟩
  ·by_cases hpD:D<p.1
   ·have hsk:=hSI.skip (p:=p) (Q':=fun q=>∃ z∈ws1,plx z=q) (.inr hpD) (fun q hq=>.inr hq) (fun q hq hne=>hq.elim (fun h=>absurd h.2 hne) id)
    refine W.k ?_
    (refine SW.l [] [0,1] ?_;refine dS 2 rfl (aEH rfl rfl rfl (aDO _) (aDO _) (aKT hpl)) ?_;refine SG.l [3,4,5,6,7,8,9,10,11,12,13] ?_)
    refine W.k ?_
    refine bS.mk ⟨ws1,nx,last1,done1,cur1,[],Hw2,Hq3,Hb2,s2⟩ ?_
    exact⟨⟨hrw2,h32d,hB2⟩,⟨hQ2,hNN2⟩,hsk,Nat.le_refl _,hb2⟩
   ·obtain⟨q1,q2,q3⟩:=hSI.q p (.inl ⟨rfl,rfl⟩)
    obtain⟨k,hk,hkp⟩:=q2
    have hkl:=hks k hk
    have hpk:p.2<=k:=by rw [<-hkp];exact kF ..
    have hi:p.2<2^(D-p.1):=by
     rw [<-hkp,Nat.div_lt_iff_lt_mul (Nat.pow_pos oQ),<-Nat.pow_add,show D-p.1+p.1=D by omega]
     omega
    have hpow:2^(D-(p.1-1))=2*2^(D-p.1):=by rw [show D-(p.1-1)=D-p.1+1 by omega,fE,lF]
    obtain⟨hsi2,hnd⟩:=hSI.proc (p:=p) (Q':=fun q=>∃ z∈ws1++[(⟨((p.1+1:Nat):Int),((p.2/2:Nat):Int),(nx:Int)⟩:Sx)],plx z=q) (.inl ⟨rfl,rfl⟩)
     (fun q hq=>hq.elim (fun h=>by rw [h.2];exact aEN p) (fun⟨z,hz,e⟩=>by rw [<-e];exact hmin' z hz)) hpl oQ hi
     (fun q ⟨z,hz,e⟩=>by
      rcases bJ.1 hz with h|h
      ·exact .inl (.inr ⟨z,h,e⟩)
      ·rw [bW] at h
       refine .inr ?_
       rw [<-e,h]
       unfold plx upP
       dsimp only
       rw [aS,aS])
     (fun q hq hne=>hq.elim (fun h=>absurd h.2 hne) (fun⟨z,hz,e⟩=>⟨z,aO _ hz,e⟩))
     ⟨_,aM _ (bW.2 rfl),by
      unfold plx upP
      dsimp only
      rw [aS,aS]⟩
    have hdl2:=hsi2.le
    rw [hAA,aB,cN] at hdl2
    have hx1:=h32d (p.1-1) (2*p.2)
    have hx2:=h32d (p.1-1) (2*p.2+1)
    have hnv:(oE p.1 p.2 (cur1 (p.1-1) (2*p.2)) (cur1 (p.1-1) (2*p.2+1))).length=32:=xL ..
    obtain⟨rb,rc,rj,Ha,Hz,hvr,rfl,hr32,hrc,hback⟩:=hrw2.get2 (rE cur1 (D:=D) (d:=p.1) oQ)
    obtain⟨ub,uc,uj,hvu,hatu,hu32,huc⟩:=hrw2.get (rE cur1 (D:=D) (d:=p.1-1) oQ)
    rw [nG] at hvr hrc hvu huc
    have hvr2:=xA (lj:=lj) hvr
    have hvu2:=xA (lj:=lj) hvu
    have hg1:=nD (junk:=uj) hu32 (aGm cur1 (D:=D) (d:=p.1-1) (i:=2*p.2) oQ)
    have hg2:=nD (junk:=uj) hu32 (aGm cur1 (D:=D) (d:=p.1-1) (i:=2*p.2+1) oQ)
    have hset:=aAb (junk:=rj) (x:=oE p.1 p.2 (cur1 (p.1-1) (2*p.2)) (cur1 (p.1-1) (2*p.2+1))) hr32 (i:=p.2) (by rw [nG];omega)
    rw [aGn] at hset
    have h32n:=aMI h32d (p.1,p.2) hnv
    have hb3:=hback (uT (xY cur1 (p.1,p.2) (oE p.1 p.2 (cur1 (p.1-1) (2*p.2)) (cur1 (p.1-1) (2*p.2+1)))) D p.1) (aIk h32n D p.1) (by rw [nG,nG])
    rw [aDU cur1 p.2 _ (show p.1<=D by omega)] at hb3
    have hfit:p.2*32+32<=(cbs (uT cur1 D p.1).flatten++rj).length:=by
     rw [aB,aI,dH hr32,nG];omega
    have hc1:=lN hx1
    have hc2:=lN hx2
    have hcn:=lN hnv
    have hnode:=aKA hB2 p.1 p.2 _ _ hx1 hx2
    have hbq:=b2p (((p.1+1:Nat):Int),((p.2/2:Nat):Int))
    haveI i1:eB ((p.1:Int)-1) (p.1-1):=⟨oQ⟩
    generalize 2^(D-(p.1-1))=X2 at *
    generalize 2^(D-p.1)=X1 at *
    refine W.k ?_
    (refine SW.l [] [0,1] ?_;refine dS 2 rfl (aEH rfl rfl rfl (aDO _) (aDO _) (aKT hpl)) ?_;refine SG.l [3,4,5,6,7,8,9,10,11,12,13] ?_)
    refine W.k ?_
    (refine SW.l [] [0,1,2,3,4,5,6,7,8,9,10] ?_)
    refine W.k ?_
    (refine SW.l [30] [0,1,2,3,4,5,6,7,8,9,10,11,12,13,14,15,16,17,18,19,20,21,22,23,24,25,26,27] ?_;refine aX 28 ?_)
    refine aF hnode ?_
    rintro _ Hb3 ⟨rfl,hB3⟩
    (refine SL.l [29] ?_;refine bL 30 ?_;refine W.i ?_;refine SS.dn ?_)
    rw [hset]
    refine W.k ?_
    refine W.cw (aNA p.1 p.2 oQ oQ) ?_;intro b_
    refine aF (aHy yS aEg hQ2 [(((p.1+1:Nat):Int),((p.2/2:Nat):Int))] (.slice (some ⟨b_,0,none⟩) 1 1) (by simp only [cN];omega) (by simp only [cN];omega)) ?_ rfl (fun w2 hs=>?_)
    rotate_left
    ·rw [dE,List.flatMap_nil,aG]
     exact Rd.own (Hc:=Hq3) (Sl.own 334 2 b_ (len:=1) (xs:=tc (((p.1+1:Nat):Int),((p.2/2:Nat):Int))) rfl) hs inferInstance
    rintro _ Hq4 ⟨rfl,hQ4⟩
    have hQ5:nK qp fBl jW (ws1++[⟨((p.1+1:Nat):Int),((p.2/2:Nat):Int),(nx:Int)⟩]) (nx+1) Hq4:=hQ4
    refine W.k ?_
    rw [show ((done1.length:Int)+1)=(((done1++[p]).length:Nat):Int) by simp]
    refine bS.mk ⟨ws1++[⟨((p.1+1:Nat):Int),((p.2/2:Nat):Int),(nx:Int)⟩],nx+1,p,done1++[p],xY cur1 p (oE p.1 p.2 (cur1 (p.1-1) (2*p.2)) (cur1 (p.1-1) (2*p.2+1))),[],Ha++((rb,cl (cbs (uT (xY cur1 (p.1,p.2) (oE p.1 p.2 (cur1 (p.1-1) (2*p.2)) (cur1 (p.1-1) (2*p.2+1)))) D p.1).flatten++rj) 91)::Hz),Hq4,Hb3,s2.add (wK p.1 p.2 (cur1 (p.1-1) (2*p.2)) (cur1 (p.1-1) (2*p.2+1)))⟩ ?_
    refine⟨⟨hb3,h32n,hB3⟩,⟨hQ5,fun z hz=>?_⟩,hsi2,?_,?_⟩
    ·rcases bJ.1 hz with h|h
     ·exact hNN2 z h
     ·rw [bW] at h;subst h;exact⟨by dsimp only;omega,by dsimp only;omega⟩
    ·dsimp only
     rw [aB,aB,cN,cN]
     omega
    ·dsimp only
     rw [aB,cN]
     omega
end
structure So where
 es:List UInt64
 lv:LL
 w:Bool
 st:Int
abbrev Ss:=Dv×Rg×So
abbrev Ks(p:Nat)(k:Nat):Nat:=1+Gm.epochs p+k
def dT(X:UInt64->Nat->LB->LB)(c:UInt64)(l:List Ent):List Ent:=l.map fun x=>(x.1,X c x.1.toNat x.2)
def lM(p:Nat)(l:List Ent):List (Int×LB):=l.map fun x=>(((Ks p x.1.toNat:Nat):Int),Sha.sum (fV (Ks p x.1.toNat) x.2))
def oI(es:List UInt64)(ts:List Nat):List (Int×LB):=ts.map fun t=>(((1+t:Nat):Int),Sha.sum (fV (1+t) (epB t es)))
def oJ(p:Nat)(es:List UInt64)(l:List Ent):List (Int×LB):=lM p l++oI es (dA l)
def uO(c:UInt64)(l:List Ent):LL:=lO c l::l.map Prod.snd
def pH(p:Nat)(c:UInt64)(l:List Ent):DS:=(putL (gB (Gm.leaves p) (uO c l))).and feS
def aAk(p:Nat)(es:List UInt64)(l:List Ent):List (Nat×LB):=(l.map fun x=>(Ks p x.1.toNat,x.2))++(dA l).map fun t=>(1+t,epB t es)
def uN(p:Nat)(es:List UInt64)(l:List Ent):DS:=(putL (aAk p es l)).and feS
def kV(p:Nat)(c:UInt64)(l:List Ent)(x:Ss):Int×Ss:=
 let es:=eD c x.2.2.es l
 let lv:=jE x.2.2.lv (oJ p es l)
 let a:=((pH p c l).t.and (jX ⟨(c.toNat:Int),fN lv⟩)) (x.1,x.2.1)
 if a.1≠0 then (a.1,a.2.1,a.2.2,{ x.2.2 with st:=8 }) else
 let b:=((uN p es l).and (fU (Gm.leaves p) (1+l.length))) a.2.1
 if b.1≠0 then (b.1,b.2,a.2.2,⟨es,lv,x.2.2.w,8⟩) else (0,b.2,a.2.2,⟨es,lv,x.2.2.w,x.2.2.st⟩)
def nA(p t:Nat)(r:Rg)(s:So)(l:List Ent):Int:=
 if s.st≠0 then s.st else if s.w=false then 29 else if r.c=18446744073709551615 then 21 else if t<l.length then 28 else if l≠[]/\nE p (-1) l=false then 1 else 0
def cmS(p t:Nat)(X:UInt64->Nat->LB->LB)(l:List Ent)(x:Ss):Int×Ss:=
 if nA p t x.2.1 x.2.2 l≠0 then (nA p t x.2.1 x.2.2 l,x) else if l=[] then (0,x) else
 kV p (UInt64.ofNat (x.2.1.c+1).toNat) (dT X (UInt64.ofNat (x.2.1.c+1).toNat) l) x
def rdS(p:Nat)(X:UInt64->Nat->LB->LB)(k:Int)(C:Dv)(s:So):Int×LB×So:=
 if s.st≠0 then (s.st,[],s) else if ¬ (0<=k/\k<(Gm.sealed p:Nat)) then (3,[],s) else
 if C.down=true then (8,[],{ s with st:=8 }) else
 if Sha.sum (fV (Ks p k.toNat) (C.blk (Ks p k.toNat)))≠mK s.lv (Ks p k.toNat) then (20,[],{ s with st:=20 }) else
 (0,X (s.es.getD k.toNat 0) k.toNat (C.blk (Ks p k.toNat)),s)
theorem mS(X:UInt64->Nat->LB->LB)(c:UInt64)(l:List Ent):(dT X c l).length=l.length:=aC ..
theorem lR(c:UInt64)(l:List Ent):∀ es:List UInt64,(eD c es l).length=es.length:=by
 unfold eD;induction l with
 | nil=>intro es;rfl
 | cons x l ih=>intro es;rw [fC,ih,cE]
theorem aBV(p:Nat)(c:UInt64)(l:List Ent):(pH p c l).Wl:=(iZ _).and yW
theorem aEu(p:Nat)(es:List UInt64)(l:List Ent):(uN p es l).Wl:=(iZ _).and yW
section
attribute [local irreducible] SW SL SQ SH SA SS Pu Fin bS aN
open Pq
theorem aJ4(r:LL)(hr:D32 r)(h1:1<=r.length)(hn:r.length<=1099511627)(v:Value):Tri prog 212 [v] [] (fun w=>Rd [] w 32 v (cbs r.flatten)) (fun o H=>Sl 91 32 o (cbs r.flatten) H):=by
 refine Tri.mt func212 ntmps212 fun w hw=>?_;have hw2:=hw;obtain⟨a,cap,rfl,hc,hg⟩:=hw.row hr;obtain⟨b,o,l,T,fz,rfl,-⟩:=hg 0 _ (aA oQ);have hfl:(cbs r.flatten).length=r.length*32:=by rw [aI,dH hr]
 refine W.k fun b_=>?_;refine W.ap (ys:=cbs r.flatten) (mm:=r.length) (Sl.own 91 32 b_ (len:=0) (xs:=[]) rfl) (fun w2 hs=>hw2.srcAt hs) (fun v1 H1 hv1=>?_) (hys:=hfl) (hbytes:=by rw [hfl];simp;omega);have h11:=hv1.isOne;rw [List.nil_append] at hv1;refine W.k ?_;refine Fin.to H1 ?_;exact F.f1 hv1
theorem jI.snocSl{vs:LV}{L:List LL}{H H1:Hp}(h:jI vs L H){v:Value}{r:LL}(hv:Sl 91 32 v (cbs r.flatten) H1)(hr:D32 r)(hp:1<=r.length):jI (vs++[v]) (L++[r]) (H++H1):=by
 rcases hv with ⟨rfl,h2,rfl⟩|⟨b,len,cap,junk,rfl,hx,hj,hlc,rfl⟩
 ·have h3:=congrArg List.length h2;rw [aI,dH hr,List.length_nil] at h3;omega
 obtain rfl:len=r.length:=by rw [aI,dH hr] at hx;omega
 exact h.snoc ⟨b,cap,junk,r⟩ ⟨hr,by dsimp only;omega,hlc⟩
theorem b1s(a:Option Addr)(l c:Nat):bV (fun i=>some (i*1,1)) (zs [.slice none 0 0] 1) [(0,.slice a l c)]=some [.slice a l c]:=rfl
structure CS where
 d:Nat
 lv:Value
 vs:LV
 Hl:Hp
 Hw:Hp
theorem aJB{t b:Nat}{l:LL}{Ht:Hp}(hT:rJ t b l Ht)(hl:D32 l)(h1:1<=l.length)(h2:l.length<=1024):Tri prog 152 [.pointer (some ⟨t,0,none⟩)] Ht NT (fun v H'=>∃ c Hc,v=.pointer (some ⟨c,0,none⟩)/\H'=Ht++Hc/\rJ c b l Hc):=by
 have hd10:=uF (n:=l.length) (k:=10) (by simpa using h2);obtain⟨lb,lc,vs,lj,Hw,rfl,hrw,hvl,hlc⟩:=hT.open (by simp [lD]);have hLl:(lD l (dep l.length) (dep l.length+1)).length=dep l.length+1:=by simp [lD]
 rw [hLl] at hlc hvl |-;unfold rJ;refine Tri.mt func152 ntmps152 fun w hw=>?_;generalize hD:dep l.length=D at *;have hbf:bV (fun i=>[(0,1),(1,1),(2,1)][i]?) ([.pointer none]++[.int .i64 0]++[.slice none 0 0]) [(0,.pointer (some ⟨b,0,none⟩)),(1,.int .i64 (l.length:Int))]=some [.pointer (some ⟨b,0,none⟩),.int .i64 (l.length:Int),.slice none 0 0]:=rfl;refine W.k ?_;(refine SW.l [9] [0,1,2,3,4,5,6,7,8] ?_;refine bL 9 ?_;refine W.i fun b_=>?_;refine SG.l [10,11] ?_);refine W.j ?_;refine bP [3] [(b_,cl [.pointer (some ⟨b,0,none⟩),.int .i64 (l.length:Int),.slice none 0 0] 297)] (fun x:CS=>[]) (fun x=>(b_,cl [.pointer (some ⟨b,0,none⟩),.int .i64 (l.length:Int),x.lv] 297)::(x.Hl++x.Hw)) (fun x=>Sl 294 1 x.lv x.vs x.Hl/\jI x.vs (lD l D (D+1)) x.Hw) ?_ ?_;rotate_left
 ·rintro⟨d,lv,vs2,Hl,Hw2⟩ ⟨hlv,hrw2⟩;dsimp only at hlv hrw2 |-;refine W.k ?_;refine Fin.to (((t,cl [.pointer (some ⟨b,0,none⟩),.int .i64 (l.length:Int),.slice (some ⟨lb,0,none⟩) (D+1) lc] 297)::([(lb,cl (vs++lj) 294)]++Hw))++((b_,cl [.pointer (some ⟨b,0,none⟩),.int .i64 (l.length:Int),lv] 297)::(Hl++Hw2))) ?_;refine F.f1 ?_;exact⟨b_,_,rfl,rfl,lv,vs2,Hl,Hw2,rfl,hlv,hrw2⟩
 refine W.k ?_;refine bE [3,21,22] (fun x:CS=>[(23,.int .i64 (x.d:Int))]) (fun x=>(b_,cl [.pointer (some ⟨b,0,none⟩),.int .i64 (l.length:Int),x.lv] 297)::(x.Hl++x.Hw)) (fun x=>D+1-x.d) (fun x=>x.d<=D+1/\Sl 294 1 x.lv x.vs x.Hl/\jI x.vs (lD l D x.d) x.Hw) ⟨0,.slice none 0 0,[],[],[]⟩ ⟨Nat.zero_le _,Sl.nil _ _,jI.nil⟩ ?_;rintro⟨d,lv,vs2,Hl,Hw2⟩ ⟨hd,hlv,hrw2⟩;dsimp only at hd hlv hrw2 |-;have hv1:=hlv.isOne;by_cases hdD:d<D+1
 ·have hXm:2^(D-d)<=1024:=dD (n:=2) oQ (show D-d<=10 by omega);have hXp:0<2^(D-d):=Nat.pow_pos oQ;have hrl:=wR l D d;have hr32:=aEV hl D d;obtain⟨rb,rc,rj,hv,hat,-,hrc⟩:=hrw.get (aBp l (D:=D) hdD);have hv2:=xA (lj:=lj) hv;have hcl:=aJ4 (qT l D d) hr32 oQ oQ (.slice (some ⟨rb,0,none⟩) (qT l D d).length rc);have hnx:=zH l D d;have hrl2:=hrw2.len;have hlen2:vs2.length=d:=by rw [hrl2];simp [lD]
  have hfl:(cbs (qT l D d).flatten).length=(qT l D d).length*32:=by rw [aI,dH hr32]
  generalize qT l D d=R at *;refine W.k ?_;(refine SW.l [8,11] [0,1,2,3,4,5] ?_;refine aX 6 ?_);refine aF hcl ?_ rfl (fun w2 hs=>?_);rotate_left
  ·exact Rd.at (T:=91) (fz:=(0,0)) [] hs (l:=cbs R.flatten++rj) (o:=0) (by rw [bQ,<-hfl,cT];rfl) hfl hrc
  intro cv H1 hcv;have hcv1:=hcv.isOne;obtain⟨ca,cl2,cc,rfl,-⟩:=hcv.form;have hrn:=hrw2.snocSl hcv hr32 oQ;rw [hnx] at hrn;(refine bB [] ?_;refine aX 7 ?_);refine iQ (fun b7=>?_) (hr:=b1s ..);(refine bB [] ?_;refine bL 8 ?_);refine W.ap (ys:=[.slice ca cl2 cc]) (mm:=1) hlv (fun w2 hs=>(Sl.own 294 1 b7 (xs:=[.slice ca cl2 cc]) rfl).srcAt hs inferInstance) (fun lv2 Hl2 hv3=>?_) (hys:=rfl) (hbytes:=by simp;omega);have h21:=hv3.isOne;(refine SL.l [9,10] ?_;refine bL 11 ?_;refine W.i ?_;refine SS.dn ?_);rw [show ([.pointer (some ⟨b,0,none⟩),.int .i64 (l.length:Int),lv]:LV).set 2 lv2=[.pointer (some ⟨b,0,none⟩),.int .i64 (l.length:Int),lv2] from rfl];refine W.k ?_;refine aN.mk ⟨d+1,lv2,vs2++[.slice ca cl2 cc],Hl2,Hw2++H1⟩ ?_;exact⟨hdD,hv3,hrn⟩
 have hd2:d=D+1:=oQ;subst hd2;refine W.k ?_;refine bS.mk ⟨D+1,lv,vs2,Hl,Hw2⟩ ?_;exact⟨hlv,hrw2⟩
end
end Go.Proofs.YtdfclocfackkmaaGreat
