/- The rows that the library keeps as a heap. The library's heap. The queue. What the queue does. -/
import Derived.Test.YtdfclocfackkmaaGreatPm1
import Derived.Test.YtdfclocfackkmaaGreatPm26
set_option linter.unusedVariables false
set_option linter.unusedSimpArgs false
set_option linter.unusedSectionVars false
set_option maxHeartbeats 1600000
namespace Go.Proofs.YtdfclocfackkmaaGreat
open Go Go.Proofs.Tryz
section
attribute [local irreducible] SW SL SQ SH SA SS Pu Fin bS aN
open Pq
def sxc(s:Sx):LV:=[.int .i64 s.a,.int .i64 s.b,.int .i64 s.num]
instance(s:Sx):OC (sxc s):=by unfold sxc;infer_instance
abbrev rwc(v:Value)(fl:FuncId):LV:=[v,.func (.func fl) #[] #[]]
def jV(rp:Nat)(fl:FuncId)(l:List Sx)(H:Hp):Prop:=∃ v Hs,Sl 376 3 v (l.flatMap sxc) Hs/\H=(rp,cl (rwc v fl) 370)::Hs
theorem kO(l:List Sx):(l.flatMap sxc).length=l.length*3:=by
 induction l with
 | nil=>rfl
 | cons x l ih=>rw [dE,aB,ih,aW];show 3+_=_;omega
theorem aA0(l:List Sx)(J:LV){k:Nat}{x:Sx}(h:l[k]?=some x):((l.flatMap sxc++J).drop (k*3)).take 3=sxc x:=by
 induction l generalizing k with
 | nil=>simp at h
 | cons y l ih=>
  rw [dE]
  cases k with
  | zero=>
   simp at h;subst h
   rw [jM,bQ,aT,cT];rfl
  | succ k=>
   rw [show (k+1)*3=3+k*3 by omega,<-cG,aT,eR (show (sxc y).length=3 from rfl)]
   exact ih (by simpa using h)
theorem aHM(l:List Sx)(J:LV){k:Nat}(x:Sx)(h:k<l.length):(l.flatMap sxc++J).take (k*3)++sxc x++(l.flatMap sxc++J).drop (k*3+3)=(l.set k x).flatMap sxc++J:=by
 have hl:((l.take k).flatMap sxc).length=k*3:=by rw [kO,aH,cO oQ]
 have e:l.flatMap sxc=(l.take k).flatMap sxc++(sxc l[k]++(l.drop (k+1)).flatMap sxc):=by conv=>lhs;rw [<-dF k l,cP,bK h,dE]
 have e2:(l.set k x).flatMap sxc=(l.take k).flatMap sxc++(sxc x++(l.drop (k+1)).flatMap sxc):=by rw [fY,if_pos h,cP,dE]
 rw [e,e2];simp only [aT];rw [cT hl,<-cG,eR hl,eR (show (sxc l[k]).length=3 from rfl)]
def aE9(fl:FuncId)(less:Int×Int->Int×Int->Bool):Prop:=∀ x y:Int×Int,Tri prog fl [.agg [(.int .i64 x.1:Value),.int .i64 x.2].toArray,.agg [(.int .i64 y.1:Value),.int .i64 y.2].toArray] [] NT (fun v H=>v=.bool (less x y)/\H=[])
theorem aHh{rp:Nat}{fl:FuncId}{l:List Sx}{H:Hp}(h:jV rp fl l H):Tri prog 287 [.pointer (some ⟨rp,0,none⟩)] H NT (fun v H'=>v=.int .i64 (l.length:Int)/\H'=H):=by obtain⟨v,Hs,hv,rfl⟩:=h;refine Tri.mt func287 ntmps287 fun w hw=>?_;obtain⟨a,len,cap,rfl,hl⟩:=hv.form;rw [kO] at hl;have:l.length=len:=oQ;rw [this];refine W.k ?_;exact F.f1 ⟨rfl,rfl⟩
theorem aAw{rp:Nat}{fl:FuncId}{l:List Sx}{H:Hp}(h:jV rp fl l H){i j:Nat}{x y:Sx}(hi:l[i]?=some x)(hj:l[j]?=some y):Tri prog 321 [.pointer (some ⟨rp,0,none⟩),.int .i64 (i:Int),.int .i64 (j:Int)] H NT (fun v H'=>v=.tuple #[]/\jV rp fl ((l.set i y).set j x) H'):=by
 obtain⟨v,Hs,hv,rfl⟩:=h;refine Tri.mt func321 ntmps321 fun w hw=>?_;have hil:=(aD.1 hi).1;have hjl:=(aD.1 hj).1;rcases hv with ⟨rfl,hx,-⟩|⟨b,len,cap,J,rfl,hx,hJ,hlc,rfl⟩
 ·have:=kO l;rw [hx] at this;simp at this;omega
 rw [kO] at hx;have hlen:l.length=len:=oQ;have g1:=aA0 l J hi;have g2:=aA0 l J hj;have s1:=aHM l J y hil;have s2:=aHM (l.set i y) J x (k:=j) (by rw [cE];exact hjl);have l1:i*3+3<=(l.flatMap sxc++J).length:=by rw [aB,kO];omega
 have l2:j*3+3<=((l.set i y).flatMap sxc++J).length:=by rw [aB,kO,cE];omega
 have hx3:(sxc x).length=3:=rfl;have hy3:(sxc y).length=3:=rfl;generalize l.flatMap sxc++J=A at g1 g2 s1 l1 |-;(refine SW.l [25,27] [0,1,2,3,4,5,6,7,8,9,10,11,12,13,14,15,16,17,18,19,20,21,22,23,24] ?_;skip);refine bL 25 ?_;refine W.sa ?_;rw [s1];generalize hB:(l.set i y).flatMap sxc++J=B at s2 l2 |-;(refine SL.l [26] ?_;refine bL 27 ?_;refine W.i ?_;refine SS.dn ?_);rw [s2];refine F.f0 ?_;refine⟨rfl,_,[(b,cl (((l.set i y).set j x).flatMap sxc++J) 376)],.inr ⟨b,len,cap,J,rfl,?_,hJ,hlc,rfl⟩,rfl⟩;rw [kO,cE,cE,hlen]
instance conS:aIw prog 376:=⟨⟨_,underlying376,rfl⟩⟩
instance conR:aIw prog 367:=⟨⟨_,underlying367,rfl⟩⟩
abbrev sxv(s:Sx):Value:=.iface 376 (.agg (sxc s).toArray)
theorem aMK{rp:Nat}{fl:FuncId}{l:List Sx}{H:Hp}(h:jV rp fl l H)(x:Sx)(hn:l.length<=1000000):Tri prog 320 [.pointer (some ⟨rp,0,none⟩),sxv x] H NT (fun v H'=>v=.tuple #[]/\jV rp fl (l++[x]) H'):=by
 obtain⟨v,Hs,hv,rfl⟩:=h;refine Tri.mt func320 ntmps320 fun w hw=>?_;have hv1:=hv.isOne;have hx3:(sxc x).length=3:=rfl;have hb:bV (fun i=>some (i*3,3)) (zs [.int .i64 0,.int .i64 0,.int .i64 0] 1) [(0,.agg (sxc x).toArray)]=some (sxc x):=rfl;refine W.k ?_;refine aPK ?_;refine W.k fun b_=>?_;(refine SW.l [7,10] [0,1,2,3,4,5] ?_;refine aX 6 ?_);refine iQ (rv:=sxc x) (fun b6=>?_) (hr:=by exact hb);(refine bB [] ?_;refine bL 7 ?_);refine W.ap hv (ys:=sxc x) (mm:=1) (fun w2 hs=>eQ.block (l:=sxc x) hs.at rfl rfl) (fun v2 H2 h2=>?_) (hys:=rfl) (hbytes:=by rw [kO];show (_+3)*_<=_;omega);have h21:=h2.isOne;(refine SL.l [8,9] ?_;refine bL 10 ?_;refine W.i ?_;refine SS.dn ?_);refine W.k ?_;rw [show (rwc v fl).set 0 v2=rwc v2 fl from rfl];refine Fin.to ((rp,cl (rwc v2 fl) 370)::H2) ?_;refine F.f0 ?_;refine⟨rfl,v2,H2,?_,rfl⟩;have e:(l++[x]).flatMap sxc=l.flatMap sxc++sxc x:=by simp
 rw [e];exact h2
theorem aOQ{rp:Nat}{fl:FuncId}{l:List Sx}{H:Hp}{x:Sx}(h:jV rp fl (l++[x]) H)(hn:l.length<=1000000):Tri prog 319 [.pointer (some ⟨rp,0,none⟩)] H NT (fun v H'=>v=sxv x/\jV rp fl l H'):=by
 obtain⟨v,Hs,hv,rfl⟩:=h;refine Tri.mt func319 ntmps319 fun w hw=>?_;rcases hv with ⟨rfl,hx,-⟩|⟨b,len,cap,J,rfl,hx,hJ,hlc,rfl⟩
 ·have:=kO (l++[x]);rw [hx] at this;simp at this
 rw [kO,aB,cN] at hx;have hlen:l.length+1=len:=oQ;subst hlen;have g1:=aA0 (l++[x]) J (k:=l.length) (x:=x) (by simp);have hx3:(sxc x).length=3:=rfl;have hA:(l++[x]).flatMap sxc++J=l.flatMap sxc++(sxc x++J):=by simp [aT]
 haveI i1:eB (((l.length+1:Nat):Int)-1) l.length:=⟨oQ⟩;generalize (l++[x]).flatMap sxc++J=A at g1 hA |-;refine W.k fun b_=>?_;refine W.mi ?_;refine W.k ?_;rw [show (rwc (.slice (some ⟨b,0,none⟩) (l.length+1) cap) fl).set 0 (.slice (some ⟨b,0,none⟩) l.length cap)=rwc (.slice (some ⟨b,0,none⟩) l.length cap) fl from rfl,hA];refine Fin.to ((rp,cl (rwc (.slice (some ⟨b,0,none⟩) l.length cap) fl) 370)::[(b,cl (l.flatMap sxc++(sxc x++J)) 376)]) ?_;refine F.f1 ?_;refine⟨rfl,_,_,.inr ⟨b,l.length,cap,sxc x++J,rfl,kO l,?_,oQ,rfl⟩,rfl⟩;rw [aB,hx3];omega
theorem aAv{rp:Nat}{fl:FuncId} [bC prog fl]{less:Int×Int->Int×Int->Bool}(hL:aE9 fl less){l:List Sx}{H:Hp}(h:jV rp fl l H){i j:Nat}{x y:Sx}(hi:l[i]?=some x)(hj:l[j]?=some y):Tri prog 318 [.pointer (some ⟨rp,0,none⟩),.int .i64 (i:Int),.int .i64 (j:Int)] H NT (fun v H'=>v=.bool (lts less x y)/\H'=H):=by
 obtain⟨v,Hs,hv,rfl⟩:=h;refine Tri.mt func318 ntmps318 fun w hw=>?_;have hil:=(aD.1 hi).1;have hjl:=(aD.1 hj).1;rcases hv with ⟨rfl,hx,-⟩|⟨b,len,cap,J,rfl,hx,hJ,hlc,rfl⟩
 ·have:=kO l;rw [hx] at this;simp at this;omega
 rw [kO] at hx;have hlen:l.length=len:=oQ;have g1:=aA0 l J hi;have g2:=aA0 l J hj;have hx3:(sxc x).length=3:=rfl;have hy3:(sxc y).length=3:=rfl;obtain⟨A,hAe⟩:∃ A,A=l.flatMap sxc++J:=⟨_,rfl⟩;rw [<-hAe] at g1 g2 |-;refine W.k ?_;refine bP [0,1,2] [] (fun q:Nat×Nat=>[(7,.pointer (some ⟨q.1,0,none⟩)),(8,.pointer (some ⟨q.2,0,none⟩))]) (fun q=>[(q.1,cl (sxc x) 376),(q.2,cl (sxc y) 376)]) NT ?_ ?_
 ·(refine SW.l [17] [0,1,2,3,4,5,6,7,8,9,10,11,12,13] ?_;skip );refine iV 14 15 ?_ ?_ rfl rfl
  ·refine W.al fun b7=>?_;refine dU ?_;refine aX 15 ?_;refine W.al fun b8=>?_;(refine bB [] ?_;refine aX 16 ?_;refine W.i ?_;refine bL 17 ?_;refine W.i ?_;refine SS.dn ?_);exact bS.mk (b7,b8) trivial
  refine W.al fun b8=>?_;refine dU ?_;refine aX 14 ?_;refine W.al fun b7=>?_;(refine bB [] ?_;refine aX 16 ?_;refine W.i ?_;refine bL 17 ?_;refine W.i ?_;refine SS.dn ?_);exact bS.mk (b7,b8) trivial
 rintro⟨b7,b8⟩ -;dsimp only;have fx:((sxc x).drop 0).take 2=[.int .i64 x.a,.int .i64 x.b]:=rfl;have fy:((sxc y).drop 0).take 2=[.int .i64 y.a,.int .i64 y.b]:=rfl;have nx:(sxc x)[2]?=some (.int .i64 x.num):=rfl;have ny:(sxc y)[2]?=some (.int .i64 y.num):=rfl;have k1:=hL (x.a,x.b) (y.a,y.b);have k2:=hL (y.a,y.b) (x.a,x.b);have hR:jV rp fl l ((rp,cl (rwc (.slice (some ⟨b,0,none⟩) len cap) fl) 370)::[(b,cl A 376)]):=⟨_,_,.inr ⟨b,len,cap,J,rfl,by rw [kO];omega,hJ,hlc,by rw [hAe]⟩,rfl⟩;generalize sxc x=SX at fx nx hx3 |-;generalize sxc y=SY at fy ny hy3 |-;refine W.k ?_;(refine SW.l [8] [0,1,2,3,4,5,6,7] ?_;refine bL 8 ?_);refine dN [] rfl rfl rfl rfl rfl rfl k1 (fun _ _=>trivial) ?_;rintro _ _ ⟨rfl,rfl⟩;cases q1:less (x.a,x.b) (y.a,y.b) with
 | true=>
  have e:lts less x y=true:=by unfold lts;rw [q1];rfl
  (refine SL.l [9,10] ?_)
  refine W.k ?_
  rw [e]
  refine Fin.to ((rp,cl (rwc (.slice (some ⟨b,0,none⟩) len cap) fl) 370)::[(b,cl A 376)]) ?_
  exact F.f1 ⟨rfl,rfl⟩
 | false=>
  (refine SL.l [9,10] ?_)
  refine W.k ?_
  (refine SW.l [8] [0,1,2,3,4,5,6,7] ?_;refine bL 8 ?_)
  refine dN [] rfl rfl rfl rfl rfl rfl k2 (fun _ _=>trivial) ?_
  rintro _ _ ⟨rfl,rfl⟩
  cases q2:less (y.a,y.b) (x.a,x.b) with
  | true=>
   have e:lts less x y=false:=by unfold lts;rw [q1,q2];rfl
   (refine SL.l [9,10] ?_)
   refine W.k ?_
   rw [e]
   refine Fin.to ((rp,cl (rwc (.slice (some ⟨b,0,none⟩) len cap) fl) 370)::[(b,cl A 376)]) ?_
   exact F.f1 ⟨rfl,rfl⟩
  | false=>
   have e:lts less x y=decide (x.num<y.num):=by unfold lts;rw [q1,q2];rfl
   (refine SL.l [9,10] ?_)
   by_cases hlt:x.num<y.num
   ·rw [e,decide_eq_true hlt]
    refine W.k ?_
    refine Fin.to ((rp,cl (rwc (.slice (some ⟨b,0,none⟩) len cap) fl) 370)::[(b,cl A 376)]) ?_
    exact F.f1 ⟨rfl,rfl⟩
   ·rw [e,decide_eq_false hlt]
    refine W.k ?_
    refine Fin.to ((rp,cl (rwc (.slice (some ⟨b,0,none⟩) len cap) fl) 370)::[(b,cl A 376)]) ?_
    exact F.f1 ⟨rfl,rfl⟩
abbrev gt(l:List Sx):Nat->Sx:=fun k=>l.getD k default
theorem aPT{l:List Sx}{k:Nat}{x:Sx}(h:l[k]?=some x):gt l k=x:=by simp [gt,List.getD,h]
theorem aAi{l:List Sx}{k:Nat}(h:k<l.length):l[k]?=some (gt l k):=by simp [gt,List.getD,aA h]
theorem wE{l:List Sx}{i j:Nat}(hi:i<l.length)(hj:j<l.length):gt ((l.set i (gt l j)).set j (gt l i))=swp (gt l) i j:=by
 funext k;unfold swp gt;simp only [aE];rw [dW,dW,cE];by_cases e1:k=i
 ·subst e1;by_cases e2:j=k
  ·subst e2;simp [hj]
  simp [e2,hi]
 by_cases e2:k=j
 ·subst e2;simp [e1,hj]
 simp [e1,e2,Ne.symm e1,Ne.symm e2]
theorem tW{l:List Sx}{i j:Nat}(hi:i<l.length)(hj:j<l.length):((l.set i (gt l j)).set j (gt l i)).Perm l:=by
 have h1:gt l i=l[i]:=by simp [gt,List.getD,aA hi]
 have h2:gt l j=l[j]:=by simp [gt,List.getD,aA hj]
 rw [h1,h2];exact List.set_set_perm hi hj
abbrev ifv(rp:Nat):Value:=.iface 367 (.pointer (some ⟨rp,0,none⟩))
set_option maxRecDepth 100000 in
instance mLen : aFa prog 367 "Len" 287 := ⟨⟨_, underlying367⟩, by refine ⟨_, _, rfl, rfl, rfl, rfl⟩⟩
set_option maxRecDepth 100000 in
instance mLess : aFa prog 367 "Less" 318 := ⟨⟨_, underlying367⟩, by refine ⟨_, _, rfl, rfl, rfl, rfl⟩⟩
set_option maxRecDepth 100000 in
instance mSwap : aFa prog 367 "Swap" 321 := ⟨⟨_, underlying367⟩, by refine ⟨_, _, rfl, rfl, rfl, rfl⟩⟩
set_option maxRecDepth 100000 in
instance mPush : aFa prog 367 "Push" 320 := ⟨⟨_, underlying367⟩, by refine ⟨_, _, rfl, rfl, rfl, rfl⟩⟩
set_option maxRecDepth 100000 in
instance mPop : aFa prog 367 "Pop" 319 := ⟨⟨_, underlying367⟩, by refine ⟨_, _, rfl, rfl, rfl, rfl⟩⟩
section
variable {fl:FuncId} [hfl:bC prog fl]{less:Int×Int->Int×Int->Bool}(hO:Ord (Int×Int) less)(hL:aE9 fl less)
include hO hL
theorem aPV{rp:Nat}{l:List Sx}{H:Hp}(h:jV rp fl l H)(j:Nat)(hj:j<l.length)(hn:l.length<=1000000)(hU:UpI (lts less) (gt l) j l.length):Tri prog 278 [ifv rp,.int .i64 (j:Int)] H NT (fun v H'=>v=.tuple #[]/\∃ l',jV rp fl l' H'/\l'.Perm l/\HeapN (lts less) (gt l') l'.length):=by
 have hS:=lts_ord hO;refine Tri.mt func278 ntmps278 fun w hw=>?_;refine W.k ?_;refine bE [0] (fun x:Nat×List Sx×Hp=>[(1,.int .i64 (x.1:Int))]) (fun x=>x.2.2) (fun x=>x.1) (fun x=>jV rp fl x.2.1 x.2.2/\x.1<x.2.1.length/\x.2.1.Perm l/\UpI (lts less) (gt x.2.1) x.1 x.2.1.length) (j,l,H) ⟨h,hj,List.Perm.refl _,hU⟩ ?_;rintro⟨j,k,H⟩ ⟨h,hj,hp,hU⟩;dsimp only at h hj hp hU |-;have hkl:=hp.length_eq;by_cases h0:j=0
 ·subst h0;refine W.k ?_;refine bN (aCN (r:=0) rfl rfl rfl dQ rfl) rfl rfl ?_;refine W.k ?_;refine Fin.to H ?_;exact F.f0 ⟨rfl,k,h,hp,up_zero hU⟩
 obtain⟨i,hi⟩:∃ i,i=(j-1)/2:=⟨_,rfl⟩;have hij:i<j:=oQ;have hii:((j:Int)-1)/2=(i:Int):=oQ;have gj:=aAi hj;have gi:=aAi (show i<k.length by omega);refine W.k ?_;rw [hii];refine sC (aAv hL h gj gi) ?_;rintro _ H1 ⟨rfl,rfl⟩;cases hlt:lts less (gt k j) (gt k i) with
 | false=>
  refine W.k ?_
  refine Fin.to H1 ?_
  exact F.f0 ⟨rfl,k,h,hp,up_done hU (by rw [<-hi];exact hlt)⟩
 | true=>
  refine W.k ?_
  refine sC (aAw h gi gj) ?_
  rintro _ H2 ⟨rfl,h2⟩
  have hst:=up_step hS hU oQ hj (by rw [<-hi];exact hlt)
  rw [<-hi,<-wE oQ hj] at hst
  have hp2:=tW (l:=k) (i:=i) (j:=j) oQ hj
  generalize ((k.set i (gt k j)).set j (gt k i))=k2 at h2 hst hp2
  have hl2:=hp2.length_eq
  refine W.k ?_
  refine aN.mk (i,k2,H2) ?_
  exact⟨h2,by dsimp only;omega,hp2.trans hp,by dsimp only;rw [hl2];exact hst⟩
theorem aMk{rp:Nat}{l:List Sx}{H:Hp}(h:jV rp fl l H)(n:Nat)(hn0:n<l.length)(hn:l.length<=1000000)(hD:DnI (lts less) (gt l) 0 n):Tri prog 280 [ifv rp,.int .i64 0,.int .i64 (n:Int)] H NT (fun v H'=>∃ l',jV rp fl l' H'/\l'.Perm l/\gt l' n=gt l n/\HeapN (lts less) (gt l') n):=by
 have hS:=lts_ord hO;refine Tri.mt func280 ntmps280 fun w hw=>?_;refine W.j ?_;refine bP [0,1,2] H (fun x:Int×List Sx×Hp=>[(7,.int .i64 x.1)]) (fun x=>x.2.2) (fun x=>jV rp fl x.2.1 x.2.2/\x.2.1.Perm l/\gt x.2.1 n=gt l n/\HeapN (lts less) (gt x.2.1) n) ?_ ?_
 ·refine W.k ?_;refine bE [0,1,2] (fun x:Nat×List Sx×Hp=>[(7,.int .i64 (x.1:Int))]) (fun x=>x.2.2) (fun x=>n-x.1) (fun x=>jV rp fl x.2.1 x.2.2/\(x.1=0\/x.1<n)/\x.2.1.Perm l/\gt x.2.1 n=gt l n/\DnI (lts less) (gt x.2.1) x.1 n) (0,l,H) ⟨h,.inl rfl,List.Perm.refl _,rfl,hD⟩ ?_;rintro⟨i,k,H⟩ ⟨h,hi,hp,hgn,hD⟩;dsimp only at h hi hp hgn hD |-;have hkl:=hp.length_eq;by_cases hb:n<=2*i+1
  ·refine W.k ?_;refine bS.mk ((i:Int),k,H) ?_;exact⟨h,hp,hgn,dn_none hD hb⟩
  have g0:=aAi (l:=k) (k:=i) oQ;have g1:=aAi (l:=k) (k:=2*i+1) oQ;have z1:2*(i:Int)+1=((2*i+1:Nat):Int):=oQ;have z2:((2*i+1:Nat):Int)+1=((2*i+2:Nat):Int):=oQ;by_cases hb2:2*i+2<n
  ·have g2:=aAi (l:=k) (k:=2*i+2) oQ;refine W.k ?_;rw [z1,z2];refine sC (aAv hL h g2 g1) ?_;rintro _ H0 ⟨rfl,rfl⟩;cases h12:lts less (gt k (2*i+2)) (gt k (2*i+1)) with
   | false=>
    have hJ:DnJ (lts less) (gt k) i n (2*i+1):=⟨oQ,.inl rfl,fun q hq hqq=>by
     rcases hqq with rfl|rfl
     ·exact le_refl hS _
     ·exact h12⟩
    refine W.k ?_
    refine sC (aAv hL h g1 g0) ?_
    rintro _ H1 ⟨rfl,rfl⟩
    cases hlt:lts less (gt k (2*i+1)) (gt k i) with
    | false=>
     refine W.k ?_
     refine bS.mk ((i:Int),k,H1) ?_
     exact⟨h,hp,hgn,dn_done hS hD hJ hlt⟩
    | true=>
     refine W.k ?_
     refine sC (aAw h g0 g1) ?_
     rintro _ H2 ⟨rfl,h2⟩
     have hst:=dn_step hS hD hJ hlt
     have hjk:2*i+1<k.length:=oQ
     have hgn2:gt ((k.set i (gt k (2*i+1))).set (2*i+1) (gt k i)) n=gt k n:=by rw [wE oQ hjk,swp_o _ oQ oQ]
     rw [<-wE oQ hjk] at hst
     have hp2:=tW (l:=k) (i:=i) (j:=2*i+1) oQ hjk
     generalize ((k.set i (gt k (2*i+1))).set (2*i+1) (gt k i))=k2 at h2 hst hp2 hgn2
     refine W.k ?_
     refine aN.mk (2*i+1,k2,H2) ?_
     exact⟨h2,.inr (by dsimp only;omega),hp2.trans hp,hgn2.trans hgn,hst⟩
   | true=>
    have hJ:DnJ (lts less) (gt k) i n (2*i+2):=⟨hb2,.inr rfl,fun q hq hqq=>by
     rcases hqq with rfl|rfl
     ·exact le_of_lt hS h12
     ·exact le_refl hS _⟩
    refine W.k ?_
    refine sC (aAv hL h g2 g0) ?_
    rintro _ H1 ⟨rfl,rfl⟩
    cases hlt:lts less (gt k (2*i+2)) (gt k i) with
    | false=>
     refine W.k ?_
     refine bS.mk ((i:Int),k,H1) ?_
     exact⟨h,hp,hgn,dn_done hS hD hJ hlt⟩
    | true=>
     refine W.k ?_
     refine sC (aAw h g0 g2) ?_
     rintro _ H2 ⟨rfl,h2⟩
     have hst:=dn_step hS hD hJ hlt
     have hjk:2*i+2<k.length:=oQ
     have hgn2:gt ((k.set i (gt k (2*i+2))).set (2*i+2) (gt k i)) n=gt k n:=by rw [wE oQ hjk,swp_o _ oQ oQ]
     rw [<-wE oQ hjk] at hst
     have hp2:=tW (l:=k) (i:=i) (j:=2*i+2) oQ hjk
     generalize ((k.set i (gt k (2*i+2))).set (2*i+2) (gt k i))=k2 at h2 hst hp2 hgn2
     refine W.k ?_
     refine aN.mk (2*i+2,k2,H2) ?_
     exact⟨h2,.inr (by dsimp only;omega),hp2.trans hp,hgn2.trans hgn,hst⟩
  have hJ:DnJ (lts less) (gt k) i n (2*i+1):=⟨oQ,.inl rfl,fun q hq hqq=>by
   rcases hqq with rfl|rfl
   ·exact le_refl hS _
   omega⟩
  refine W.k ?_;rw [z1];refine sC (aAv hL h g1 g0) ?_;rintro _ H1 ⟨rfl,rfl⟩;cases hlt:lts less (gt k (2*i+1)) (gt k i) with
  | false=>
   refine W.k ?_
   refine bS.mk ((i:Int),k,H1) ?_
   exact⟨h,hp,hgn,dn_done hS hD hJ hlt⟩
  | true=>
   refine W.k ?_
   refine sC (aAw h g0 g1) ?_
   rintro _ H2 ⟨rfl,h2⟩
   have hst:=dn_step hS hD hJ hlt
   have hjk:2*i+1<k.length:=oQ
   have hgn2:gt ((k.set i (gt k (2*i+1))).set (2*i+1) (gt k i)) n=gt k n:=by rw [wE oQ hjk,swp_o _ oQ oQ]
   rw [<-wE oQ hjk] at hst
   have hp2:=tW (l:=k) (i:=i) (j:=2*i+1) oQ hjk
   generalize ((k.set i (gt k (2*i+1))).set (2*i+1) (gt k i))=k2 at h2 hst hp2 hgn2
   refine W.k ?_
   refine aN.mk (2*i+1,k2,H2) ?_
   exact⟨h2,.inr (by dsimp only;omega),hp2.trans hp,hgn2.trans hgn,hst⟩
 rintro⟨i,k,H⟩ ⟨h,hp,hgn,hH⟩;dsimp only at h hp hgn hH |-;refine W.k ?_;refine W.cr ?_;refine W.k ?_;refine Fin.to H ?_;exact F.f1 ⟨k,h,hp,hgn,hH⟩
end
theorem aG4{l:List Sx}{x:Sx}{k:Nat}(h:k<l.length):gt (l++[x]) k=gt l k:=by simp only [gt,aE];rw [aJ h]
theorem aG5{lt:Sx->Sx->Bool}{g g':Nat->Sx}{n:Nat}(h:HeapN lt g n)(he:∀ k,k<n->g' k=g k):HeapN lt g' n:=fun k h1 h2=>by
 rw [he k h2,he _ oQ]
 exact h k h1 h2
section
variable {fl:FuncId} [hfl:bC prog fl]{less:Int×Int->Int×Int->Bool}(hO:Ord (Int×Int) less)(hL:aE9 fl less)
include hO hL
theorem aLE{rp:Nat}{l:List Sx}{H:Hp}(h:jV rp fl l H)(x:Sx)(hn:l.length<1000000)(hH:HeapN (lts less) (gt l) l.length):Tri prog 259 [ifv rp,sxv x] H NT (fun v H'=>v=.tuple #[]/\∃ l',jV rp fl l' H'/\l'.Perm (l++[x])/\HeapN (lts less) (gt l') l'.length):=by
 refine Tri.mt func259 ntmps259 fun w hw=>?_;refine W.k ?_;refine sC (aMK h x oQ) ?_;rintro _ H1 ⟨rfl,h1⟩;refine W.k ?_;refine sC (aHh h1) ?_;rintro _ H2 ⟨rfl,rfl⟩;have hl:(l++[x]).length=l.length+1:=by simp
 have hU:UpI (lts less) (gt (l++[x])) l.length (l++[x]).length:=by refine⟨fun k h3 h4 h5=>?_,fun k h3 h4 h5 h6=>by omega⟩;rw [aG4 (show k<l.length by omega),aG4 (show (k-1)/2<l.length by omega)];exact hH k h3 oQ
 refine W.k ?_;have hi:((l++[x]).length:Int)-1=(l.length:Int):=oQ;rw [hi];refine aF (aPV hO hL h1 l.length oQ oQ hU) ?_;rintro _ H3 ⟨rfl,l',h3,hp,hH3⟩;refine W.k ?_;refine Fin.to H3 ?_;exact F.f0 ⟨rfl,l',h3,hp,hH3⟩
theorem aNH{rp:Nat}{l:List Sx}{H:Hp}(h:jV rp fl l H)(h0:0<l.length)(hn:l.length<=1000000)(hH:HeapN (lts less) (gt l) l.length):Tri prog 261 [ifv rp] H NT (fun v H'=>v=sxv (gt l 0)/\∃ l',jV rp fl l' H'/\(l'++[gt l 0]).Perm l/\HeapN (lts less) (gt l') l'.length):=by
 refine Tri.mt func261 ntmps261 fun w hw=>?_;obtain⟨n,hln⟩:∃ n,l.length=n+1:=⟨l.length-1,oQ⟩;have g0:=aAi (l:=l) (k:=0) oQ;have gn:=aAi (l:=l) (k:=n) oQ;have hi:(l.length:Int)-1=(n:Int):=oQ;refine W.k ?_;refine sC (aHh h) ?_;rintro _ H2 ⟨rfl,rfl⟩;refine W.k ?_;rw [hi];refine sC (aAw h g0 gn) ?_;rintro _ H3 ⟨rfl,h3⟩;have hs:=wE (l:=l) (i:=0) (j:=n) oQ oQ;have hp:=tW (l:=l) (i:=0) (j:=n) oQ oQ;generalize ((l.set 0 (gt l n)).set n (gt l 0))=l1 at h3 hs hp;have hl1:=hp.length_eq;have hD:DnI (lts less) (gt l1) 0 n:=by refine⟨fun k h5 h6 h7=>?_,fun k h5 h6 h7 h8=>absurd h8 oQ⟩;rw [hs,swp_o _ oQ oQ,swp_o _ oQ oQ];exact hH k h5 oQ
 have hg1:gt l1 n=gt l 0:=by rw [hs,swp_r]
 refine W.k ?_;refine aF (aMk hO hL h3 n oQ oQ hD) ?_;rintro v4 H4 ⟨l2,h4,hp2,hg2,hH2⟩;have hl2:=hp2.length_eq;obtain⟨l3,x,rfl⟩:∃ l3 x,l2=l3++[x]:=⟨l2.dropLast,l2.getLast (by intro e;rw [e] at hl2;simp at hl2;omega),(List.dropLast_concat_getLast _).symm⟩;have hl3:l3.length=n:=by rw [aB,cN] at hl2;omega
 have hx:x=gt l 0:=by rw [<-hg1,<-hg2,<-hl3];simp [gt]
 subst hx;refine W.k ?_;refine sC (aOQ h4 oQ) ?_;rintro _ H5 ⟨rfl,h5⟩;refine W.k ?_;refine Fin.to H5 ?_;refine F.f1 ⟨rfl,l3,h5,hp2.trans hp,?_⟩;rw [hl3];exact aG5 hH2 fun k hk=>(aG4 oQ).symm
end
def nK(qp:Nat)(fl:FuncId)(less:Int×Int->Int×Int->Bool)(ws:List Sx)(next:Nat)(H:Hp):Prop:=
 ∃ rp l Hr,H=(qp,cl [.pointer (some ⟨rp,0,none⟩),.int .i64 (next:Int)] 372)::Hr/\jV rp fl l Hr/\HeapN (lts less) (gt l) l.length/\l.Perm ws
instance funT:aJG prog 335:=⟨⟨_,_,_,underlying335⟩⟩
theorem aNL(fl:FuncId)(less:Int×Int->Int×Int->Bool):Tri prog 228 [.func (.func fl) #[] #[]] [] NT (fun v H=>∃ qp,v=.pointer (some ⟨qp,0,none⟩)/\nK qp fl less [] 0 H):=by refine Tri.mt func228 ntmps228 fun w hw=>?_;refine W.k ?_;refine aPH ?_;have hb:bV (fun i=>[(0,1),(1,1)][i]?) ([.slice none 0 0]++[.nilFunc]) [(1,.func (.func fl) #[] #[])]=some (rwc (.slice none 0 0) fl):=rfl;refine W.k fun _ b_=>?_;rename_i b1;refine F.f1 ?_;exact⟨b_,rfl,b1,[],[(b1,cl (rwc (.slice none 0 0) fl) 370)],rfl,⟨_,[],Sl.nil _ _,rfl⟩,fun k h1 h2=>absurd h2 (by simp),List.Perm.refl _⟩
theorem F.ct{P:Program}{C:Ctx}{A:Fr}{H:Hp}{fn:Func}{R:Value->Hp->Prop}{e:Exit}{t ty n b u:Nat}{l:LV}{T:TypeId}{v2:Value}(Hc:Hp){s:Hp}(l2:LV) [hp:eY H Hc s](hR:R (.tuple #[.agg l2.toArray,v2]) Hc)(he:e=.ret\/e=.normal:=by first|exact .inl rfl|exact .inr rfl)(hrs:fn.results=#[.cell t ty,.tmp u]:=by exact rfl)(ht:lk A t=some (.pointer (some ⟨b,0,none⟩)):=by exact rfl)(hu:lk A u=some v2:=by exact rfl)(hat:At H b (cl l T):=by infer_instance)(hl:l=l2:=by first|assumption|exact rfl)(iR:fB P ty n:=by infer_instance)(hn:l2.length=n:=by first|assumption|exact rfl):Fin P C fn R e A H:=by subst hl;exact Fin.c1t1 he hrs ht hu hn Hc hR
def tc(x:Int×Int):LV:=[.int .i64 x.1,.int .i64 x.2]
instance(x:Int×Int):OC (tc x):=by unfold tc;infer_instance
def zD:Nat->List (Int×Int)->List Sx
 | _,[]=>[]
 | n,x::r=>⟨x.1,x.2,n⟩::zD (n+1) r
theorem aGb:∀ (n:Nat) (l:List (Int×Int)),(zD n l).length=l.length
 | _,[]=>rfl
 | n,x::r=>by simp [zD,aGb (n+1) r]
theorem aGa:∀ (n:Nat) (l:List (Int×Int)) (x:Int×Int),zD n (l++[x])=zD n l++[⟨x.1,x.2,((n+l.length:Nat):Int)⟩]
 | n,[],x=>rfl
 | n,y::r,x=>by rw [dX,zD,aGa (n+1) r x,zD,dX,aW];congr 4;omega
theorem aQl(xs:List (Int×Int)){k:Nat}{x:Int×Int}(h:xs[k]?=some x):((xs.flatMap tc).drop (k*2)).take 2=tc x:=by
 induction xs generalizing k with
 | nil=>simp at h
 | cons y l ih=>
  rw [dE]
  cases k with
  | zero=>
   simp at h;subst h
   rw [jM,bQ,cT];rfl
  | succ k=>
   rw [show (k+1)*2=2+k*2 by omega,<-cG,eR (show (tc y).length=2 from rfl)]
   exact ih (by simpa using h)
theorem aPm(xs:List (Int×Int)):(xs.flatMap tc).length=xs.length*2:=by
 induction xs with
 | nil=>rfl
 | cons x l ih=>rw [dE,aB,ih,aW];show 2+_=_;omega
section
variable {fl:FuncId} [hfl:bC prog fl]{less:Int×Int->Int×Int->Bool}(hO:Ord (Int×Int) less)(hL:aE9 fl less)
include hO hL
theorem aHy{qp:Nat}{ws:List Sx}{next:Nat}{H:Hp}(h:nK qp fl less ws next H)(xs:List (Int×Int))(pv:Value)(hn:ws.length+xs.length<1000000)(hx:next+xs.length<1000000000):Tri prog 230 [.pointer (some ⟨qp,0,none⟩),pv] H (fun w=>Rd (H.map Prod.fst) w 2 pv (xs.flatMap tc)) (fun v H'=>v=.tuple #[]/\nK qp fl less (ws++zD next xs) (next+xs.length) H'):=by
 refine Tri.mt func230 ntmps230 fun w hw=>?_;obtain⟨pa,pl,pc,rfl,hpl,hpc,hpr⟩:=hw;rw [aPm] at hpl;have hpl2:xs.length=pl:=oQ;have h0:nK qp fl less (ws++zD next (xs.take 0)) (next+0) H:=by
  have:ws++zD next (xs.take 0)=ws:=by simp [zD]
  rw [this];exact h
 refine W.k ?_;refine bE [0,8,9] (fun x:Nat×Hp=>[(10,.int .i64 (x.1:Int))]) (fun x=>x.2) (fun x=>pl-x.1) (fun x=>x.1<=pl/\nK qp fl less (ws++zD next (xs.take x.1)) (next+x.1) x.2) (0,H) ⟨oQ,h0⟩ ?_;rintro⟨i,H⟩ ⟨hi,hQ⟩;dsimp only at hi hQ |-;by_cases hip:i<pl
 ·obtain⟨x,hxi⟩:∃ x,xs[i]?=some x:=⟨_,aA oQ⟩;obtain⟨pb,po,lv,T,fz,rfl,hpb,hpk,hpy⟩:=hpr.resolve_left oQ;have hlv:(lv.drop (po+i*2)).take 2=tc x:=by rw [<-aQl xs hxi,<-hpy,jT,fK,cG,cO oQ]
  have hnx:zD next (xs.take (i+1))=zD next (xs.take i)++[⟨x.1,x.2,((next+i:Nat):Int)⟩]:=by rw [aY,hxi,dI,aGa,aH,cO oQ]
  have hln:(zD next (xs.take i)).length=i:=by rw [aGb,aH,cO oQ]
  obtain⟨rp,l,Hr,rfl,hR,hH,hp⟩:=hQ;have hll:=hp.length_eq;rw [aB,hln] at hll;have hx2:(tc x).length=2:=rfl;have hb:bV (fun i=>[(0,2),(2,1)][i]?) [.int .i64 0,.int .i64 0,.int .i64 0] [(0,.agg (tc x).toArray),(1,.int .i64 ((next+i:Nat):Int))]=some (sxc ⟨x.1,x.2,((next+i:Nat):Int)⟩):=rfl;refine W.k fun b_=>?_;(refine SW.l [12] [0,1,2,3] ?_;refine dS 4 rfl (aOD rfl rfl) ?_;refine SG.l [5,6,7,8,9,10] ?_;refine dS 11 rfl (aOD rfl rfl) ?_;refine bL 12 ?_);refine aF (aLE hO hL hR ⟨x.1,x.2,((next+i:Nat):Int)⟩ oQ hH) ?_;rintro _ H3 ⟨rfl,l',h3,hp3,hH3⟩;(refine bB [] ?_;refine SS.dn ?_);refine W.k ?_;rw [show ([.pointer (some ⟨rp,0,none⟩),.int .i64 ((next+i:Nat):Int)]:LV).set 1 (.int .i64 (((next+i:Nat):Int)+1))=[.pointer (some ⟨rp,0,none⟩),.int .i64 ((next+(i+1):Nat):Int)] from rfl];refine aN.mk (i+1,(qp,cl [.pointer (some ⟨rp,0,none⟩),.int .i64 ((next+(i+1):Nat):Int)] 372)::H3) ?_;refine⟨by dsimp only;omega,rp,l',H3,rfl,h3,hH3,?_⟩;dsimp only;rw [hnx,<-aT];exact hp3.trans (List.Perm.append_right _ hp)
 have hi2:i=pl:=oQ;subst hi2;rw [aK oQ] at hQ;rw [hpl2];refine W.k ?_;refine Fin.to H ?_;exact F.f0 ⟨rfl,hQ⟩
omit hO hL hfl in
theorem aPx{qp rp:Nat}{l:List Sx}{next:Nat}{Hr:Hp}(hR:jV rp fl l Hr):Tri prog 279 [.pointer (some ⟨qp,0,none⟩)] ((qp,cl [.pointer (some ⟨rp,0,none⟩),.int .i64 (next:Int)] 372)::Hr) NT (fun v H'=>v=.int .i64 (l.length:Int)/\H'=(qp,cl [.pointer (some ⟨rp,0,none⟩),.int .i64 (next:Int)] 372)::Hr):=by refine Tri.mt func279 ntmps279 fun w hw=>?_;refine W.k ?_;refine aF (aHh hR) ?_;rintro _ H1 ⟨rfl,rfl⟩;refine W.k ?_;refine Fin.to ((qp,cl [.pointer (some ⟨rp,0,none⟩),.int .i64 (next:Int)] 372)::H1) ?_;exact F.f1 ⟨rfl,rfl⟩
omit hO hL hfl in
theorem aNM{qp rp:Nat}{l:List Sx}{next:Nat}{Hr:Hp}(hR:jV rp fl l Hr):Tri prog 260 [.pointer (some ⟨qp,0,none⟩)] ((qp,cl [.pointer (some ⟨rp,0,none⟩),.int .i64 (next:Int)] 372)::Hr) NT (fun v H'=>H'=(qp,cl [.pointer (some ⟨rp,0,none⟩),.int .i64 (next:Int)] 372)::Hr/\((l.length=0/\v=.tuple #[.agg (tc (0,0)).toArray,.bool false])\/(0<l.length/\v=.tuple #[.agg (tc ((gt l 0).a,(gt l 0).b)).toArray,.bool true]))):=by
 refine Tri.mt func260 ntmps260 fun w hw=>?_;have hLen:=aPx (qp:=qp) (next:=next) hR;refine W.k fun b_=>?_;refine aF hLen ?_;rintro _ H1 ⟨rfl,rfl⟩;by_cases h0:l.length=0
 ·refine W.k fun b_=>?_;refine F.ct ((qp,cl [.pointer (some ⟨rp,0,none⟩),.int .i64 (next:Int)] 372)::Hr) (tc (0,0)) ?_;exact⟨rfl,.inl ⟨h0,rfl⟩⟩
 obtain⟨v,Hs,hv,rfl⟩:=hR;rcases hv with ⟨rfl,hx,-⟩|⟨b,len,cap,J,rfl,hx,hJ,hlc,rfl⟩
 ·have:=kO l;rw [hx] at this;simp at this;omega
 have hlen:l.length=len:=by rw [kO] at hx;omega
 have g0:=aAi (l:=l) (k:=0) oQ;have g1:=aA0 l J g0;have g2:((l.flatMap sxc++J).drop 0).take 2=tc ((gt l 0).a,(gt l 0).b):=by
  have:(((l.flatMap sxc++J).drop (0*3)).take 3).take 2=(sxc (gt l 0)).take 2:=by rw [g1]
  rw [fK] at this;exact this
 have ht2:∀ x,(tc x).length=2:=fun x=>rfl;have ht3:=ht2 ((gt l 0).a,(gt l 0).b);generalize gt l 0=x at g2 ht3 |-;clear ht2;generalize l.flatMap sxc++J=A at g2 |-;refine W.k ?_;refine F.ct [(qp,cl [.pointer (some ⟨rp,0,none⟩),.int .i64 (next:Int)] 372),(rp,cl (rwc (.slice (some ⟨b,0,none⟩) len cap) fl) 370),(b,cl A 376)] (tc (x.a,x.b)) ?_;exact⟨rfl,.inr ⟨oQ,rfl⟩⟩
def Min(less:Int×Int->Int×Int->Bool)(ws:List Sx)(x:Sx):Prop:=x∈ws/\∀ y∈ws,le (lts less) x y
omit hL hfl in
theorem aMs{l ws:List Sx}(hH:HeapN (lts less) (gt l) l.length)(hp:l.Perm ws)(h0:0<l.length):Min less ws (gt l 0):=by refine⟨hp.mem_iff.1 (aP (aAi h0)),fun y hy=>?_⟩;obtain⟨k,hk,e⟩:=pU.1 (hp.mem_iff.2 hy);have:=heap_top (lts_ord hO) hH k hk;rw [aPT (l:=l) (k:=k) (x:=y) (by rw [aA hk,e])] at this;exact this
theorem aNN{qp:Nat}{ws:List Sx}{next:Nat}{H:Hp}(h:nK qp fl less ws next H)(hn:ws.length<=1000000):Tri prog 232 [.pointer (some ⟨qp,0,none⟩)] H NT (fun v H'=>(ws=[]/\H'=H/\v=.tuple #[.agg (tc (0,0)).toArray,.bool false])\/∃ x,Min less ws x/\nK qp fl less (ws.erase x) next H'/\v=.tuple #[.agg (tc (x.a,x.b)).toArray,.bool true]):=by
 obtain⟨rp,l,Hr,rfl,hR,hH,hp⟩:=h;have hll:=hp.length_eq;refine Tri.mt func232 ntmps232 fun w hw=>?_;have ht:∀ x,(tc x).length=2:=fun x=>rfl;refine W.k fun b_=>?_;refine aF (aNM (qp:=qp) (next:=next) hR) ?_;rintro _ H1 ⟨rfl,(⟨h0,rfl⟩|⟨h0,rfl⟩)⟩
 ·have ht0:=ht (0,0);clear ht;have hw0:ws=[]:=bI oQ;have hO0:OC (tc (0,0)):=inferInstance;generalize hz:tc (0,0)=Z at ht0 hO0 |-;refine W.k fun b_=>?_;refine F.ct ((qp,cl [.pointer (some ⟨rp,0,none⟩),.int .i64 (next:Int)] 372)::Hr) Z ?_;exact .inl ⟨hw0,rfl,rfl⟩
 have ht0:=ht ((gt l 0).a,(gt l 0).b);clear ht;have hO1:OC (tc ((gt l 0).a,(gt l 0).b)):=inferInstance;generalize hz:tc ((gt l 0).a,(gt l 0).b)=Z at ht0 hO1 |-;refine W.k fun b_=>?_;refine W.mi ?_;refine aF (aNH hO hL hR h0 oQ hH) ?_;rintro _ H2 ⟨rfl,l',h2,hp2,hH2⟩;refine W.k ?_;refine F.ct ((qp,cl [.pointer (some ⟨rp,0,none⟩),.int .i64 (next:Int)] 372)::H2) Z ?_;refine .inr ⟨gt l 0,aMs hO hH hp h0,⟨rp,l',H2,rfl,h2,hH2,?_⟩,by rw [<-hz]⟩;have h5:(gt l 0::l').Perm ws:=(cA (l₁:=[gt l 0]) (l₂:=l')).trans (hp2.trans hp);have h6:=h5.erase (gt l 0);rwa [List.erase_cons_head] at h6
end
end
end Go.Proofs.YtdfclocfackkmaaGreat
