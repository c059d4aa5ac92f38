/- The document's geometries; a sealer, made. -/
import Derived.Test.YtdfclocfackkmaaGreatPm13
set_option linter.unusedVariables false
set_option linter.unusedSimpArgs false
set_option linter.unusedSectionVars false
set_option maxHeartbeats 2000000
namespace Go.Proofs.YtdfclocfackkmaaGreat
open Go Go.Proofs.Tryz
section
attribute [local irreducible] SW SL SQ SH SA SS Pu Fin bS aN
theorem Gm.total_le2{p t:Nat}(h:Gm.Ok p t):Gm.total p t<=98:=by obtain⟨_,h2,_,h4⟩:=h;unfold Gm.total Gm.leaves Gm.epochs Gm.sealed Gm.up;omega
theorem aEQ{p t:Nat}(h:Gm.Ok p t):Tri prog 79 [kM p t] [] NT (fun v H=>v=.bool true/\H=[]):=by obtain⟨h1,h2,h3,h4⟩:=h;refine Tri.mt func79 ntmps79 fun w hw=>?_;refine W.k fun b_=>?_;exact F.n
theorem aK7{p t:Nat}(h:Gm.Ok p t):Tri prog 156 [kM p t] [] NT (fun v H=>v=.int .i64 (Gm.up p 16:Nat)/\H=[]):=by
 obtain⟨h1,h2,h3,h4⟩:=h;refine Tri.mt func156 ntmps156 fun w hw=>?_;have e:Gm.up p 16=(p+15)/16:=rfl;rw [e];refine W.j fun b_=>?_;refine SW.cut [] [] (fun _:Unit=>[(3,.int .i64 ((p+15)/16:Nat))]) (fun _=>[]) NT ?_ ?_
 ·refine W.k ?_;refine bE [1] (fun n:Nat=>[(3,.int .i64 (n:Int))]) (fun _=>[(b_,cl (yY p t) 28)]) (fun n=>64-n) (fun n=>n<=(p+15)/16) 0 (Nat.zero_le _) ?_;intro n hn;by_cases hl:16*n<p
  ·refine W.k ?_;refine aN.mk (n+1) ?_ (hM:=?_)
   ·omega
   omega
  have:n=(p+15)/16:=oQ;subst this;refine W.k ?_;refine bS.mk () ?_;trivial
 rintro _ -;refine W.k ?_;exact F.n
theorem rS{p t:Nat}(h:Gm.Ok p t):Tri prog 81 [kM p t] [] NT (fun v H=>v=.int .i64 (Gm.sealed p:Nat)/\H=[]):=by refine Tri.mt func81 ntmps81 fun w hw=>?_;have hc:=aK7 h;have hu:=Gm.up_le p 16 dQ;obtain⟨h1,h2,h3,h4⟩:=h;rw [show ((Gm.sealed p:Nat):Int)=1+((Gm.up p 16:Nat):Int)+(p:Int) by unfold Gm.sealed;omega];generalize Gm.up p 16=u at *;refine W.k fun b_=>?_;(refine SW.l [] [0,3,4] ?_;refine aX 1 ?_);refine W.cq hc ?_;(refine SL.l [2,5,6,7] ?_);refine W.k ?_;exact F.n
theorem zG{p t:Nat}(h:Gm.Ok p t):Tri prog 80 [kM p t] [] NT (fun v H=>v=.int .i64 (Gm.epochs p:Nat)/\H=[]):=by
 refine Tri.mt func80 ntmps80 fun w hw=>?_;have hc:=rS h;have hs:=Gm.sealed_le h;have e:Gm.epochs p=(Gm.sealed p+31)/32:=rfl;rw [e];generalize Gm.sealed p=s at *;refine W.j fun b_=>?_;refine SW.cut [] [] (fun _:Unit=>[(3,.int .i64 ((s+31)/32:Nat))]) (fun _=>[]) NT ?_ ?_
 ·refine W.k ?_;refine bE [1] (fun n:Nat=>[(3,.int .i64 (n:Int))]) (fun _=>[(b_,cl (yY p t) 28)]) (fun n=>129-n) (fun n=>n<=(s+31)/32) 0 (Nat.zero_le _) ?_;intro n hn;by_cases hl:32*n<s
  ·refine W.k ?_;refine W.cw hc ?_;refine aN.mk (n+1) ?_ (hM:=?_)
   ·omega
   omega
  have:n=(s+31)/32:=oQ;subst this;refine W.k ?_;refine W.cw hc ?_;refine bS.mk () ?_;trivial
 rintro _ -;refine W.k ?_;exact F.n
def pc(x:Nat×Nat):LV:=[.int .i64 (x.1:Int),.int .i64 (x.2:Int)]
def pcs(l:List (Nat×Nat)):LV:=l.flatMap pc
theorem pR(l:List (Nat×Nat)):(pcs l).length=l.length*2:=by
 unfold pcs;induction l with
 | nil=>rfl
 | cons x r ih=>rw [dE,aB,ih];simp [pc];omega
theorem aCP(l:List (Nat×Nat))(x:Nat×Nat):pcs l++pc x=pcs (l++[x]):=by unfold pcs;simp
instance pcO(x:Nat×Nat):OC (pc x):=by unfold pc;infer_instance
def Gm.row(kind n:Nat):List (Nat×Nat):=(List.range n).map fun k=>(kind,k)
theorem Gm.row_succ(kind n:Nat):Gm.row kind (n+1)=Gm.row kind n++[(kind,n)]:=by unfold Gm.row;rw [bT,aZ];rfl
theorem Gm.row_len(kind n:Nat):(Gm.row kind n).length=n:=by unfold Gm.row;simp
def Gm.all(p t:Nat):List (Nat×Nat):=[(1,0)]++Gm.row 2 (Gm.epochs p)++Gm.row 3 (Gm.sealed p)++Gm.row 4 (t+1)
theorem Gm.all_len(p t:Nat):(Gm.all p t).length=Gm.total p t:=by unfold Gm.all Gm.total Gm.leaves;simp only [aB,Gm.row_len,cN];omega
theorem aAA{p t:Nat}(h:Gm.Ok p t):Tri prog 26 [kM p t] [] NT (fun v H=>∃ Hs,Sl 184 2 v (pcs (Gm.all p t)) Hs/\H=Hs):=by
 refine Tri.mt func26 ntmps26 fun w hw=>?_;have hm:=aEQ h;have hep:=zG h;have hse:=rS h;have hsl:=Gm.sealed_le h;have hel:=Gm.epochs_le h;have ht:t<=24:=h.2.2.2;have hall:Gm.all p t=[(1,0)]++Gm.row 2 (Gm.epochs p)++Gm.row 3 (Gm.sealed p)++Gm.row 4 (t+1):=rfl;rw [hall];generalize Gm.epochs p=e at *;generalize Gm.sealed p=s at *;have hb1:∀ a b:Int,bV (fun i=>[(0,1),(1,1)][i]?) [.int .i64 0,.int .i64 0] [(0,.int .i64 a),(1,.int .i64 b)]=some [.int .i64 a,.int .i64 b]:=fun a b=>rfl;have hb0:bV (fun i=>[(0,1),(1,1)][i]?) [.int .i64 0,.int .i64 0] [(0,.int .i64 1)]=some (pc (1,0)):=rfl;have hs0:bV (fun i=>some (i*2,2)) (zs [.int .i64 0,.int .i64 0] 1) [(0,.agg (pc (1,0)).toArray)]=some (pc (1,0)):=rfl;refine W.k fun b_=>?_;refine W.cq hm ?_;refine W.j fun b_=>?_;rename_i bg;have hA:Sl 184 2 (.slice (some ⟨b_,0,none⟩) 1 1) (pcs ([(1,0)]++Gm.row 2 0)) [(b_,cl (pc (1,0)) 184)]:=Sl.own 184 2 b_ (len:=1) (xs:=pc (1,0)) rfl;generalize b_=bs at *;refine bP [1] ((bg,cl (yY p t) 28)::[(bs,cl (pc (1,0)) 184)]) (fun x:Value×Hp=>[(3,x.1)]) (fun x=>(bg,cl (yY p t) 28)::x.2) (fun x=>Sl 184 2 x.1 (pcs ([(1,0)]++Gm.row 2 e)) x.2) ?_ ?_
 ·refine W.k ?_;refine bE [1] (fun x:Nat×Value×Hp=>[(3,x.2.1),(4,.int .i64 (x.1:Int))]) (fun x=>(bg,cl (yY p t) 28)::x.2.2) (fun x=>e-x.1) (fun x=>x.1<=e/\Sl 184 2 x.2.1 (pcs ([(1,0)]++Gm.row 2 x.1)) x.2.2) (0,.slice (some ⟨bs,0,none⟩) 1 1,[(bs,cl (pc (1,0)) 184)]) ⟨Nat.zero_le _,hA⟩ ?_;rintro⟨k,v2,H2⟩ ⟨hk,hS⟩;dsimp only at hk hS |-;have hS1:=hS.isOne;have hlen:([(1,0)]++Gm.row 2 k).length<=1000:=by simp only [aB,Gm.row_len,cN];omega
  have hbk:=hb1 2 (k:Int);have hbs:bV (fun i=>some (i*2,2)) (zs [.int .i64 0,.int .i64 0] 1) [(0,.agg [.int .i64 (2:Int),.int .i64 (k:Int)].toArray)]=some (pc (2,k)):=rfl;by_cases h:k<e
  ·refine W.k ?_;refine W.cw hep ?_;intro b_;refine W.ap (ys:=pc (2,k)) (mm:=1) hS (fun w2 hs=>(Sl.own 184 2 b_ (xs:=pc (2,k)) rfl).srcAt hs inferInstance) (fun v3 H3 h3=>?_) (hys:=rfl) (hbytes:=by rw [pR];simp only [pc,aW,List.length_nil];omega);have h31:=h3.isOne;rw [aCP,aT,<-Gm.row_succ] at h3;refine W.k ?_;refine aN.mk (k+1,v3,H3) ?_;exact⟨h,h3⟩
  have hk2:k=e:=oQ;rw [hk2] at hS;refine W.k ?_;refine W.cw hep ?_;refine bS.mk (v2,H2) ?_;exact hS
 rintro⟨v2,H2⟩ hS;dsimp only at hS |-;have hS2:=hS.isOne;refine W.j ?_;refine bP [1] ((bg,cl (yY p t) 28)::H2) (fun x:Value×Hp=>[(3,x.1)]) (fun x=>(bg,cl (yY p t) 28)::x.2) (fun x=>Sl 184 2 x.1 (pcs ([(1,0)]++Gm.row 2 e++Gm.row 3 s)) x.2) ?_ ?_
 ·refine W.k ?_;refine bE [1] (fun x:Nat×Value×Hp=>[(3,x.2.1),(5,.int .i64 (x.1:Int))]) (fun x=>(bg,cl (yY p t) 28)::x.2.2) (fun x=>s-x.1) (fun x=>x.1<=s/\Sl 184 2 x.2.1 (pcs ([(1,0)]++Gm.row 2 e++Gm.row 3 x.1)) x.2.2) (0,v2,H2) ⟨Nat.zero_le _,by simpa [Gm.row] using hS⟩ ?_;rintro⟨k,v2,H2⟩ ⟨hk,hS⟩;dsimp only at hk hS |-;have hS1:=hS.isOne;have hlen:([(1,0)]++Gm.row 2 e++Gm.row 3 k).length<=1000:=by simp only [aB,Gm.row_len,cN];omega
  have hbk:=hb1 3 (k:Int);have hbs:bV (fun i=>some (i*2,2)) (zs [.int .i64 0,.int .i64 0] 1) [(0,.agg [.int .i64 (3:Int),.int .i64 (k:Int)].toArray)]=some (pc (3,k)):=rfl;by_cases h:k<s
  ·refine W.k ?_;refine W.cw hse ?_;intro b_;refine W.ap (ys:=pc (3,k)) (mm:=1) hS (fun w2 hs=>(Sl.own 184 2 b_ (xs:=pc (3,k)) rfl).srcAt hs inferInstance) (fun v3 H3 h3=>?_) (hys:=rfl) (hbytes:=by rw [pR];simp only [pc,aW,List.length_nil];omega);have h31:=h3.isOne;rw [aCP,aT,<-Gm.row_succ] at h3;refine W.k ?_;refine aN.mk (k+1,v3,H3) ?_;exact⟨h,h3⟩
  have hk2:k=s:=oQ;rw [hk2] at hS;refine W.k ?_;refine W.cw hse ?_;refine bS.mk (v2,H2) ?_;exact hS
 rintro⟨v3,H3⟩ hS;dsimp only at hS |-;have hS3:=hS.isOne;refine W.j ?_;refine bP [1] ((bg,cl (yY p t) 28)::H3) (fun x:Value×Hp=>[(3,x.1)]) (fun x=>(bg,cl (yY p t) 28)::x.2) (fun x=>Sl 184 2 x.1 (pcs ([(1,0)]++Gm.row 2 e++Gm.row 3 s++Gm.row 4 (t+1))) x.2) ?_ ?_
 ·refine W.k ?_;refine bE [1] (fun x:Nat×Value×Hp=>[(3,x.2.1),(6,.int .i64 (x.1:Int))]) (fun x=>(bg,cl (yY p t) 28)::x.2.2) (fun x=>(t+1)-x.1) (fun x=>x.1<=(t+1)/\Sl 184 2 x.2.1 (pcs ([(1,0)]++Gm.row 2 e++Gm.row 3 s++Gm.row 4 x.1)) x.2.2) (0,v3,H3) ⟨Nat.zero_le _,by simpa [Gm.row] using hS⟩ ?_;rintro⟨k,v2,H2⟩ ⟨hk,hS⟩;dsimp only at hk hS |-;have hS1:=hS.isOne;have hlen:([(1,0)]++Gm.row 2 e++Gm.row 3 s++Gm.row 4 k).length<=1000:=by simp only [aB,Gm.row_len,cN];omega
  have hbk:=hb1 4 (k:Int);have hbs:bV (fun i=>some (i*2,2)) (zs [.int .i64 0,.int .i64 0] 1) [(0,.agg [.int .i64 (4:Int),.int .i64 (k:Int)].toArray)]=some (pc (4,k)):=rfl;by_cases h:k<(t+1)
  ·refine W.k fun b_=>?_;refine W.ap (ys:=pc (4,k)) (mm:=1) hS (fun w2 hs=>(Sl.own 184 2 b_ (xs:=pc (4,k)) rfl).srcAt hs inferInstance) (fun v3 H3 h3=>?_) (hys:=rfl) (hbytes:=by rw [pR];simp only [pc,aW,List.length_nil];omega);have h31:=h3.isOne;rw [aCP,aT,<-Gm.row_succ] at h3;refine W.k ?_;refine aN.mk (k+1,v3,H3) ?_;exact⟨h,h3⟩
  have hk2:k=(t+1):=oQ;rw [hk2] at hS;refine W.k ?_;refine bS.mk (v2,H2) ?_;exact hS
 rintro⟨v4,H4⟩ hS;dsimp only at hS |-;have hS4:=hS.isOne;refine W.k ?_;refine Fin.to H4 ?_;exact F.f1 ⟨H4,hS,rfl⟩
theorem aIT{p t:Nat}(h:Gm.Ok p t){K:Nat}(hK:2<=K)(hK4:K<=4):Tri prog 204 [kM p t,.int .i64 (K:Int)] [] NT (fun v H=>v=.int .i64 (Gm.sumK p t (K-1):Nat)/\H=[]):=by
 refine Tri.mt func204 ntmps204 fun w hw=>?_;have c0:=aDH p t;have c1:=xD h;have c2:=tE h;have hs:=Gm.sealed_le h;have he:=Gm.epochs_le h;have s0:Gm.sumK p t 0=0:=rfl;have s1:Gm.sumK p t 1=1:=rfl;have s2:Gm.sumK p t 2=1+Gm.epochs p:=rfl;have s3:Gm.sumK p t 3=1+Gm.epochs p+Gm.sealed p:=rfl;refine W.j fun b_=>?_;refine W.cq aFS ?_;refine W.j ?_;refine SW.cut [] [] (fun _:Unit=>[(5,.int .i64 (Gm.sumK p t (K-1):Nat))]) (fun _=>[]) NT ?_ ?_
 ·refine W.k ?_;refine bE [1,2,8] (fun k:Nat=>[(5,.int .i64 (Gm.sumK p t (min k (K-1)):Nat)),(9,.int .i64 (k:Int))]) (fun k=>[(b_,cl (yY p t) 292)]) (fun k=>4-k) (fun k=>k<=4) 0 (Nat.zero_le _) ?_;intro k hk;by_cases h4:k<4
  ·by_cases hkK:k+1<K
   ·rw [show min k (K-1)=k by omega];have hn:min (k+1) (K-1)=k+1:=oQ;rcases (by omega:k=0\/k=1\/k=2) with rfl|rfl|rfl
    ·refine W.k ?_;refine dN [] rfl rfl rfl rfl rfl rfl c0 (fun _ _=>trivial) ?_;rintro _ _ ⟨rfl,rfl⟩;refine W.k ?_;rw [show ((Gm.sumK p t 0:Nat):Int)+(1:Nat)=((Gm.sumK p t (min (0+1) (K-1)):Nat):Int) by rw [hn];show _=((Gm.sumK p t 1:Nat):Int);omega];refine aN.mk (0+1) ?_;decide
    ·refine W.k ?_;refine dN [] rfl rfl rfl rfl rfl rfl c1 (fun _ _=>trivial) ?_;rintro _ _ ⟨rfl,rfl⟩;refine W.k ?_;rw [show ((Gm.sumK p t 1:Nat):Int)+(Gm.epochs p:Nat)=((Gm.sumK p t (min (1+1) (K-1)):Nat):Int) by rw [hn];show _=((Gm.sumK p t 2:Nat):Int);omega];refine aN.mk (1+1) ?_;decide
    refine W.k ?_;refine dN [] rfl rfl rfl rfl rfl rfl c2 (fun _ _=>trivial) ?_;rintro _ _ ⟨rfl,rfl⟩;refine W.k ?_;rw [show ((Gm.sumK p t 2:Nat):Int)+(Gm.sealed p:Nat)=((Gm.sumK p t (min (2+1) (K-1)):Nat):Int) by rw [hn];show _=((Gm.sumK p t 3:Nat):Int);omega];refine aN.mk (2+1) ?_;decide
   rw [show min k (K-1)=min (k+1) (K-1) by omega];rcases (by omega:k=1\/k=2\/k=3) with rfl|rfl|rfl
   ·refine W.k ?_;refine aN.mk (1+1) ?_;decide
   ·refine W.k ?_;refine aN.mk (2+1) ?_;decide
   refine W.k ?_;refine aN.mk (3+1) ?_;decide
  have:k=4:=oQ;subst this;rw [show min 4 (K-1)=K-1 by omega];refine W.k ?_;refine bS.mk () ?_;trivial
 rintro _ -;refine W.k ?_;exact F.n
def Gm.atK(n base:Nat)(k:Int):Int:=if 0<=k/\k<n then base+k else -1
theorem aKk{p t:Nat}(h:Gm.Ok p t){K n:Nat}(hK:2<=K)(hK4:K<=4){f:FuncId} [bC prog f](hc:Tri prog f [kM p t] [] NT (fun v H=>v=.int .i64 (n:Int)/\H=[]))(k:Int)(hn:n<=1000):Tri prog 181 [kM p t,.int .i64 (K:Int),.int .i64 k,.func (.func f) #[] #[]] [] NT (fun v H=>v=.int .i64 (Gm.atK n (Gm.sumK p t (K-1)) k)/\H=[]):=by
 refine Tri.mt func181 ntmps181 fun w hw=>?_;have ha:=aIT h hK hK4;have hq:=wD h hc;have hs:=Gm.sealed_le h;have he:=Gm.epochs_le h;have hb:Gm.sumK p t (K-1)<=1000:=by
  rcases (by omega:K=2\/K=3\/K=4) with rfl|rfl|rfl
  ·show 1<=1000;decide
  ·show 1+Gm.epochs p<=1000;omega
  show 1+Gm.epochs p+Gm.sealed p<=1000;omega
 unfold Gm.atK;generalize Gm.sumK p t (K-1)=base at *;by_cases h0:k<0
 ·rw [if_neg oQ];refine W.k fun b_=>?_;exact F.n
 by_cases h1:k<n
 ·rw [if_pos oQ];refine W.k fun b_=>?_;refine W.cw hq ?_;refine W.cw ha ?_;exact F.n
 rw [if_neg oQ];refine W.k fun b_=>?_;refine W.cw hq ?_;exact F.n
theorem uK{p t:Nat}(h:Gm.Ok p t)(k:Int):Tri prog 175 [kM p t,.int .i64 k] [] NT (fun v H=>v=.int .i64 (Gm.atK (Gm.epochs p) 1 k)/\H=[]):=by refine Tri.mt func175 ntmps175 fun w hw=>?_;have hc:=aKk h (K:=2) dQ dQ (xD h) k (by have:=Gm.epochs_le h;omega);refine W.k fun b_=>?_;refine W.cw hc ?_;exact F.n
theorem qD{p t:Nat}(h:Gm.Ok p t)(k:Int):Tri prog 106 [kM p t,.int .i64 k] [] NT (fun v H=>v=.int .i64 (Gm.atK (Gm.sealed p) (1+Gm.epochs p) k)/\H=[]):=by refine Tri.mt func106 ntmps106 fun w hw=>?_;have hc:=aKk h (K:=3) dQ dQ (tE h) k (by have:=Gm.sealed_le h;omega);refine W.k fun b_=>?_;refine W.cw hc ?_;exact F.n
theorem aCx{p t:Nat}(h:Gm.Ok p t)(k:Int):Tri prog 136 [kM p t,.int .i64 k] [] NT (fun v H=>v=.int .i64 (Gm.atK (1+t) (Gm.leaves p) k)/\H=[]):=by refine Tri.mt func136 ntmps136 fun w hw=>?_;have hc:=aKk h (K:=4) dQ dQ (aHQ h) k (by have:=h.2.2.2;omega);refine W.k fun b_=>?_;refine W.cw hc ?_;exact F.n
theorem yZ{p t:Nat}(h:Gm.Ok p t):Tri prog 192 [kM p t] [] NT (fun v H=>v=.int .i64 (Gm.epochs p:Nat)/\H=[]):=by refine Tri.mt func192 ntmps192 fun w hw=>?_;have hc:=wD h (xD h);refine W.k fun b_=>?_;refine W.cw hc ?_;exact F.n
theorem uL{p t:Nat}(h:Gm.Ok p t):Tri prog 149 [kM p t] [] NT (fun v H=>v=.int .i64 (Gm.sealed p:Nat)/\H=[]):=by refine Tri.mt func149 ntmps149 fun w hw=>?_;have hc:=wD h (tE h);refine W.k fun b_=>?_;refine W.cw hc ?_;exact F.n
theorem Gm.all_at(p t:Nat){j:Nat}(hj:j<Gm.total p t):(Gm.all p t)[j]?=some (if j<1 then (1,0) else if j<1+Gm.epochs p then (2,j-1) else if j<Gm.leaves p then (3,j-(1+Gm.epochs p)) else (4,j-Gm.leaves p)):=by
 have hr:∀ kind n i,i<n->(Gm.row kind n)[i]?=some (kind,i):=fun kind n i h=>by unfold Gm.row;rw [aL,eI h];rfl
 have hT:Gm.total p t=1+Gm.epochs p+Gm.sealed p+(1+t):=rfl;have hL:Gm.leaves p=1+Gm.epochs p+Gm.sealed p:=rfl;unfold Gm.all;by_cases h1:j<1
 ·rw [if_pos h1];obtain rfl:j=0:=by omega
  rfl
 rw [if_neg h1,aT,aT,aV (by simp;omega),cN];by_cases h2:j<1+Gm.epochs p
 ·rw [if_pos h2,aJ (by rw [Gm.row_len];omega)];exact hr _ _ _ oQ
 rw [if_neg h2,aV (by rw [Gm.row_len];omega),Gm.row_len];by_cases h3:j<Gm.leaves p
 ·rw [if_pos h3,aJ (by rw [Gm.row_len];omega),show j-1-Gm.epochs p=j-(1+Gm.epochs p) by omega];exact hr _ _ _ oQ
 rw [if_neg h3,aV (by rw [Gm.row_len];omega),Gm.row_len,show j-1-Gm.epochs p-Gm.sealed p=j-Gm.leaves p by omega];exact hr _ _ _ oQ
theorem aKS{l:List (Nat×Nat)}{j:Nat}{x:Nat×Nat}(h:l[j]?=some x)(r:LV):((pcs l++r).drop (j*2)).take 2=pc x:=by
 have hl:=(aD.1 h).1;have e:pcs l=(l.map pc).flatten:=by unfold pcs;rw [gO]
 rw [cJ (by rw [pR];omega),bU (by rw [bG,pR];omega),e];exact tC (n:=2) (fun y hy=>by obtain⟨z,-,rfl⟩:=bM.1 hy;rfl) (by rw [aL,h];rfl)
theorem zF{p t:Nat}(h:Gm.Ok p t){K n base:Nat}(hK:K=2/\n=Gm.epochs p/\base=1\/K=3/\n=Gm.sealed p/\base=1+Gm.epochs p\/K=4/\n=1+t/\base=Gm.leaves p)(k:Int):Tri prog 65 [kM p t,.int .i64 (K:Int),.int .i64 k] [] NT (fun v H=>v=.int .i64 (Gm.atK n base k)/\H=[]):=by
 refine Tri.mt func65 ntmps65 fun w hw=>?_;have hall:=aAA h;have htot:=Gm.total_le h;have hpl:=pR (Gm.all p t);rw [Gm.all_len] at hpl;have hat:=fun j (hj:j<Gm.total p t)=>Gm.all_at p t hj;have hT:Gm.total p t=1+Gm.epochs p+Gm.sealed p+(1+t):=rfl;have hL:Gm.leaves p=1+Gm.epochs p+Gm.sealed p:=rfl;generalize Gm.all p t=l at *;generalize Gm.total p t=m at *;refine W.k fun b_=>?_;refine aF hall ?_;rintro v1 H1 ⟨Hs,hS,rfl⟩;have hS1:=hS.isOne;rcases hS with ⟨-,hz,-⟩|⟨bl,len,cap,junk,rfl,hxl,hj,hlc,rfl⟩
 ·rw [hz] at hpl;simp at hpl;omega
 have hl1:len=m:=oQ;subst hl1;refine W.k ?_;refine bE [1,2,10,11] (fun j:Nat=>[(12,.int .i64 (j:Int))]) (fun _=>[(bl,cl (pcs l++junk) 184)]) (fun j=>len-j) (fun j=>j<=len/\((0<=k/\k<n)->(j:Int)<=base+k)) 0 ⟨Nat.zero_le _,fun _=>by omega⟩ ?_;rintro j ⟨hj1,hj2⟩;by_cases hjl:j<len
 ·have hx:=hat j hjl;generalize hxe:(if j<1 then (1,0) else if j<1+Gm.epochs p then (2,j-1) else if j<Gm.leaves p then (3,j-(1+Gm.epochs p)) else (4,j-Gm.leaves p):Nat×Nat)=x at hx;have hld:=aKS hx junk;have hpc:(pc x).length=2:=rfl;obtain⟨x1,x2⟩:=x;have hiff:(x1=K/\(x2:Int)=k)↔(0<=k/\k<n/\(j:Int)=base+k):=by
   repeat' split at hxe
   all_goals (cases hxe;omega)
  by_cases e1:x1=K
  ·by_cases e2:(x2:Int)=k
   ·obtain⟨i1,i2,i3⟩:=hiff.1 ⟨e1,e2⟩;subst e1;refine W.k fun b_=>?_;rw [show (j:Int)=Gm.atK n base k by unfold Gm.atK;rw [if_pos ⟨i1,i2⟩];exact i3];exact F.n
   have hne:¬ (0<=k/\k<n/\(j:Int)=base+k):=fun e=>e2 (hiff.2 e).2;subst e1;refine W.k fun b_=>?_;refine aN.mk (j+1) ?_;exact⟨hjl,fun e=>by have:=hj2 e;omega⟩
  have hne:¬ (0<=k/\k<n/\(j:Int)=base+k):=fun e=>e1 (hiff.2 e).1;refine W.k fun b_=>?_;refine aN.mk (j+1) ?_;exact⟨hjl,fun e=>by have:=hj2 e;omega⟩
 have hjm:j=len:=oQ;subst hjm;have hno:¬ (0<=k/\k<n):=fun e=>by have:=hj2 e;omega
 rw [show Gm.atK n base k = -1 by unfold Gm.atK;rw [if_neg hno]];refine W.k ?_;exact F.n
theorem aJi{p t:Nat}(h:Gm.Ok p t):Tri prog 60 [kM p t,.int .i64 4] [] NT (fun v H=>v=.int .i64 ((1+t:Nat):Int)/\H=[]):=by
 refine Tri.mt func60 ntmps60 fun w hw=>?_;have hall:=aAA h;have htot:=Gm.total_le h;have hpl:=pR (Gm.all p t);rw [Gm.all_len] at hpl;have hat:=fun j (hj:j<Gm.total p t)=>Gm.all_at p t hj;have hT:Gm.total p t=1+Gm.epochs p+Gm.sealed p+(1+t):=rfl;have hL:Gm.leaves p=1+Gm.epochs p+Gm.sealed p:=rfl;generalize Gm.all p t=l at *;generalize Gm.total p t=m at *;refine W.k fun b_=>?_;refine aF hall ?_;rintro v1 H1 ⟨Hs,hS,rfl⟩;have hS1:=hS.isOne;rcases hS with ⟨-,hz,-⟩|⟨bl,len,cap,junk,rfl,hxl,hj,hlc,rfl⟩
 ·rw [hz] at hpl;simp at hpl;omega
 have hl1:len=m:=oQ;subst hl1;refine W.j ?_;refine SW.cut [] [] (fun _:Unit=>[(5,.int .i64 ((1+t:Nat):Int))]) (fun _=>[]) NT ?_ ?_
 ·refine W.k ?_;refine bE [1,9,10] (fun j:Nat=>[(5,.int .i64 ((j-Gm.leaves p:Nat):Int)),(11,.int .i64 (j:Int))]) (fun _=>[(bl,cl (pcs l++junk) 184)]) (fun j=>len-j) (fun j=>j<=len) 0 (Nat.zero_le _) ?_ (hr:=by rw [Nat.zero_sub];exact⟨rfl,rfl,trivial⟩);intro j hj1;by_cases hjl:j<len
  ·have hx:=hat j hjl;generalize hxe:(if j<1 then (1,0) else if j<1+Gm.epochs p then (2,j-1) else if j<Gm.leaves p then (3,j-(1+Gm.epochs p)) else (4,j-Gm.leaves p):Nat×Nat)=x at hx;have hld:=aKS hx junk;have hpc:(pc x).length=2:=rfl;obtain⟨x1,x2⟩:=x;have hiff:x1=4↔Gm.leaves p<=j:=by
    repeat' split at hxe
    all_goals (cases hxe;omega)
   by_cases e1:x1=4
   ·have:=hiff.1 e1;subst e1;refine W.k fun b_=>?_;rw [show ((j-Gm.leaves p:Nat):Int)+1=((j+1-Gm.leaves p:Nat):Int) by omega];refine aN.mk (j+1) ?_;exact hjl
   have:¬ Gm.leaves p<=j:=fun e=>e1 (hiff.2 e);refine W.k fun b_=>?_;rw [show j-Gm.leaves p=j+1-Gm.leaves p by omega];refine aN.mk (j+1) ?_;exact hjl
  have hjm:j=len:=oQ;subst hjm;rw [show j-Gm.leaves p=1+t by omega];refine W.k ?_;refine bS.mk () ?_;trivial
 rintro _ -;refine W.k ?_;exact F.n
abbrev geV(P T:Int):Value:=.agg #[.int .i64 P,.int .i64 T]
def GoK(P T:Int):Prop:=1<=P/\P<=64/\4<=T/\T<=24
theorem aG1{P T:Int}(h:¬ GoK P T):Tri prog 143 [geV P T] [] NT (fun v H=>v=.int .i64 1/\H=[]):=by
 unfold GoK at h;refine Tri.mt func143 ntmps143 fun w hw=>?_;by_cases h1:P<1
 ·refine W.k fun b_=>?_;exact F.n
 by_cases h2:64<P
 ·refine W.k fun b_=>?_;exact F.n
 by_cases h3:T<4
 ·refine W.k fun b_=>?_;exact F.n
 have h4:24<T:=oQ;refine W.k fun b_=>?_;exact F.n
theorem aDS{P T:Int}(h:¬ GoK P T):Tri prog 79 [geV P T] [] NT (fun v H=>v=.bool false/\H=[]):=by
 unfold GoK at h;refine Tri.mt func79 ntmps79 fun w hw=>?_;by_cases h1:P<1
 ·refine W.k fun b_=>?_;exact F.n
 by_cases h2:64<P
 ·refine W.k fun b_=>?_;exact F.n
 by_cases h3:T<4
 ·refine W.k fun b_=>?_;exact F.n
 have h4:24<T:=oQ;refine W.k fun b_=>?_;exact F.n
end
end Go.Proofs.YtdfclocfackkmaaGreat
