/- The program's bytes as polynomials; its box. -/
import Derived.Test.YtdfclocfackkmaaGreatPm1
import Derived.Test.YtdfclocfackkmaaGreatPm4
set_option linter.unusedVariables false
set_option linter.unusedSimpArgs false
set_option linter.unusedSectionVars false
set_option maxHeartbeats 2000000
namespace Go.Proofs.YtdfclocfackkmaaGreat
open Go Go.Proofs.Tryz
section
attribute [local irreducible] SW SL SQ SH SA SS Pu Fin bS aN
abbrev u8v(a:UInt8):Value:=.int .u8 (a.toNat:Int)
theorem aIt(a:UInt8):Tri prog 253 [u8v a] [] NT (fun v H=>v=u8v (Gf.twice a)/\H=[]):=by refine Tri.mt func253 ntmps253 fun w hw=>?_;refine W.k ?_;exact F.n
theorem aG3(a b:UInt8):Tri prog 216 [u8v a,u8v b] [] NT (fun v H=>v=u8v (Gf.mul a b)/\H=[]):=by
 refine Tri.mt func216 ntmps216 fun w hw=>?_;refine W.j ?_;refine SW.cut [] [] (fun _:Unit=>[(5,u8v (Gf.mul a b))]) (fun _=>[]) NT ?_ ?_
 ·refine W.k ?_;refine cI [] [] (fun n:Nat=>[(0,u8v (Gf.mulN a b n).2.1),(1,u8v (Gf.mulN a b n).2.2),(5,u8v (Gf.mulN a b n).1),(6,.int .i64 (n:Int))]) (fun _=>[]) (fun n=>8-n) (fun n=>n<=8) 0 (Nat.zero_le _) ?_;intro n hn;by_cases h:n<8
  ·have hs:Gf.mulN a b (n+1)=Gf.mulS (Gf.mulN a b n):=rfl;generalize Gf.mulN a b n=s at *;obtain⟨o,x,y⟩:=s;have e1:(Gf.mulN a b (n+1)).1=o ^^^ x*(y &&& 1):=by rw [hs];rfl
   have e2:(Gf.mulN a b (n+1)).2.1=Gf.twice x:=by rw [hs];rfl
   have e3:(Gf.mulN a b (n+1)).2.2=y >>> 1:=by rw [hs];rfl
   dsimp only;refine W.k ?_;refine W.cw (aIt x) ?_;rw [<-e1,<-e2,<-e3];refine aN.mk (n+1) ?_;omega
  have:n=8:=oQ;subst this;refine W.k ?_;refine bS.mk () ?_;trivial
 rintro _ -;refine W.k ?_;exact F.n
theorem aQu(k:Nat):UAr .and .i64 (k:Int) 1 ((k%2:Nat):Int):=⟨fun P w t=>by
 have e:IntKind.i64.wrap (((BitVec.ofInt IntKind.i64.bits (k:Int) &&& BitVec.ofInt IntKind.i64.bits 1).toNat:Nat):Int)=((k%2:Nat):Int):=by
  have h1:(BitVec.ofInt IntKind.i64.bits (k:Int)).toNat=((k:Int)%18446744073709551616).toNat:=iN ..
  have h2:(BitVec.ofInt IntKind.i64.bits 1).toNat=2^1-1:=rfl
  rw [sQ,h1,h2,Nat.and_two_pow_sub_one_eq_mod]
  have h3:((k:Int)%18446744073709551616).toNat%2^1=k%2:=oQ
  rw [h3]
  exact w64 oQ
 simp only [binOp,Op.intBits,ne_eq,not_true_eq_false,if_false,Sem.run_pure]
 exact congrArg (fun z=>Result.ok (Value.int .i64 z) w) e⟩
theorem aQE(k:Nat):aIE .i64 (k:Int) 1 ((k/2:Nat):Int):=⟨by
 refine⟨oQ,?_⟩
 show Int.fdiv (k:Int) (2^1)=_
 rw [iG _ dQ]
 omega⟩
theorem aH6(a:UInt8)(n:Nat)(hn:n<=1000000):Tri prog 159 [u8v a,.int .i64 (n:Int)] [] NT (fun v H=>v=u8v (Gf.pow a n)/\H=[]):=by
 refine Tri.mt func159 ntmps159 fun w hw=>?_;refine W.j ?_;refine SW.cut [] [] (fun _:Unit=>[(5,u8v (Gf.pow a n))]) (fun _=>[]) NT ?_ ?_
 ·refine W.k ?_;refine cI [] [] (fun s:UInt8×UInt8×Nat=>[(0,u8v s.2.1),(1,.int .i64 (s.2.2:Int)),(5,u8v s.1)]) (fun _=>[]) (fun s=>s.2.2) (fun s=>s.2.2<=1000000/\Gf.powF s.2.2 s.1 s.2.1 s.2.2=Gf.pow a n) (1,a,n) ⟨hn,rfl⟩ ?_;rintro⟨o,x,m⟩ ⟨hm,he⟩;dsimp only at hm he |-;by_cases h:0<m
  ·have hA:=aQu m;have hB:=aQE m;rw [Gf.powF_step o x h] at he;by_cases hb:m%2=1
   ·rw [if_pos hb] at he;rw [hb] at hA;refine W.k ?_;refine W.cw (aG3 o x) ?_;refine W.cw (aG3 x x) ?_;refine aN.mk (Gf.mul o x,Gf.mul x x,m/2) ?_;exact⟨by dsimp only;omega,he⟩
   have hb0:m%2=0:=oQ;rw [if_neg hb] at he;rw [hb0] at hA;refine W.k ?_;refine W.cw (aG3 x x) ?_;refine aN.mk (o,Gf.mul x x,m/2) ?_;exact⟨by dsimp only;omega,he⟩
  have:m=0:=oQ;subst this;have e2:o=Gf.pow a n:=he;subst e2;refine W.k ?_;refine bS.mk () ?_;trivial
 rintro _ -;refine W.k ?_;exact F.n
theorem aPX(a:UInt8):Tri prog 86 [u8v a] [] NT (fun v H=>v=u8v (Gf.inv a)/\H=[]):=by refine Tri.mt func86 ntmps86 fun w hw=>?_;refine W.k ?_;refine W.cw (aH6 a 254 dQ) ?_;exact F.n
theorem aEf(i k r:UInt8)(b:Nat)(hk:k.toNat<8)(hr:r.toNat<8)(hs:(8:UInt8)-k=r)(h8:(8:Int)-k.toNat=r.toNat):Tri prog 160 [.int .i64 (k.toNat:Int),.pointer (some ⟨b,0,none⟩)] [(b,cl [u8v i] 5)] NT (fun v H=>v=u8v (Gf.rot i k r)/\H=[(b,cl [u8v i] 5)]):=by refine Tri.mt func160 ntmps160 fun w hw=>?_;haveI:Lt8 (k.toNat:Int) k:=⟨rfl,hk⟩;haveI:Lt8 (8-(k.toNat:Int)) r:=⟨h8,hr⟩;refine W.k ?_;(refine SW.l [] [0,1,2,3,4,5,6,7,8,9] ?_);refine W.k ?_;refine Fin.to [(b,cl [u8v i] 5)] ?_;exact F.f1 ⟨rfl,rfl⟩
instance(priority:=low) i8of (k:Nat):Cv .u8 (k:Int) ((UInt8.ofNat k).toNat:Int):=⟨by rw [tZ,cX];omega⟩
theorem aPM(i:UInt8):Tri prog 85 [u8v i] [] NT (fun v H=>v=u8v (Gf.aff i)/\H=[]):=by refine Tri.mt func85 ntmps85 fun w hw=>?_;have c1:=fun b=>aEf i 1 7 b dQ dQ dQ dQ;have c2:=fun b=>aEf i 2 6 b dQ dQ dQ dQ;have c3:=fun b=>aEf i 3 5 b dQ dQ dQ dQ;have c4:=fun b=>aEf i 4 4 b dQ dQ dQ dQ;refine W.k fun b_=>?_;(refine SW.l [] [0,1,4,7,10] ?_;refine aX 2 ?_);refine dN [(b_,cl [u8v i] 5)] rfl rfl rfl rfl rfl rfl (c1 b_) (fun _ _=>trivial) ?_;rintro _ _ ⟨rfl,rfl⟩;(refine SL.l [3] ?_;refine aX 5 ?_);refine dN [(b_,cl [u8v i] 5)] rfl rfl rfl rfl rfl rfl (c2 b_) (fun _ _=>trivial) ?_;rintro _ _ ⟨rfl,rfl⟩;(refine SL.l [6] ?_;refine aX 8 ?_);refine dN [(b_,cl [u8v i] 5)] rfl rfl rfl rfl rfl rfl (c3 b_) (fun _ _=>trivial) ?_;rintro _ _ ⟨rfl,rfl⟩;(refine SL.l [9] ?_;refine aX 11 ?_);refine dN [(b_,cl [u8v i] 5)] rfl rfl rfl rfl rfl rfl (c4 b_) (fun _ _=>trivial) ?_;rintro _ _ ⟨rfl,rfl⟩;(refine SL.l [12,13,14,15] ?_);refine W.k ?_;exact F.n
theorem aL6{xs:LB}{i:Nat}{x:UInt8}(h:xs[i]?=some x)(r:LV):(cbs xs++r)[i]?=some (u8v x):=by have hl:i<xs.length:=(aD.1 h).1;rw [aJ (by unfold cbs;simpa using hl)];unfold cbs;rw [aL,h];rfl
theorem aKn{b:Nat}{l m:LB}(hl:l.length=256)(x:UInt8):Tri prog 215 [.pointer (some ⟨b,0,none⟩),u8v x] [(b,cl (cbs l++cbs m) 198)] NT (fun v H=>v=u8v (l.getD x.toNat 0)/\H=[(b,cl (cbs l++cbs m) 198)]):=by
 refine Tri.mt func215 ntmps215 fun w hw=>?_;have hx:x.toNat<256:=x.toNat_lt;have hg:l[x.toNat]?=some (l.getD x.toNat 0):=by rw [aE,aA oQ];rfl
 have hv:=aL6 hg (cbs m);refine W.k ?_;refine Fin.to [(b,cl (cbs l++cbs m) 198)] ?_;exact F.f1 ⟨rfl,rfl⟩
theorem aFC{xs:LB}{i:Nat}(h:i<xs.length)(v:UInt8)(r:LV):(cbs xs++r).set i (u8v v)=cbs (xs.set i v)++r:=by rw [gI _ _ (by unfold cbs;simpa using h)];unfold cbs;rw [gC]
theorem aJ1{xs ys:LB}{n:Nat}(hn:xs.length=n)(i:Nat)(v:UInt8):(cbs xs++cbs ys).set (n+i) (u8v v)=cbs xs++cbs (ys.set i v):=by
 have hl:(cbs xs).length=n:=by unfold cbs;simpa using hn
 rw [bY _ _ oQ,hl,show n+i-n=i by omega];unfold cbs;rw [gC]
def Gf.subN(n:Nat):LB:=(List.range n).map Gf.subB++List.replicate (256-n) 0
theorem Gf.subN_len{n:Nat}(h:n<=256):(Gf.subN n).length=256:=by unfold Gf.subN;simp;omega
theorem Gf.subN_set{n:Nat}(h:n<256):(Gf.subN n).set n (Gf.subB n)=Gf.subN (n+1):=by unfold Gf.subN;rw [bY _ _ (by simp),bT,aZ,aT];congr 1;rw [aC,dR,dO,show 256-n=(256-(n+1))+1 by omega,fI];rfl
theorem Gf.subN_all:Gf.subN 256=Gf.subL:=by unfold Gf.subN Gf.subL;simp
def Gf.boxN(n:Nat):LV:=cbs (Gf.subN n)++cbs (Gf.backN n)
theorem Gf.box0:List.replicate 512 (.int .u8 0)=Gf.boxN 0:=by show _=cbs (List.replicate 256 0)++cbs (List.replicate 256 0);unfold cbs;rw [eG];exact (gG (m:=256) (n:=256)).symm
theorem aKx:Tri prog 28 [] [] NT (fun v H=>∃ b,v=.pointer (some ⟨b,0,none⟩)/\H=[(b,cl (cbs Gf.subL++cbs (Gf.backN 256)) 198)]):=by
 refine Tri.mt func28 ntmps28 fun w hw=>?_;refine W.j fun b_=>?_;rw [Gf.box0];refine bP [1] [(b_,cl (Gf.boxN 0) 198)] (fun _:Unit=>[]) (fun _=>[(b_,cl (cbs Gf.subL++cbs (Gf.backN 256)) 198)]) NT ?_ ?_
 ·refine W.k ?_;refine cI [1] [b_] (fun n:Nat=>[(6,.int .i64 (n:Int))]) (fun n=>[(b_,cl (Gf.boxN n) 198)]) (fun n=>256-n) (fun n=>n<=256) 0 (Nat.zero_le _) ?_;intro n hn;by_cases h:n<256
  ·have e1:UInt8.ofNat n=UInt8.ofNat n:=rfl;have hb:(Gf.subB n).toNat<256:=(Gf.subB n).toNat_lt;have hlen:(Gf.boxN n).length=512:=by unfold Gf.boxN cbs;simp [Gf.subN_len hn,Gf.backN_len]
   have hlt:n<(Gf.boxN n).length:=oQ;have hs1:(Gf.boxN n).set n (u8v (Gf.subB n))=cbs (Gf.subN (n+1))++cbs (Gf.backN n):=by unfold Gf.boxN;rw [aFC (by rw [Gf.subN_len hn];exact h),Gf.subN_set h]
   have hs2:(cbs (Gf.subN (n+1))++cbs (Gf.backN n)).set (256+(Gf.subB n).toNat) (u8v (UInt8.ofNat n))=Gf.boxN (n+1):=aJ1 (Gf.subN_len h) _ _;have hl2:(cbs (Gf.subN (n+1))++cbs (Gf.backN n)).length=512:=by unfold cbs;simp [Gf.subN_len (show n+1<=256 from h),Gf.backN_len]
   have hlt2:256+(Gf.subB n).toNat<(cbs (Gf.subN (n+1))++cbs (Gf.backN n)).length:=oQ;refine W.k ?_;refine W.cw (aPX (UInt8.ofNat n)) ?_;refine W.cq (aPM (Gf.inv (UInt8.ofNat n))) ?_;rw [show Gf.aff (Gf.inv (UInt8.ofNat n))=Gf.subB n from rfl];refine W.k ?_;rw [hs1];refine W.k ?_;rw [hs2];refine W.k ?_;refine aN.mk (n+1) ?_;omega
  have:n=256:=oQ;subst this;have e:Gf.boxN 256=cbs Gf.subL++cbs (Gf.backN 256):=by unfold Gf.boxN;rw [Gf.subN_all]
  rw [e];refine W.k ?_;refine bS.mk () ?_;trivial
 rintro _ -;refine W.k ?_;refine Fin.to [(b_,cl (cbs Gf.subL++cbs (Gf.backN 256)) 198)] ?_;exact F.f1 ⟨_,rfl,rfl⟩
namespace Rg
def mulP(a b:UInt8):Nat->Nat
 | 0=>0
 | k+1=>if b.toNat/2^k%2=1 then mulP a b k ^^^ (a.toNat*2^k) else mulP a b k
def redP(p:Nat):Nat->Nat
 | 0=>p
 | j+1=>if redP p j/2^(14-j)%2=1 then redP p j ^^^ (283*2^(6-j)) else redP p j
def mul(a b:UInt8):UInt8:=UInt8.ofNat (redP (mulP a b 8) 7)
def inv(a:UInt8):UInt8:=UInt8.ofNat (((List.range 256).find? fun k=>mul a (UInt8.ofNat k) == 1).getD 0)
def bit(c:UInt8)(k:Nat):Nat:=c.toNat/2^(k%8)%2
def bits(i:UInt8)(k:Nat):Nat:=bit i k+bit i (k+4)+bit i (k+5)+bit i (k+6)+bit i (k+7)+bit 99 k
def subO(i:UInt8):Nat->Nat
 | 0=>0
 | j+1=>2*subO i j+bits i (7-j)%2
def sub(c:UInt8):UInt8:=UInt8.ofNat (subO (inv c) 8)
theorem mulP_lt(a b:UInt8)(k:Nat)(hk:k<=8):mulP a b k<2^15:=by
 induction k with
 | zero=>exact Nat.two_pow_pos 15
 | succ k ih=>
  have h1:=ih oQ
  unfold mulP
  split
  ·refine nJ h1 ?_
   have ha:a.toNat<256:=a.toNat_lt
   have h2:2^k<=2^7:=dD dQ oQ
   have:a.toNat*2^k<=255*2^7:=jA oQ h2
   omega
  ·exact h1
theorem redP_lt{p:Nat}(hp:p<2^15)(j:Nat):redP p j<2^15:=by
 induction j with
 | zero=>exact hp
 | succ j ih=>
  unfold redP
  split
  ·refine nJ ih ?_
   have h2:2^(6-j)<=2^6:=dD dQ oQ
   have:283*2^(6-j)<=283*2^6:=jA (Nat.le_refl _) h2
   omega
  ·exact ih
theorem subO_lt(i:UInt8)(j:Nat):subO i j<2^j:=by
 induction j with
 | zero=>exact Nat.one_pos
 | succ j ih=>unfold subO;have:=Nat.mod_lt (bits i (7-j)) (show 0<2 by decide);omega
end Rg
theorem aQo(m n:Nat)(hm:m<2^62)(hn:n<2^62):UAr .xor .i64 (m:Int) (n:Int) ((m ^^^ n:Nat):Int):=⟨fun P w t=>by
 have hx:m ^^^ n<2^62:=nJ hm hn
 have e:IntKind.i64.wrap (((BitVec.ofInt IntKind.i64.bits (m:Int) ^^^ BitVec.ofInt IntKind.i64.bits (n:Int)).toNat:Nat):Int)=((m ^^^ n:Nat):Int):=by
  have h1:∀ z:Nat,z<2^62->(BitVec.ofInt IntKind.i64.bits (z:Int)).toNat=z:=fun z hz=>by
   show (BitVec.ofInt 64 (z:Int)).toNat=z
   rw [iN]
   omega
  rw [BitVec.toNat_xor,h1 m hm,h1 n hn]
  exact w64 oQ
 simp only [binOp,Op.intBits,ne_eq,not_true_eq_false,if_false,Sem.run_pure]
 exact congrArg (fun z=>Result.ok (Value.int .i64 z) w) e⟩
theorem aQh(m k:Nat)(hk:k<=64):aIE .i64 (m:Int) (k:Int) ((m/2^k:Nat):Int):=⟨by
 refine⟨oQ,?_⟩
 rw [aS,cO (by show k<=64;omega),iG _ (by exact_mod_cast Nat.zero_le _)]
 simp⟩
theorem aQD(m k:Nat)(hk:k<=64)(h:m*2^k<2^62):aGN .i64 (m:Int) (k:Int) ((m*2^k:Nat):Int):=⟨by
 refine⟨oQ,?_⟩
 rw [aS,cO (by show k<=64;omega)]
 have:(m:Int)*2^k=((m*2^k:Nat):Int):=by simp
 rw [this]
 exact w64 oQ⟩
theorem cvu(k:Nat)(h:k<2^63):Cv .u64 (k:Int) (k:Int):=⟨by rw [mT];omega⟩
theorem aBk(c:UInt8)(k:Nat)(hk:k<=1000):Tri prog 221 [u8v c,.int .i64 (k:Int)] [] NT (fun v H=>v=.int .i64 (Rg.bit c k:Nat)/\H=[]):=by
 refine Tri.mt func221 ntmps221 fun w hw=>?_;have h8:(k:Int)%8=((k%8:Nat):Int):=oQ;haveI:=aQh c.toNat (k%8) oQ;haveI:Cv .u64 ((k:Int)%8) ((k%8:Nat):Int):=by rw [h8];exact cvu (k%8) oQ
 have hc:c.toNat<256:=c.toNat_lt;rw [show Rg.bit c k=c.toNat/2^(k%8)%2 from rfl];generalize c.toNat/2^(k%8)=y at *;rw [show ((y%2:Nat):Int)=(y:Int)%2 by omega];refine W.k ?_;exact F.n
theorem aHi(a b:UInt8):Tri prog 95 [u8v a,u8v b] [] NT (fun v H=>v=u8v (Rg.mul a b)/\H=[]):=by
 refine Tri.mt func95 ntmps95 fun w hw=>?_;have ha:a.toNat<256:=a.toNat_lt;have hb:b.toNat<256:=b.toNat_lt;have hP:=Rg.mulP_lt a b 8 (Nat.le_refl _);refine W.j ?_;refine SW.cut [] [] (fun _:Unit=>[(5,.int .i64 (Rg.mulP a b 8:Nat))]) (fun _=>[]) NT ?_ ?_
 ·refine W.k ?_;refine cI [0,1] [] (fun k:Nat=>[(5,.int .i64 (Rg.mulP a b k:Nat)),(6,.int .i64 (2^k:Nat)),(7,.int .i64 (k:Int))]) (fun _=>[]) (fun k=>8-k) (fun k=>k<=8) 0 (Nat.zero_le _) ?_;intro k hk;by_cases h:k<8
  ·have hp:=Rg.mulP_lt a b k hk;have h2:2^k<=2^7:=dD dQ oQ;have h20:0<2^k:=Nat.two_pow_pos k;have h3:a.toNat*2^k<=255*2^7:=jA oQ h2;have hs:Rg.mulP a b (k+1)=if b.toNat/2^k%2=1 then Rg.mulP a b k ^^^ (a.toNat*2^k) else Rg.mulP a b k:=rfl
   have h2s:2^(k+1)=2*2^k:=by rw [fE];omega
   generalize Rg.mulP a b k=p at *;generalize 2^k=w at *;have hq:(b.toNat:Int)/(w:Int)=((b.toNat/w:Nat):Int):=by simp
   have hq0:0<=(b.toNat:Int)/(w:Int):=by rw [hq];exact Int.natCast_nonneg _
   have hw1:(a.toNat:Int)*(w:Int)=((a.toNat*w:Nat):Int):=by simp
   haveI:UAr .xor .i64 (p:Int) ((a.toNat:Int)*(w:Int)) ((p ^^^ a.toNat*w:Nat):Int):=by rw [hw1];exact aQo p (a.toNat*w) oQ oQ
   by_cases hb1:b.toNat/w%2=1
   ·rw [if_pos hb1] at hs;have hb2:(b.toNat:Int)/(w:Int)%2=1:=oQ;refine W.k ?_;rw [show (2:Int)*(w:Int)=((2^(k+1):Nat):Int) by rw [h2s];omega];rw [<-hs];refine aN.mk (k+1) ?_;omega
   rw [if_neg hb1] at hs;have hb2:¬ (b.toNat:Int)/(w:Int)%2=1:=oQ;refine W.k ?_;rw [show (2:Int)*(w:Int)=((2^(k+1):Nat):Int) by rw [h2s];omega];rw [<-hs];refine aN.mk (k+1) ?_;omega
  have:k=8:=oQ;subst this;refine W.k ?_;refine bS.mk () ?_;trivial
 rintro _ -;generalize hq:Rg.mulP a b 8=p at *;have hq2:=Rg.redP_lt hP 7;refine pC ?_;refine W.j ?_;refine SW.cut [] [] (fun _:Unit=>[(5,.int .i64 (Rg.redP p 7:Nat))]) (fun _=>[]) NT ?_ ?_
 ·refine W.k ?_;refine cI [] [] (fun j:Nat=>[(5,.int .i64 (Rg.redP p j:Nat)),(8,.int .i64 (14-(j:Int)))]) (fun _=>[]) (fun j=>7-j) (fun j=>j<=7) 0 (Nat.zero_le _) ?_;intro j hj;by_cases h:j<7
  ·have hr:=Rg.redP_lt hP j;have hs:Rg.redP p (j+1)=if Rg.redP p j/2^(14-j)%2=1 then Rg.redP p j ^^^ (283*2^(6-j)) else Rg.redP p j:=rfl
   generalize Rg.redP p j=x at *;have h6:283*2^(6-j)<=283*2^6:=jA (Nat.le_refl _) (dD dQ oQ);haveI:Cv .u64 (14-(j:Int)) ((14-j:Nat):Int):=by rw [show 14-(j:Int)=((14-j:Nat):Int) by omega];exact cvu (14-j) oQ
   haveI:Cv .u64 (14-(j:Int)-8) ((6-j:Nat):Int):=by rw [show 14-(j:Int)-8=((6-j:Nat):Int) by omega];exact cvu (6-j) oQ
   haveI:=aQh x (14-j) oQ;haveI:aGN .i64 283 ((6-j:Nat):Int) ((283*2^(6-j):Nat):Int):=aQD 283 (6-j) oQ oQ;haveI:=aQo x (283*2^(6-j)) oQ oQ;by_cases hb1:x/2^(14-j)%2=1
   ·rw [if_pos hb1] at hs;have hb2:((x/2^(14-j):Nat):Int)%2=1:=oQ;generalize x/2^(14-j)=y at *;generalize 283*2^(6-j)=z at *;refine W.k ?_;rw [show (14:Int)-(j:Int)-1=14-((j+1:Nat):Int) by omega];rw [<-hs];refine aN.mk (j+1) ?_;omega
   rw [if_neg hb1] at hs;have hb2:¬ ((x/2^(14-j):Nat):Int)%2=1:=oQ;generalize x/2^(14-j)=y at *;refine W.k ?_;rw [show (14:Int)-(j:Int)-1=14-((j+1:Nat):Int) by omega];rw [<-hs];refine aN.mk (j+1) ?_;omega
  have:j=7:=oQ;subst this;refine W.k ?_;refine bS.mk () ?_;trivial
 rintro _ -;have e:Rg.mul a b=UInt8.ofNat (Rg.redP p 7):=by unfold Rg.mul;rw [hq]
 rw [e];generalize Rg.redP p 7=x at *;refine W.k ?_;exact F.n
theorem aOY(a:UInt8):Tri prog 220 [u8v a] [] NT (fun v H=>v=u8v (Rg.inv a)/\H=[]):=by
 refine Tri.mt func220 ntmps220 fun w hw=>?_;refine W.j ?_;refine SW.cut [] [] (fun _:Unit=>[]) (fun _=>[]) (fun _=>∀ j<256,¬ Rg.mul a (UInt8.ofNat j)=1) ?_ ?_
 ·refine W.k ?_;refine cI [0] [] (fun k:Nat=>[(3,.int .i64 (k:Int))]) (fun _=>[]) (fun k=>256-k) (fun k=>k<=256/\∀ j<k,¬ Rg.mul a (UInt8.ofNat j)=1) 0 ⟨Nat.zero_le _,fun j hj=>absurd hj (lK _)⟩ ?_;rintro k ⟨hk,hno⟩;by_cases h:k<256
  ·by_cases h1:Rg.mul a (UInt8.ofNat k)=1
   ·have e:Rg.inv a=UInt8.ofNat k:=by
     have:(List.range 256).find? (fun k=>Rg.mul a (UInt8.ofNat k) == 1)=some k:=by rw [List.find?_range_eq_some];exact⟨by simp [h1],eK.2 h,fun j hj=>by simp [hno j hj]⟩
     unfold Rg.inv;rw [this];rfl
    rw [e];have h2:((Rg.mul a (UInt8.ofNat k)).toNat:Int)=1:=by rw [h1];rfl
    refine W.k ?_;refine W.cw (aHi a (UInt8.ofNat k)) ?_;exact F.n
   have h2:¬ ((Rg.mul a (UInt8.ofNat k)).toNat:Int)=1:=fun e=>h1 (by apply kG.1;show _=1;omega);refine W.k ?_;refine W.cw (aHi a (UInt8.ofNat k)) ?_;refine aN.mk (k+1) ?_;refine⟨h,fun j hj=>?_⟩;rcases Nat.lt_or_eq_of_le (Nat.le_of_lt_succ hj) with h3|h3
   ·exact hno j h3
   rw [h3];exact h1
  have:k=256:=oQ;subst this;refine W.k ?_;refine bS.mk () ?_;exact hno
 rintro _ hno;have e:Rg.inv a=0:=by
  have:(List.range 256).find? (fun k=>Rg.mul a (UInt8.ofNat k) == 1)=none:=by rw [List.find?_range_eq_none];exact fun j hj=>by simp [hno j hj]
  unfold Rg.inv;rw [this];rfl
 rw [e];refine W.k ?_;exact F.n
theorem aO5(c:UInt8):Tri prog 169 [u8v c] [] NT (fun v H=>v=u8v (Rg.sub c)/\H=[]):=by
 refine Tri.mt func169 ntmps169 fun w hw=>?_;obtain⟨i,hi⟩:∃ i,Rg.inv c=i:=⟨_,rfl⟩;have e:Rg.sub c=UInt8.ofNat (Rg.subO i 8):=by unfold Rg.sub;rw [hi]
 rw [e];refine W.k ?_;refine W.cq (aOY c) ?_;rw [hi];refine W.j ?_;refine SW.cut [] [] (fun _:Unit=>[(4,.int .i64 (Rg.subO i 8:Nat))]) (fun _=>[]) NT ?_ ?_
 ·refine W.k ?_;refine cI [3] [] (fun j:Nat=>[(4,.int .i64 (Rg.subO i j:Nat)),(5,.int .i64 (7-(j:Int)))]) (fun _=>[]) (fun j=>8-j) (fun j=>j<=8) 0 (Nat.zero_le _) ?_;intro j hj;by_cases h:j<8
  ·have hb:=Rg.subO_lt i j;have hb2:2^j<=2^8:=dD dQ hj;have hs:Rg.subO i (j+1)=2*Rg.subO i j+Rg.bits i (7-j)%2:=rfl;have hbs:Rg.bits i (7-j)=Rg.bit i (7-j)+Rg.bit i (7-j+4)+Rg.bit i (7-j+5)+Rg.bit i (7-j+6)+Rg.bit i (7-j+7)+Rg.bit 99 (7-j):=rfl;have hk:(7:Int)-(j:Int)=((7-j:Nat):Int):=oQ;have hbit:∀ c k,Rg.bit c k<2:=fun c k=>Nat.mod_lt _ dQ;generalize 7-j=k at *;have g0:=hbit i k;have g4:=hbit i (k+4);have g5:=hbit i (k+5);have g6:=hbit i (k+6);have g7:=hbit i (k+7);have g9:=hbit 99 k;rw [hk];have c0:=aBk i k oQ;have c4:=aBk i (k+4) oQ;have c5:=aBk i (k+5) oQ;have c6:=aBk i (k+6) oQ;have c7:=aBk i (k+7) oQ;have c9:=aBk 99 k oQ;rw [Int.natCast_add] at c4 c5 c6 c7;refine W.k ?_;refine W.cw c0 ?_;refine W.cw c4 ?_;refine W.cw c5 ?_;refine W.cw c6 ?_;refine W.cw c7 ?_;refine W.cw c9 ?_;rw [show (2:Int)*(Rg.subO i j:Nat)+((Rg.bit i k:Nat)+(Rg.bit i (k+4):Nat)+(Rg.bit i (k+5):Nat)+(Rg.bit i (k+6):Nat)+(Rg.bit i (k+7):Nat)+(Rg.bit 99 k:Nat):Int)%2=((Rg.subO i (j+1):Nat):Int) by rw [hs,hbs];omega,
    show (k:Int)-1=7-((j+1:Nat):Int) by omega]
   refine aN.mk (j+1) ?_;omega
  have:j=8:=oQ;subst this;refine W.k ?_;refine bS.mk () ?_;trivial
 rintro _ -;have hb:=Rg.subO_lt i 8;generalize Rg.subO i 8=x at *;refine W.k ?_;exact F.n
namespace Rg
def subN(n:Nat):LB:=(List.range n).map (fun k=>sub (UInt8.ofNat k))++List.replicate (256-n) 0
def subL:LB:=(List.range 256).map fun k=>sub (UInt8.ofNat k)
def backN:Nat->LB
 | 0=>List.replicate 256 0
 | n+1=>(backN n).set (sub (UInt8.ofNat n)).toNat (UInt8.ofNat n)
theorem subN_len{n:Nat}(h:n<=256):(subN n).length=256:=by unfold subN;simp;omega
theorem subN_set{n:Nat}(h:n<256):(subN n).set n (sub (UInt8.ofNat n))=subN (n+1):=by unfold subN;rw [bY _ _ (by simp),bT,aZ,aT];congr 1;rw [aC,dR,dO,show 256-n=(256-(n+1))+1 by omega,fI];rfl
theorem subN_at{n:Nat}(h:n<256):(subN (n+1))[n]?=some (sub (UInt8.ofNat n)):=by rw [<-subN_set h,nU (by rw [subN_len (Nat.le_of_lt h)];exact h)]
theorem subN_all:subN 256=subL:=by unfold subN subL;simp
theorem backN_len(n:Nat):(backN n).length=256:=by
 induction n with
 | zero=>exact bA
 | succ n ih=>unfold backN;rw [cE,ih]
theorem subL_len:subL.length=256:=by unfold subL;simp
theorem zero256:List.replicate 256 (.int .u8 0)=cbs (backN 0):=by show _=cbs (List.replicate 256 0);unfold cbs;rw [eG];rfl
theorem zero256':List.replicate 256 (.int .u8 0)=cbs (subN 0):=zero256
end Rg
theorem aEk(xs:LB)(i:Nat)(v:UInt8):(cbs xs).set i (u8v v)=cbs (xs.set i v):=by unfold cbs;rw [gC]
theorem aBP{xs:LB}{i:Nat}{x:UInt8}(h:xs[i]?=some x):(cbs xs)[i]?=some (u8v x):=by unfold cbs;rw [aL,h];rfl
theorem F.cc{P:Program}{C:Ctx}{A:Fr}{H:Hp}{fn:Func}{R:Value->Hp->Prop}{e:Exit}{t u ty n b b':Nat}{l l':LV}{T T':TypeId}(l2 l3:LV)(hR:R (.tuple #[.agg l2.toArray,.agg l3.toArray]) [])(he:e=.ret\/e=.normal:=by first|exact .inl rfl|exact .inr rfl)(hrs:fn.results=#[.cell t ty,.cell u ty]:=by exact rfl)(ht:lk A t=some (.pointer (some ⟨b,0,none⟩)):=by exact rfl)(hu:lk A u=some (.pointer (some ⟨b',0,none⟩)):=by exact rfl)(hat:At H b (cl l T):=by infer_instance)(hat':At H b' (cl l' T'):=by infer_instance)(hl:l=l2:=by first|assumption|exact rfl)(hl':l'=l3:=by first|assumption|exact rfl)(iR:fB P ty n:=by infer_instance)(hn:l2.length=n:=by first|assumption|exact rfl)(hn':l3.length=n:=by first|assumption|exact rfl):Fin P C fn R e A H:=by subst hl hl';refine Fin.of (Hc:=[]) (s:=H) he (by simp) hR fun a w hf hs=>?_;have h1:=nO (P:=P) (w:=w) (t:=ty) (b:=b) (l:=l) (T:=T) (fz:=(0,0)) (r:=l) (i:=0) hs.at (by rw [<-hn];simp) hn;have h2:=nO (P:=P) (w:=w) (t:=ty) (b:=b') (l:=l') (T:=T') (fz:=(0,0)) (r:=l') (i:=0) hs.at (by rw [<-hn'];simp) hn';have h3:=nT hf ht;have h4:=nT hf hu;rw [jK] at h3 h4;simp [results,hrs,h3,h4,asAddr,h1,h2]
theorem aLc:Tri prog 94 [] [] NT (fun v H=>v=.tuple #[.agg (cbs Rg.subL).toArray,.agg (cbs (Rg.backN 256)).toArray]/\H=[]):=by
 refine Tri.mt func94 ntmps94 fun w hw=>?_;refine W.j fun _ _ _ b_=>?_;rename_i b0 b1 b2;refine bP [0,1,2,3] [(b2,cl (List.replicate 256 (.int .u8 0)) 196),(b_,cl (List.replicate 256 (.int .u8 0)) 196)] (fun _:Unit=>[]) (fun _=>[(b2,cl (cbs Rg.subL) 196),(b_,cl (cbs (Rg.backN 256)) 196)]) NT ?_ ?_
 ·refine W.k ?_;rw [show (b2,cl (List.replicate 256 (.int .u8 0)) 196)=(b2,cl (cbs (Rg.subN 0)) 196) by rw [Rg.zero256'],show (b_,cl (List.replicate 256 (.int .u8 0)) 196)=(b_,cl (cbs (Rg.backN 0)) 196) by rw [Rg.zero256]];refine bE [0,1,2,3] (fun n:Nat=>[(4,.int .i64 (n:Int))]) (fun n=>[(b2,cl (cbs (Rg.subN n)) 196),(b_,cl (cbs (Rg.backN n)) 196)]) (fun n=>256-n) (fun n=>n<=256) 0 (Nat.zero_le _) ?_;intro n hn;by_cases h:n<256
  ·have hc:=aO5 (UInt8.ofNat n);have h1:=aEk (Rg.subN n) n (Rg.sub (UInt8.ofNat n));rw [Rg.subN_set h] at h1;have h2:=aEk (Rg.backN n) (Rg.sub (UInt8.ofNat n)).toNat (UInt8.ofNat n);rw [show (Rg.backN n).set (Rg.sub (UInt8.ofNat n)).toNat (UInt8.ofNat n)=Rg.backN (n+1) from rfl] at h2;have h3:=aBP (Rg.subN_at h);have hl1:n<(cbs (Rg.subN n)).length:=by rw [show (cbs (Rg.subN n)).length=(Rg.subN n).length from aC ..,Rg.subN_len hn];exact h
   generalize Rg.sub (UInt8.ofNat n)=x at *;have hx:x.toNat<256:=x.toNat_lt;have hl2:x.toNat<(cbs (Rg.backN n)).length:=by rw [show (cbs (Rg.backN n)).length=(Rg.backN n).length from aC ..,Rg.backN_len];exact hx
   refine W.k ?_;refine W.cw hc ?_;rw [h1];refine W.k ?_;rw [h2];refine aN.mk (n+1) ?_;omega
  have:n=256:=oQ;subst this;rw [Rg.subN_all];refine W.k ?_;refine bS.mk () ?_;trivial
 rintro _ -;have hl1:(cbs Rg.subL).length=256:=by rw [show (cbs Rg.subL).length=Rg.subL.length from aC ..,Rg.subL_len]
 have hl2:(cbs (Rg.backN 256)).length=256:=by rw [show (cbs (Rg.backN 256)).length=(Rg.backN 256).length from aC ..,Rg.backN_len]
 have hz:(List.replicate 256 (Value.int .u8 0)).length=256:=bA;have oX:OC (cbs Rg.subL):=inferInstance;have oY:OC (cbs (Rg.backN 256)):=inferInstance;generalize List.replicate 256 (Value.int .u8 0)=Z at *;generalize cbs Rg.subL=X at *;generalize cbs (Rg.backN 256)=Y at *;refine W.k ?_;(refine SW.l [3] [0,1] ?_;refine aX 2 ?_;refine W.i ?_;refine bL 3 ?_;refine W.i ?_;refine SS.dn ?_);refine W.k ?_;exact F.cc _ _ ⟨rfl,rfl⟩
end
end Go.Proofs.YtdfclocfackkmaaGreat
