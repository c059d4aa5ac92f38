/- SHA-256 in plain words. The table in plain words: primes, and the roots' bits. The table's functions. Primes, roots' bits, and the table. The table is made. -/
import Derived.Test.YtdfclocfackkmaaGreatPm3
import Derived.Test.YtdfclocfackkmaaGreatPm1
set_option linter.unusedVariables false
set_option linter.unusedSimpArgs false
set_option linter.unusedSectionVars false
set_option maxHeartbeats 4000000
namespace Go.Proofs.YtdfclocfackkmaaGreat
open Go Go.Proofs.Tryz
structure S8 where
 a:UInt32
 b:UInt32
 c:UInt32
 d:UInt32
 e:UInt32
 f:UInt32
 g:UInt32
 h:UInt32
deriving DecidableEq
namespace Sha
def rotr(x k:UInt32):UInt32:=(x >>> k) ||| (x <<< (32-k))
def s0(x:UInt32):UInt32:=rotr x 7 ^^^ rotr x 18 ^^^ (x >>> 3)
def s1(x:UInt32):UInt32:=rotr x 17 ^^^ rotr x 19 ^^^ (x >>> 10)
def S0(x:UInt32):UInt32:=rotr x 2 ^^^ rotr x 13 ^^^ rotr x 22
def S1(x:UInt32):UInt32:=rotr x 6 ^^^ rotr x 11 ^^^ rotr x 25
def ch(e f g:UInt32):UInt32:=(e &&& f) ^^^ (~~~e &&& g)
def maj(a b c:UInt32):UInt32:=(a &&& b) ^^^ (a &&& c) ^^^ (b &&& c)
def t1(s:S8)(k w:UInt32):UInt32:=s.h+S1 s.e+ch s.e s.f s.g+k+w
def t2(s:S8):UInt32:=S0 s.a+maj s.a s.b s.c
def rnd(s:S8)(k w:UInt32):S8:=⟨t1 s k w+t2 s,s.a,s.b,s.c,s.d+t1 s k w,s.e,s.f,s.g⟩
def be(b:LB):UInt32:=b.foldl (fun v c=>(v <<< 8) ||| c.toUInt32) 0
def sch(b:LB):Nat->List UInt32
 | 0=>[]
 | t+1=>sch b t++[if t<16 then be ((b.drop (4*t)).take 4) else s1 ((sch b t).getD (t-2) 0)+(sch b t).getD (t-7) 0+s0 ((sch b t).getD (t-15) 0)+(sch b t).getD (t-16) 0]
theorem sch_len(b:LB)(t:Nat):(sch b t).length=t:=by
 induction t with
 | zero=>rfl
 | succ t ih=>simp [sch,ih]
def tabK:List UInt32:=[
  0x428a2f98,0x71374491,0xb5c0fbcf,0xe9b5dba5,0x3956c25b,0x59f111f1,0x923f82a4,0xab1c5ed5,
  0xd807aa98,0x12835b01,0x243185be,0x550c7dc3,0x72be5d74,0x80deb1fe,0x9bdc06a7,0xc19bf174,
  0xe49b69c1,0xefbe4786,0x0fc19dc6,0x240ca1cc,0x2de92c6f,0x4a7484aa,0x5cb0a9dc,0x76f988da,
  0x983e5152,0xa831c66d,0xb00327c8,0xbf597fc7,0xc6e00bf3,0xd5a79147,0x06ca6351,0x14292967,
  0x27b70a85,0x2e1b2138,0x4d2c6dfc,0x53380d13,0x650a7354,0x766a0abb,0x81c2c92e,0x92722c85,
  0xa2bfe8a1,0xa81a664b,0xc24b8b70,0xc76c51a3,0xd192e819,0xd6990624,0xf40e3585,0x106aa070,
  0x19a4c116,0x1e376c08,0x2748774c,0x34b0bcb5,0x391c0cb3,0x4ed8aa4a,0x5b9cca4f,0x682e6ff3,
  0x748f82ee,0x78a5636f,0x84c87814,0x8cc70208,0x90befffa,0xa4506ceb,0xbef9a3f7,0xc67178f2]
def ini:S8:=⟨0x6a09e667,0xbb67ae85,0x3c6ef372,0xa54ff53a,0x510e527f,0x9b05688c,0x1f83d9ab,0x5be0cd19⟩
def rnds(s:S8)(b:LB):Nat->S8
 | 0=>s
 | t+1=>rnd (rnds s b t) (tabK.getD t 0) ((sch b 64).getD t 0)
def plus(s r:S8):S8:=⟨s.a+r.a,s.b+r.b,s.c+r.c,s.d+r.d,s.e+r.e,s.f+r.f,s.g+r.g,s.h+r.h⟩
def blk(s:S8)(b:LB):S8:=plus s (rnds s b 64)
def absN:Nat->S8->LB->S8×LB
 | 0,s,m=>(s,m)
 | n+1,s,m=>absN n (blk s (m.take 64)) (m.drop 64)
def absorb(s:S8)(m:LB):S8×LB:=absN (m.length/64) s m
theorem absorb_lt{s:S8}{m:LB}(h:m.length<64):absorb s m=(s,m):=by unfold absorb;rw [sW h];rfl
theorem absorb_ge{s:S8}{m:LB}(h:64<=m.length):absorb s m=absorb (blk s (m.take 64)) (m.drop 64):=by unfold absorb;rw [show m.length/64=(m.drop 64).length/64+1 by simp;omega];rfl
theorem absorb_app(k:LB):∀ (n:Nat) (s:S8) (m:LB),m.length<=n->absorb s (m++k)=absorb (absorb s m).1 ((absorb s m).2++k)
 | n,s,m,hn=>by
  by_cases h:64<=m.length
  ·rw [absorb_ge (m:=m++k) (by simp;omega),absorb_ge h,bU h,cJ h];cases n with
   | zero=>omega
   | succ n=>exact absorb_app k n _ _ (by simp;omega)
  rw [absorb_lt (by omega:m.length<64)]
theorem absorb_len:∀ (n:Nat) (s:S8) (m:LB),m.length<=n->(absorb s m).2.length=m.length%64
 | n,s,m,hn=>by
  by_cases h:64<=m.length
  ·rw [absorb_ge h];cases n with
   | zero=>omega
   | succ n=>rw [absorb_len n _ _ (by simp;omega)];simp;omega
  rw [absorb_lt oQ];simp;omega
def beN(n v:Nat):LB:=(List.range n).map fun k=>UInt8.ofNat (v/256^(n-1-k))
theorem beN_len(n v:Nat):(beN n v).length=n:=by simp [beN]
def padN(n:Nat):LB:=0x80::(List.replicate ((119-n%64)%64) 0++beN 8 (8*n))
theorem padN_len(n:Nat):(n+(padN n).length)%64=0:=by simp [padN,beN_len];omega
def outB(s:S8):LB:=beN 4 s.a.toNat++(beN 4 s.b.toNat++(beN 4 s.c.toNat++(beN 4 s.d.toNat++(beN 4 s.e.toNat++(beN 4 s.f.toNat++(beN 4 s.g.toNat++beN 4 s.h.toNat))))))
theorem outB_len(s:S8):(outB s).length=32:=by simp [outB,beN_len]
def sum(m:LB):LB:=outB (absorb ini (m++padN m.length)).1
theorem sum_len(m:LB):(sum m).length=32:=outB_len _
end Sha
namespace Sha
def mw0(x y:UInt64):UInt64:=(x &&& (4294967295:UInt64))*(y &&& (4294967295:UInt64))
def mt(x y:UInt64):UInt64:=(x >>> (32:UInt64))*(y &&& (4294967295:UInt64))+(mw0 x y >>> (32:UInt64))
def mw1(x y:UInt64):UInt64:=(mt x y &&& (4294967295:UInt64))+(x &&& (4294967295:UInt64))*(y >>> (32:UInt64))
def mulHi(x y:UInt64):UInt64:=(x >>> (32:UInt64))*(y >>> (32:UInt64))+(mt x y >>> (32:UInt64))+(mw1 x y >>> (32:UInt64))
def squareB(p x:UInt64):Bool:=decide ((mulHi x x).toNat<p.toNat\/(mulHi x x).toNat=p.toNat/\(x*x).toNat=0)
def cubeH(x:UInt64):UInt64:=mulHi (x*x) x+mulHi x x*x
def cubeB(p x:UInt64):Bool:=decide ((cubeH x).toNat<(p <<< (32:UInt64)).toNat\/(cubeH x).toNat=(p <<< (32:UInt64)).toNat/\(x*x*x).toNat=0)
def bt(k:Nat):UInt64:=UInt64.ofNat (2^k/2)
def srch(f:UInt64->Bool):Nat->UInt64->UInt64
 | 0,x=>x
 | k+1,x=>srch f k (if f (x ||| bt (k+1)) then x ||| bt (k+1) else x)
def srchN(f:UInt64->Bool):Nat->Nat->UInt64
 | 0,x=>UInt64.ofNat x
 | k+1,0=>srchN f k (if f (UInt64.ofNat 0 ||| bt (k+1)) then (UInt64.ofNat 0 ||| bt (k+1)).toNat else 0)
 | k+1,x+1=>srchN f k (if f (UInt64.ofNat (x+1) ||| bt (k+1)) then (UInt64.ofNat (x+1) ||| bt (k+1)).toNat else x+1)
theorem srch_N(f:UInt64->Bool):∀ (k:Nat) (x:UInt64),srch f k x=srchN f k x.toNat
 | 0,x=>by simp [srch,srchN]
 | k+1,x=>by
  have e:srchN f (k+1) x.toNat=srchN f k (if f (x ||| bt (k+1)) then (x ||| bt (k+1)).toNat else x.toNat):=by
   cases h:x.toNat with
   | zero=>
    have:x=UInt64.ofNat 0:=by rw [<-h];simp
    subst this;rfl
   | succ n=>
    have:x=UInt64.ofNat (n+1):=by rw [<-h];simp
    conv=>lhs;unfold srchN
    rw [<-this]
  rw [e];show srch f k _=_;rw [srch_N f k];congr 1;split <;> rfl
def primeL:List Nat:=[2,3,5,7,11,13,17,19,23,29,31,37,41,43,47,53,59,61,67,71,73,79,83,89,97,101,103,107,109,113,127,131,137,139,149,151,157,163,167,173,179,181,191,193,197,199,211,223,227,229,233,239,241,251,257,263,269,271,277,281,283,293,307,311]
def primeB(n:Nat):Bool:=(List.range n).all fun d=>!(decide (2<=d)&&decide (d*d<=n)&&n%d == 0)
def cntP(n:Nat):Nat:=primeL.countP (·<=n)
set_option maxRecDepth 100000 in
theorem cnt_step:∀ n,n<311->1<=n->cntP (n+1)=cntP n+if primeB (n+1) then 1 else 0:=by decide +kernel
set_option maxRecDepth 100000 in
theorem cnt_at:∀ k,k<64->cntP (primeL.getD k 0)=k+1/\cntP (primeL.getD k 0-1)=k/\2<=primeL.getD k 0/\primeL.getD k 0<=311:=by decide +kernel
theorem cnt_mono{a b:Nat}(h:a<=b):cntP a<=cntP b:=List.countP_mono_left fun x _ hx=>by simp at hx |-;omega
theorem cnt_1:cntP 1=0:=by decide +kernel
theorem cnt_lt{k n:Nat}(hk:k<64)(hn:n<primeL.getD k 0):cntP n<=k:=by rw [<-(cnt_at k hk).2.1];exact cnt_mono oQ
set_option maxRecDepth 100000 in
theorem tabK_N:(primeL.map fun p=>(srchN (cubeB (UInt64.ofNat p)) 38 0).toUInt32)=tabK:=by decide +kernel
set_option maxRecDepth 100000 in
theorem tabH_N:((primeL.take 8).map fun p=>(srchN (squareB (UInt64.ofNat p)) 38 0).toUInt32)=[ini.a,ini.b,ini.c,ini.d,ini.e,ini.f,ini.g,ini.h]:=by decide +kernel
def tabH:List UInt32:=[ini.a,ini.b,ini.c,ini.d,ini.e,ini.f,ini.g,ini.h]
theorem tabK_at{k:Nat}(hk:k<64):tabK.getD k 0=(srch (cubeB (UInt64.ofNat (primeL.getD k 0))) 38 0).toUInt32:=by rw [srch_N,<-tabK_N];have hl:primeL.length=64:=rfl;simp [List.getD,aL,aA (show k<primeL.length by omega)]
theorem tabH_at{k:Nat}(hk:k<8):tabH.getD k 0=(srch (squareB (UInt64.ofNat (primeL.getD k 0))) 38 0).toUInt32:=by have hl:primeL.length=64:=rfl;rw [srch_N];show ([ini.a,ini.b,ini.c,ini.d,ini.e,ini.f,ini.g,ini.h]:List UInt32).getD k 0=_;rw [<-tabH_N];simp [List.getD,aL,bD,hk,aA (show k<primeL.length by omega)]
theorem bt_half:∀ k,k<38->bt (k+1) >>> (1:UInt64)=bt k/\(bt (k+1)).toNat≠0:=by decide +kernel
end Sha
section
attribute [local irreducible] SW SL SQ SH SA SS Pu Fin bS aN
instance:aNd prog 168:=⟨_,func168,kQ,kQ,kQ,kQ⟩
abbrev dZ(x:UInt64):Value:=.int .u64 (x.toNat:Int)
abbrev fJ(x:UInt32):Value:=.int .u32 (x.toNat:Int)
theorem aBW(x y:UInt64):Tri prog 167 [dZ x,dZ y] [] NT (fun v H=>v=.tuple #[dZ (Sha.mulHi x y),dZ (x*y)]/\H=[]):=by refine Tri.mt func167 ntmps167 fun w hw=>?_;refine W.k ?_;refine F.f2 ?_;exact⟨rfl,rfl⟩
theorem aLq(p x:UInt64):Tri prog 93 [.agg #[dZ p],dZ x] [] NT (fun v H=>v=.bool (Sha.squareB p x)/\H=[]):=by
 refine Tri.mt func93 ntmps93 fun w hw=>?_;refine W.k fun b_=>?_;refine W.cq (aBW x x) ?_;by_cases h1:(Sha.mulHi x x).toNat<p.toNat
 ·have h2:Sha.squareB p x=true:=by unfold Sha.squareB;simp [h1]
  refine W.k ?_;refine Fin.to [] ?_;refine F.f1 ?_;exact⟨by rw [h2],rfl⟩
 by_cases h3:(Sha.mulHi x x).toNat=p.toNat
 ·by_cases h4:(x*x).toNat=0
  ·have h2:Sha.squareB p x=true:=by unfold Sha.squareB;exact decide_eq_true (.inr ⟨h3,h4⟩)
   refine W.k ?_;refine Fin.to [] ?_;refine F.f1 ?_;exact⟨by rw [h2],rfl⟩
  have h2:Sha.squareB p x=false:=by unfold Sha.squareB;exact decide_eq_false oQ
  refine W.k ?_;refine Fin.to [] ?_;refine F.f1 ?_;exact⟨by rw [h2],rfl⟩
 have h2:Sha.squareB p x=false:=by unfold Sha.squareB;exact decide_eq_false oQ
 refine W.k ?_;refine Fin.to [] ?_;refine F.f1 ?_;exact⟨by rw [h2],rfl⟩
theorem aN9(p x:UInt64):Tri prog 92 [.agg #[dZ p],dZ x] [] NT (fun v H=>v=.bool (Sha.cubeB p x)/\H=[]):=by
 refine Tri.mt func92 ntmps92 fun w hw=>?_;refine W.k fun b_=>?_;refine W.cw (aBW x x) ?_;refine W.cw (aBW (x*x) x) ?_;refine W.cw (aBW (Sha.mulHi x x) x) ?_;refine aLS (a:=Sha.mulHi (x*x) x) (b:=Sha.mulHi x x*x) ?_;obtain⟨A,hA⟩:∃ A,A=Sha.mulHi (x*x) x+Sha.mulHi x x*x:=⟨_,rfl⟩;obtain⟨B,hB⟩:∃ B,B=p <<< (32:UInt64):=⟨_,rfl⟩;obtain⟨D,hD⟩:∃ D,D=x*x*x:=⟨_,rfl⟩;have hc:Sha.cubeB p x=decide (A.toNat<B.toNat\/A.toNat=B.toNat/\D.toNat=0):=by rw [hA,hB,hD];rfl
 rw [<-hA,<-hD];generalize (Sha.mulHi (x*x) x).toNat+(Sha.mulHi x x*x).toNat=carry;generalize Sha.mulHi x x=z1;generalize Sha.mulHi (x*x) x=z2;generalize Sha.mulHi z1 x=z3;clear hA hD;generalize Sha.cubeB p x=R at hc |-;by_cases h1:A.toNat<B.toNat
 ·have h2:R=true:=by rw [hc];exact decide_eq_true (.inl h1)
  clear hc;rw [hB] at h1;clear hB;refine W.k ?_;refine Fin.to [] ?_;refine F.f1 ?_;exact⟨by rw [h2],rfl⟩
 by_cases h3:A.toNat=B.toNat
 ·by_cases h4:D.toNat=0
  ·have h2:R=true:=by rw [hc];exact decide_eq_true (.inr ⟨h3,h4⟩)
   clear hc;rw [hB] at h1 h3;clear hB;refine W.k ?_;refine Fin.to [] ?_;refine F.f1 ?_;exact⟨by rw [h2],rfl⟩
  have h2:R=false:=by rw [hc];exact decide_eq_false oQ
  clear hc;rw [hB] at h1 h3;clear hB;refine W.k ?_;refine Fin.to [] ?_;refine F.f1 ?_;exact⟨by rw [h2],rfl⟩
 have h2:R=false:=by rw [hc];exact decide_eq_false oQ
 clear hc;rw [hB] at h1 h3;clear hB;refine W.k ?_;refine Fin.to [] ?_;refine F.f1 ?_;exact⟨by rw [h2],rfl⟩
theorem aFz(p:UInt64){g:FuncId} [bC prog g](f:UInt64->Bool)(hg:∀ x,Tri prog g [.agg #[dZ p],dZ x] [] NT (fun v H=>v=.bool (f x)/\H=[])):Tri prog 91 [.agg #[dZ p],.func (.func g) #[] #[]] [] NT (fun v H=>v=fJ (Sha.srch f 38 0).toUInt32/\H=[]):=by
 refine Tri.mt func91 ntmps91 fun w hw=>?_;refine W.j fun b_=>?_;refine SW.cut [] [] (fun _:Unit=>[(5,dZ (Sha.srch f 38 0))]) (fun _=>[]) NT ?_ ?_
 ·refine W.k ?_;refine cI [1,2] [] (fun s:Nat×UInt64=>[(5,dZ s.2),(6,dZ (Sha.bt s.1))]) (fun _=>[]) (fun s=>s.1) (fun s=>s.1<=38/\Sha.srch f s.1 s.2=Sha.srch f 38 0) (38,0) ⟨Nat.le_refl _,rfl⟩ ?_;rintro⟨k,x⟩ ⟨hk,hx⟩;dsimp only at hk hx |-;cases k with
  | zero=>
   have h0:(Sha.bt 0).toNat=0:=rfl
   refine W.k ?_
   refine bS.mk () ?_ (by rw [<-hx];exact⟨rfl,trivial⟩)
   trivial
  | succ k=>
   obtain⟨hb1,hb2⟩:=Sha.bt_half k oQ
   have hx2:Sha.srch f k (if f (x ||| Sha.bt (k+1)) then x ||| Sha.bt (k+1) else x)=Sha.srch f 38 0:=hx
   refine W.k ?_
   refine dN [] rfl rfl rfl rfl rfl rfl (hg _) (fun _ _=>trivial) ?_
   rintro _ _ ⟨rfl,rfl⟩
   cases hf:f (x ||| Sha.bt (k+1))
   ·rw [hf] at hx2
    refine W.k ?_
    rw [hb1]
    refine aN.mk (k,x) ?_
    exact⟨oQ,hx2⟩
   ·rw [hf] at hx2
    refine W.k ?_
    rw [hb1]
    refine aN.mk (k,x ||| Sha.bt (k+1)) ?_
    exact⟨oQ,hx2⟩
 rintro _ -;refine W.k ?_;refine Fin.to [] ?_;refine F.f1 ?_;exact⟨rfl,rfl⟩
theorem aMG(n:Nat)(hn:n<=311):Tri prog 166 [.int .i64 (n:Int)] [] NT (fun v H=>v=.bool (Sha.primeB n)/\H=[]):=by
 refine Tri.mt func166 ntmps166 fun w hw=>?_;refine W.j ?_;refine SW.cut [] [] (fun _:Unit=>[]) (fun _=>[]) (fun _=>Sha.primeB n=true) ?_ ?_
 ·refine W.k ?_;refine cI [0] [] (fun d:Nat=>[(3,.int .i64 (d:Int))]) (fun _=>[]) (fun d=>n+3-d) (fun d=>2<=d/\d<=n+2/\∀ j,2<=j->j<d->n%j≠0) 2 ⟨oQ,oQ,fun j _ _=>by omega⟩ ?_;rintro d ⟨hd2,hdn,hj⟩;have hdd:d*d<=313*313:=jA oQ oQ;have hdd':((d*d:Nat):Int)=(d:Int)*(d:Int):=qO _ _;have hmod:((n%d:Nat):Int)=(n:Int)%(d:Int):=Int.natCast_emod _ _;by_cases hc:d*d<=n
  ·have hdlt:d<=n:=cZ (Nat.le_mul_self d) hc;by_cases hz:n%d=0
   ·have hB:Sha.primeB n=false:=by unfold Sha.primeB;rw [List.all_eq_false];refine⟨d,eK.2 (Nat.lt_of_lt_of_le (by have:=iK d hd2;omega) hc),?_⟩;simp [hz,hd2,hc]
    refine W.k ?_;refine Fin.to [] ?_;refine F.f1 ?_;exact⟨by rw [hB],rfl⟩
   refine W.k ?_;refine aN.mk (d+1) ?_;exact⟨oQ,oQ,fun j h1 h2=>by by_cases e:j=d;{ subst e;exact hz };exact hj j h1 oQ⟩
  refine W.k ?_;refine bS.mk () ?_;unfold Sha.primeB;rw [sU];intro j hjr;by_cases h2:2<=j
  ·by_cases hlt:j<d
   ·simp [hj j h2 hlt]
   have:d*d<=j*j:=jA oQ oQ;simp [show ¬ j*j<=n by omega]
  simp [h2]
 rintro _ hB;refine W.k ?_;refine F.f1 ?_;exact⟨by rw [hB],rfl⟩
theorem aLI(k:Nat)(hk:k<64):Tri prog 90 [.int .i64 (k:Int)] [] NT (fun v H=>v=.int .i64 ((Sha.primeL.getD k 0:Nat):Int)/\H=[]):=by
 refine Tri.mt func90 ntmps90 fun w hw=>?_;obtain⟨q1,q2,q3,q4⟩:=Sha.cnt_at k hk;have qlt:=fun n=>Sha.cnt_lt (n:=n) hk;generalize Sha.primeL.getD k 0=P at q1 q2 q3 q4 qlt |-;have h1:=Sha.cnt_1;refine W.j ?_;refine SW.cut [] [] (fun _:Unit=>[(3,.int .i64 (P:Int))]) (fun _=>[]) NT ?_ ?_
 ·have e0:(k:Int)+1=((k+1-Sha.cntP 1:Nat):Int):=oQ;rw [e0];refine W.k ?_;refine cI [] [] (fun n:Nat=>[(3,.int .i64 (n:Int)),(4,.int .i64 ((k+1-Sha.cntP n:Nat):Int))]) (fun _=>[]) (fun n=>P-n) (fun n=>1<=n/\n<=P) 1 ⟨oQ,oQ⟩ ?_;rintro n ⟨hn1,hnP⟩;by_cases hlt:n<P
  ·have hle:=qlt n hlt;have hs:=Sha.cnt_step n oQ hn1;refine W.k ?_;refine W.cq (aMG (n+1) oQ) ?_;cases hb:Sha.primeB (n+1)
   ·rw [hb] at hs;have e:k+1-Sha.cntP n=k+1-Sha.cntP (n+1):=by rw [hs];rfl
    refine W.k ?_;rw [e];refine aN.mk (n+1) ?_;exact⟨oQ,oQ⟩
   rw [hb] at hs;have e:((k+1-Sha.cntP n:Nat):Int)-1=((k+1-Sha.cntP (n+1):Nat):Int):=by simp at hs;omega
   refine W.k ?_;rw [e];refine aN.mk (n+1) ?_;exact⟨oQ,oQ⟩
  have:n=P:=oQ;subst this;have h0:k+1-Sha.cntP n=0:=oQ;rw [h0];refine W.k ?_;refine bS.mk () ?_;trivial
 rintro _ -;refine W.k ?_;refine F.f1 ?_;exact⟨rfl,rfl⟩
def mE(n:Nat)(l:List UInt32)(k:Nat):LV:=(List.range n).map fun j=>fJ (if j<k then l.getD j 0 else 0)
theorem qJ(n:Nat)(l:List UInt32)(k:Nat):(mE n l k).length=n:=by simp [mE]
theorem aIl{n:Nat}{l:List UInt32}{j:Nat}(hj:j<n):(mE n l n)[j]?=some (fJ (l.getD j 0)):=by simp [mE,aL,eI hj,hj]
theorem aGo{n:Nat}{l:List UInt32}{k:Nat}(hk:k<n):(mE n l k).set k (fJ (l.getD k 0))=mE n l (k+1):=by
 apply cM;intro j;unfold mE;rw [dW];simp only [aL,aC,dR];by_cases h:k=j
 ·subst h;rw [if_pos rfl,if_pos hk,eI hk];simp
 rw [if_neg h];by_cases hj:j<n
 ·rw [eI hj];simp only [Option.map_some];have:(j<k)↔(j<k+1):=oQ;simp [this]
 rw [bF (by simp;omega)];rfl
theorem aEU{n:Nat}{l:List UInt32}{k:Nat}(hk:n<=k):mE n l k=mE n l n:=by unfold mE;apply eJ;intro j hj;have:=eK.1 hj;rw [if_pos oQ,if_pos this]
def mN:LV:=mE 64 Sha.tabK 64++mE 8 Sha.tabH 8
def aQt(p:Nat)(H:Hp):Prop:=H=[(p,cl mN 211)]
set_option maxRecDepth 100000 in
theorem aJp:(List.replicate 72 (Value.int .u32 0))=mE 64 Sha.tabK 0++mE 8 Sha.tabH 0:=by rfl
theorem aOs:Tri prog 33 [] [] NT (fun v H=>∃ p,v=.pointer (some ⟨p,0,none⟩)/\aQt p H):=by
 refine Tri.mt func33 ntmps33 fun w hw=>?_;refine W.j fun b_=>?_;rw [aJp];refine bP [1] [(b_,cl (mE 64 Sha.tabK 0++mE 8 Sha.tabH 0) 211)] (fun _=>[]) (fun _:Unit=>[(b_,cl (mE 64 Sha.tabK 64++mE 8 Sha.tabH 8) 211)]) NT ?_ ?_
 ·refine W.k ?_;refine bE [1] (fun k:Nat=>[(6,.int .i64 (k:Int))]) (fun k=>[(b_,cl (mE 64 Sha.tabK k++mE 8 Sha.tabH k) 211)]) (fun k=>64-k) (fun k=>k<=64) 0 oQ ?_;intro k hk;by_cases hk64:k<64
  ·generalize b_=b;have hlen:k<(mE 64 Sha.tabK k++mE 8 Sha.tabH k).length:=by simp [qJ];omega
   have e1:(mE 64 Sha.tabK k++mE 8 Sha.tabH k).set k (fJ (Sha.tabK.getD k 0))=mE 64 Sha.tabK (k+1)++mE 8 Sha.tabH k:=by rw [gI _ _ (by rw [qJ];exact hk64),aGo hk64]
   refine W.k ?_;refine W.cw (aLI k hk64) ?_;intro b_;(refine SW.l [3,7] [0,1,2,4,5] ?_;refine bL 3 ?_);refine W.cq (aFz (UInt64.ofNat (Sha.primeL.getD k 0)) (g:=92) (Sha.cubeB _) (fun x=>aN9 _ x)) ?_;rw [<-Sha.tabK_at hk64];(refine SL.l [6] ?_;refine bL 7 ?_;refine W.i ?_;refine SS.dn ?_);rw [e1];by_cases hk8:k<8
   ·have hlen2:64+k<(mE 64 Sha.tabK (k+1)++mE 8 Sha.tabH k).length:=by simp [qJ];omega
    have e2:(mE 64 Sha.tabK (k+1)++mE 8 Sha.tabH k).set (64+k) (fJ (Sha.tabH.getD k 0))=mE 64 Sha.tabK (k+1)++mE 8 Sha.tabH (k+1):=by rw [bY _ _ (by rw [qJ];omega),qJ,dB,aGo hk8]
    refine W.k ?_;(refine SW.l [3,7] [0,1,2,4,5] ?_;refine bL 3 ?_);refine W.cq (aFz (UInt64.ofNat (Sha.primeL.getD k 0)) (g:=93) (Sha.squareB _) (fun x=>aLq _ x)) ?_;rw [<-Sha.tabH_at hk8];(refine SL.l [6] ?_;refine bL 7 ?_;refine W.i ?_;refine SS.dn ?_);rw [e2];refine W.k ?_;refine aN.mk (k+1) ?_;omega
   have e2:mE 8 Sha.tabH k=mE 8 Sha.tabH (k+1):=by rw [aEU (by omega:8<=k),aEU (by omega:8<=k+1)]
   rw [e2];refine W.k ?_;refine aN.mk (k+1) ?_;omega
  have:k=64:=oQ;subst this;refine W.k ?_;rw [aEU (show 8<=64 by omega)];refine bS.mk () ?_;trivial
 rintro _ -;refine W.k ?_;refine F.f1 ?_;exact⟨_,rfl,rfl⟩
end
end Go.Proofs.YtdfclocfackkmaaGreat
