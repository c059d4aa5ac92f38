/- Turns, a block's schedule. -/
import Derived.Test.YtdfclocfackkmaaGreatPm6
import Derived.Test.YtdfclocfackkmaaGreatPm7
import Derived.Test.YtdfclocfackkmaaGreatPm5
set_option linter.unusedVariables false
set_option linter.unusedSimpArgs false
set_option linter.unusedSectionVars false
set_option maxHeartbeats 4000000
namespace Go.Proofs.YtdfclocfackkmaaGreat
open Go Go.Proofs.Tryz
section
attribute [local irreducible] SW SL SQ SH SA SS Pu Fin bS aN
theorem aDc:∀ k,k<32->0<k->(UInt64.ofNat (18446744073709551616-k) &&& 31).toNat=32-k/\(UInt32.ofNat (32-k)).toNat=32-k/\(32:UInt32)-UInt32.ofNat k=UInt32.ofNat (32-k):=by decide +kernel
theorem aQf(x:UInt32)(k:Nat)(hk:k<32)(h0:0<k):Tri prog 286 [fJ x,.int .i64 (-(k:Int))] [] NT (fun v H=>v=fJ (Sha.rotr x (UInt32.ofNat k))/\H=[]):=by
 refine Tri.mt func286 ntmps286 fun w hw=>?_;obtain⟨f1,f2,f3⟩:=aDc k hk h0;haveI i1:Cv .u64 (-(k:Int)) ((UInt64.ofNat (18446744073709551616-k)).toNat:Int):=⟨by rw [mT,aU];omega⟩;haveI i2:U64 31 31:=⟨rfl⟩;haveI i3:aB8 ((UInt64.ofNat (18446744073709551616-k) &&& 31).toNat:Int) (UInt32.ofNat (32-k)):=⟨by rw [f1,f2],by rw [f2];omega⟩;haveI i4:UAr .sub .u64 32 ((UInt64.ofNat (18446744073709551616-k) &&& 31).toNat:Int) (k:Int):=⟨fun P w t=>by
  have h:IntKind.u64.wrap (32-((32-k:Nat):Int))=k:=by rw [mT];omega
  rw [f1];simp [binOp,Op.intArith,h]⟩
 haveI i5:aB8 (k:Int) (UInt32.ofNat k):=⟨by rw [mZ];omega,by rw [mZ];omega⟩;refine W.k ?_;refine F.f1 ?_;refine⟨?_,rfl⟩;unfold Sha.rotr fJ;rw [f3,UInt32.or_comm]
theorem r_p(x:UInt32)(k:Nat)(hk:k<32)(h0:0<k):Tri prog 277 [fJ x,.int .i64 (k:Int)] [] NT (fun v H=>v=fJ (Sha.rotr x (UInt32.ofNat k))/\H=[]):=by refine Tri.mt func277 ntmps277 fun w hw=>?_;refine W.k ?_;refine W.cw (aQf x k hk h0) ?_;refine F.f1 ?_;exact⟨rfl,rfl⟩
theorem aLn(x:UInt32):Tri prog 276 [fJ x] [] NT (fun v H=>v=fJ (Sha.s0 x)/\H=[]):=by refine Tri.mt func276 ntmps276 fun w hw=>?_;refine W.k ?_;refine W.cw (r_p x 7 dQ dQ) ?_;refine W.cw (r_p x 18 dQ dQ) ?_;refine F.f1 ?_;exact⟨rfl,rfl⟩
theorem aLo(x:UInt32):Tri prog 275 [fJ x] [] NT (fun v H=>v=fJ (Sha.s1 x)/\H=[]):=by refine Tri.mt func275 ntmps275 fun w hw=>?_;refine W.k ?_;refine W.cw (r_p x 17 dQ dQ) ?_;refine W.cw (r_p x 19 dQ dQ) ?_;refine F.f1 ?_;exact⟨rfl,rfl⟩
theorem aKl(x:UInt32):Tri prog 256 [fJ x] [] NT (fun v H=>v=fJ (Sha.S0 x)/\H=[]):=by refine Tri.mt func256 ntmps256 fun w hw=>?_;refine W.k ?_;refine W.cw (r_p x 2 dQ dQ) ?_;refine W.cw (r_p x 13 dQ dQ) ?_;refine W.cw (r_p x 22 dQ dQ) ?_;refine F.f1 ?_;exact⟨rfl,rfl⟩
theorem aKm(x:UInt32):Tri prog 255 [fJ x] [] NT (fun v H=>v=fJ (Sha.S1 x)/\H=[]):=by refine Tri.mt func255 ntmps255 fun w hw=>?_;refine W.k ?_;refine W.cw (r_p x 6 dQ dQ) ?_;refine W.cw (r_p x 11 dQ dQ) ?_;refine W.cw (r_p x 25 dQ dQ) ?_;refine F.f1 ?_;exact⟨rfl,rfl⟩
theorem aL1(bs:LB)(j:Nat)(c:UInt8)(h:bs[j]?=some c):Sha.be (bs.take (j+1))=(Sha.be (bs.take j) <<< 8) ||| c.toUInt32:=by unfold Sha.be;rw [aY,h,dI,iH];rfl
theorem aOm(v:Value)(bs:LB)(h4:bs.length<=4):Tri prog 274 [v] [] (fun w=>Rd [] w 1 v (cbs bs)) (fun v' H=>v'=fJ (Sha.be bs)/\H=[]):=by
 refine Tri.mt func274 ntmps274 fun w hw=>?_;obtain⟨a,len,cap,rfl,hl,hc,hr⟩:=hw.get;rw [aC,Nat.mul_one] at hl;refine W.j ?_;refine SW.cut [] [] (fun _:Unit=>[(3,fJ (Sha.be bs))]) (fun _=>[]) NT ?_ ?_
 ·refine W.k ?_;refine cI [6,7] [] (fun j:Nat=>[(3,fJ (Sha.be (bs.take j))),(8,.int .i64 (j:Int))]) (fun _=>[]) (fun j=>len-j) (fun j=>j<=len) 0 oQ ?_;intro j hj;by_cases hjl:j<len
  ·obtain⟨blk,ob,l,T,fz,rfl,hb,hbk,hys⟩:=hr oQ;obtain⟨c,hc⟩:∃ c,bs[j]?=some c:=⟨_,aA oQ⟩;have hlc:l[ob+j]?=some (.int .u8 (c.toNat:Int)):=aAJ hys (by rw [aL,hc];rfl);have e:=aL1 bs j c hc;refine W.k ?_;rw [<-e];refine aN.mk (j+1) ?_;exact hjl
  have:j=len:=oQ;subst this;rw [aK oQ];refine W.k ?_;refine bS.mk () ?_;trivial
 rintro _ -;refine W.k ?_;refine F.f1 ?_;exact⟨rfl,rfl⟩
theorem aLh(bs:LB){t:Nat}(h:t<16):Sha.sch bs (t+1)=Sha.sch bs t++[Sha.be ((bs.drop (4*t)).take 4)]:=by show Sha.sch bs t++[if t<16 then _ else _]=_;rw [if_pos h]
theorem aLg(bs:LB){t:Nat}(h:¬ t<16):Sha.sch bs (t+1)=Sha.sch bs t++[Sha.s1 ((Sha.sch bs t).getD (t-2) 0)+(Sha.sch bs t).getD (t-7) 0+Sha.s0 ((Sha.sch bs t).getD (t-15) 0)+(Sha.sch bs t).getD (t-16) 0]:=by show Sha.sch bs t++[if t<16 then _ else _]=_;rw [if_neg h]
def lZ(bs:LB)(t:Nat):LV:=(Sha.sch bs t).map fJ++List.replicate (64-t) (fJ 0)
theorem wV(bs:LB){t:Nat}(h:t<=64):(lZ bs t).length=64:=by simp [lZ,Sha.sch_len];omega
instance(bs:LB)(t:Nat):OC (lZ bs t):=by unfold lZ;infer_instance
theorem aAG(bs:LB){t:Nat}(h:t<64){x:UInt32}(hx:Sha.sch bs (t+1)=Sha.sch bs t++[x]):(lZ bs t).set t (fJ x)=lZ bs (t+1):=by unfold lZ;rw [hx,bY _ _ (by simp [Sha.sch_len]),aC,Sha.sch_len,dO,show 64-t=(64-(t+1))+1 by omega,fI,fR];simp
theorem pS(bs:LB){t j:Nat}(h:j<t):(lZ bs t)[j]?=some (fJ ((Sha.sch bs t).getD j 0)):=by have hl:=Sha.sch_len bs t;unfold lZ;rw [aJ (by simp [hl];exact h),aL,List.getD,aA oQ];rfl
theorem aHo(a:Option Addr)(cap:Nat)(bs:LB)(hb:bs.length=64):Tri prog 254 [.slice a 64 cap] [] (fun w=>Rd [] w 1 (.slice a 64 cap) (cbs bs)) (fun v' H=>v'=.agg (lZ bs 64).toArray/\H=[]):=by
 refine Tri.mt func254 ntmps254 fun w hw=>?_;have hw2:=hw;obtain⟨a',len,cap',e,hl,hc,hr⟩:=hw.get;cases e;obtain⟨blk,ob,l,T,fz,rfl,hb2,hbk,hys⟩:=hr oQ;refine W.j fun _ b_=>?_;rename_i b2;rw [show List.replicate 64 (Value.int .u32 0)=lZ bs 0 from rfl];refine bP [2,3] [(b2,cl (lZ bs 0) 362),(b_,cl (lZ bs 0) 362)] (fun _=>[]) (fun _:Unit=>[(b2,cl (lZ bs 0) 362),(b_,cl (lZ bs 64) 362)]) NT ?_ ?_
 ·refine W.k ?_;refine cI [0,2,3] [b_] (fun t:Nat=>[(5,.int .i64 (t:Int))]) (fun t=>[(b_,cl (lZ bs t) 362)]) (fun t=>64-t) (fun t=>t<=64) 0 oQ ?_;intro t ht;by_cases ht64:t<64
  ·have hlen:t<(lZ bs t).length:=by rw [wV bs ht];exact ht64
   by_cases h16:t<16
   ·refine W.k ?_;have hsub:=hw2.sub (4*t) (4*t+4) (cap-4*t) oQ oQ oQ;rw [show 4*t+4-4*t=4 by omega] at hsub |-;refine W.cw (aOm _ ((bs.drop (4*t)).take 4) (by simp;omega)) ?_ rfl (fun w2 hs=>hsub.ro (Hc:=[]) hs);rw [aAG bs ht64 (aLh bs h16)];refine aN.mk (t+1) ?_;omega
   have g2:=pS bs (show t-2<t by omega);have g7:=pS bs (show t-7<t by omega);have g15:=pS bs (show t-15<t by omega);have g16:=pS bs (show t-16<t by omega);haveI n2:eB ((t:Int)-2) (t-2):=⟨oQ⟩;haveI n7:eB ((t:Int)-7) (t-7):=⟨oQ⟩;haveI n15:eB ((t:Int)-15) (t-15):=⟨oQ⟩;haveI n16:eB ((t:Int)-16) (t-16):=⟨oQ⟩;have hs:=aAG bs ht64 (aLg bs h16);generalize (Sha.sch bs t).getD (t-2) 0=x2 at g2 hs;generalize (Sha.sch bs t).getD (t-7) 0=x7 at g7 hs;generalize (Sha.sch bs t).getD (t-15) 0=x15 at g15 hs;generalize (Sha.sch bs t).getD (t-16) 0=x16 at g16 hs;refine W.k ?_;(refine SW.l [23] [0,1,2,3,4,6,7,8,9,11,12,13,14,17,18,19,20] ?_;refine aX 5 ?_);refine W.cq (aLo _) ?_;(refine SL.l [10] ?_;refine aX 15 ?_);refine W.cq (aLn _) ?_;(refine SL.l [16,21,22] ?_;refine bL 23 ?_;refine W.i ?_;refine SS.dn ?_);rw [hs];refine W.k ?_;refine aN.mk (t+1) ?_;omega
  have:t=64:=oQ;subst this;refine W.k ?_;refine bS.mk () ?_;trivial
 rintro _ -;have hl64:(lZ bs 64).length=64:=wV bs oQ;have hoc:OC (lZ bs 64):=inferInstance;generalize lZ bs 64=Z at hl64 hoc |-;refine W.k ?_;refine F.c0 Z ?_;exact⟨rfl,rfl⟩
def s8c(s:S8):LV:=[fJ s.a,fJ s.b,fJ s.c,fJ s.d,fJ s.e,fJ s.f,fJ s.g,fJ s.h]
instance(s:S8):OC (s8c s):=by unfold s8c;infer_instance
def hc(tp:Nat)(s:S8)(rv:Value)(n:Int):LV:=[.pointer (some ⟨tp,0,none⟩),fJ s.a,fJ s.b,fJ s.c,fJ s.d,fJ s.e,fJ s.f,fJ s.g,fJ s.h,rv,.int .i64 n]
instance(tp:Nat)(s:S8)(rv:Value)(n:Int) [One rv]:OC (hc tp s rv n):=by unfold hc;infer_instance
def S8.get(s:S8):Nat->UInt32
 | 0=>s.a
 | 1=>s.b
 | 2=>s.c
 | 3=>s.d
 | 4=>s.e
 | 5=>s.f
 | 6=>s.g
 | _=>s.h
def stk(s r:S8)(k:Nat):S8:=⟨if 0<k then s.a+r.a else s.a,if 1<k then s.b+r.b else s.b,if 2<k then s.c+r.c else s.c,if 3<k then s.d+r.d else s.d,if 4<k then s.e+r.e else s.e,if 5<k then s.f+r.f else s.f,if 6<k then s.g+r.g else s.g,if 7<k then s.h+r.h else s.h⟩
theorem lt8{k:Nat}(h:k<8):k=0\/k=1\/k=2\/k=3\/k=4\/k=5\/k=6\/k=7:=oQ
theorem aHn(s:S8){k:Nat}(h:k<8):(s8c s)[k]?=some (fJ (s.get k)):=by rcases lt8 h with rfl|rfl|rfl|rfl|rfl|rfl|rfl|rfl <;> rfl
theorem aPU(tp:Nat)(s:S8)(rv:Value)(n:Int){k:Nat}(h:k<8):(hc tp s rv n)[1+k]?=some (fJ (s.get k)):=by rcases lt8 h with rfl|rfl|rfl|rfl|rfl|rfl|rfl|rfl <;> rfl
theorem aOl(tp:Nat)(s r:S8)(rv:Value)(n:Int){k:Nat}(h:k<8):(hc tp (stk s r k) rv n).set (1+k) (fJ ((stk s r k).get k+r.get k))=hc tp (stk s r (k+1)) rv n:=by rcases lt8 h with rfl|rfl|rfl|rfl|rfl|rfl|rfl|rfl <;> rfl
theorem aQj(s r:S8):stk s r 8=Sha.plus s r:=rfl
theorem aM6{t:Nat}(h:t<64):mN[t]?=some (fJ (Sha.tabK.getD t 0)):=by unfold mN;rw [aJ (by rw [qJ];exact h),aIl h]
theorem aL4{p tp:Nat}(s:S8)(rv:Value) [hrv:One rv](n:Int)(a:Option Addr)(cap:Nat)(bs:LB)(hb:bs.length=64):Tri prog 217 [.pointer (some ⟨p,0,none⟩),.slice a 64 cap] [(p,cl (hc tp s rv n) 324),(tp,cl mN 211)] (fun w=>Rd [p,tp] w 1 (.slice a 64 cap) (cbs bs)) (fun v H=>v=.tuple #[]/\H=[(p,cl (hc tp (Sha.blk s bs) rv n) 324),(tp,cl mN 211)]):=by
 refine Tri.mt func217 ntmps217 fun w hw=>?_;have hlen:(hc tp s rv n).length=11:=rfl;have hs8:((hc tp s rv n).drop 1).take 8=s8c s:=rfl;have htab:∀ t,t<64->mN[t]?=some (fJ (Sha.tabK.getD t 0)):=fun t h=>aM6 h;generalize mN=TC at htab |-;refine W.j ?_;refine W.cq (aHo a cap bs hb) ?_ rfl (fun w2 hs=>hw.ro (Hc:=[]) hs);have hZ:∀ t,t<64->(lZ bs 64)[t]?=some (fJ ((Sha.sch bs 64).getD t 0)):=fun t h=>pS bs h;have hZl:(lZ bs 64).length=64:=wV bs oQ;have hZo:OC (lZ bs 64):=inferInstance;generalize lZ bs 64=Z at hZ hZl hZo |-;refine W.j fun _ b_=>?_;rename_i b4;have hzz:Sha.rnds s bs 0=s:=rfl;rw [show s8c s=s8c (Sha.rnds s bs 0) from rfl];refine SW.cut [0,5] [b_] (fun _:Unit=>[]) (fun _=>[(b_,cl (s8c (Sha.rnds s bs 64)) 322)]) NT ?_ ?_
 ·refine W.k ?_;refine cI [0,4,5] [b_] (fun t:Nat=>[(18,.int .i64 (t:Int))]) (fun t=>[(b_,cl (s8c (Sha.rnds s bs t)) 322)]) (fun t=>64-t) (fun t=>t<=64) 0 oQ ?_;intro t ht;by_cases ht64:t<64
  ·have hT:=htab t ht64;have hW:=hZ t ht64;have hstep:Sha.rnds s bs (t+1)=Sha.rnd (Sha.rnds s bs t) (Sha.tabK.getD t 0) ((Sha.sch bs 64).getD t 0):=rfl;generalize Sha.rnds s bs t=S at hstep |-;generalize Sha.tabK.getD t 0=K at hT hstep;generalize (Sha.sch bs 64).getD t 0=wt at hW hstep;have htl:t<TC.length:=(aD.1 hT).1;have hzl:t<Z.length:=oQ;have hbd:bV (fun i=>some (i*1,1)) (List.replicate 8 (.int .u32 0)) [(0,fJ (Sha.t1 S K wt+Sha.t2 S)),(1,fJ S.a),(2,fJ S.b),(3,fJ S.c),(4,fJ (S.d+Sha.t1 S K wt)),(5,fJ S.e),(6,fJ S.f),(7,fJ S.g)]=some (s8c (Sha.rnd S K wt)):=rfl;refine W.k ?_;refine aHB [0,4,5,6,7,8,18] ?_;rw [show (S.e &&& S.f ^^^ ~~~S.e &&& S.g)=Sha.ch S.e S.f S.g from rfl,show (S.a &&& S.b ^^^ S.a &&& S.c ^^^ S.b &&& S.c)=Sha.maj S.a S.b S.c from rfl];(refine SW.l [] [0,1,2,3,6,8,9,10,11,12,13,14,15,16,18,19,20] ?_;refine aX 4 ?_);refine W.cq (aKm _) ?_;(refine SL.l [5,7,17,21,22,23] ?_);refine aHB [0,4,5,8,9,18] ?_;rw [show S.h+Sha.S1 S.e+Sha.ch S.e S.f S.g+K+wt=Sha.t1 S K wt from rfl];refine W.k ?_;refine W.cw (aKl _) ?_;rw [<-hstep];refine aN.mk (t+1) ?_;omega
  have:t=64:=oQ;subst this;refine W.k ?_;refine bS.mk () ?_;trivial
 rintro _ -;have hfin:Sha.blk s bs=Sha.plus s (Sha.rnds s bs 64):=rfl;rw [hfin];clear hfin;generalize Sha.rnds s bs 64=S;have hzz2:stk s S 0=s:=rfl;rw [show hc tp s rv n=hc tp (stk s S 0) rv n from rfl];refine W.k ?_;refine cI [0,5] [p] (fun k:Nat=>[(98,.int .i64 (k:Int))]) (fun k=>[(p,cl (hc tp (stk s S k) rv n) 324)]) (fun k=>8-k) (fun k=>k<=8) 0 oQ ?_;intro k hk;by_cases hk8:k<8
 ·have h1:=aPU tp (stk s S k) rv n hk8;have h2:=aHn S hk8;have h3:=aOl tp s S rv n hk8;have hl1:1+k<(hc tp (stk s S k) rv n).length:=by show _<11;omega
  have hAo:OC (hc tp (stk s S k) rv n):=inferInstance;generalize hc tp (stk s S k) rv n=A at h1 h3 hl1 hAo |-;generalize (stk s S k).get k=x at h1 h3;generalize S.get k=y at h2 h3;refine W.k ?_;(refine SW.l [13] [0,1,2,3,4,5,6,7,8,9,10,11,12] ?_;refine bL 13 ?_;refine W.i ?_;refine SS.dn ?_);rw [h3];refine W.k ?_;refine aN.mk (k+1) ?_;omega
 have:k=8:=oQ;subst this;rw [aQj];refine W.k ?_;refine Fin.to [(p,cl (hc tp (Sha.plus s S) rv n) 324),(tp,cl TC 211)] ?_;refine F.f0 ?_;exact⟨rfl,rfl⟩
def byU(v:UInt64)(k:Nat):UInt8:=(v >>> UInt64.ofNat (8*k)).toUInt8
theorem aAV(v:UInt64){k:Nat}(hk:k<8):byU v k=UInt8.ofNat (v.toNat/256^k):=by
 have h1:(UInt64.ofNat (8*k)).toNat=8*k:=by rw [aU];omega
 apply kG.1;unfold byU;rw [UInt64.toNat_toUInt8,UInt64.toNat_shiftRight,h1,cX,eZ,dK (show 8*k<64 by omega),Nat.pow_mul]
theorem aN3(v:UInt64){n:Nat}(hn:n<=8):Sha.beN n v.toNat=(List.range n).map fun k=>byU v (n-1-k):=by unfold Sha.beN;apply eJ;intro k hk;rw [aAV v (by have:=eK.1 hk;omega)]
abbrev aKD(n:Nat)(v:UInt64):Value:=.agg [(.int .i64 (n:Int):Value),dZ v].toArray
theorem aQn(n:Nat)(v:UInt64)(k:Nat)(hk:k<8):Tri prog 239 [aKD n v,.int .i64 (k:Int)] [] NT (fun r H=>r=.int .u8 ((byU v k).toNat:Int)/\H=[]):=by refine Tri.mt func239 ntmps239 fun w hw=>?_;haveI i1:aIz (8*(k:Int)) (UInt64.ofNat (8*k)):=⟨by rw [aU];omega,by rw [aU];omega⟩;refine W.k fun b_=>?_;refine Fin.to [] ?_;refine F.f1 ?_;exact⟨rfl,rfl⟩
theorem aOc(n:Nat)(v:UInt64)(k:Nat)(hn:n<=8)(hk:k<n):Tri prog 257 [aKD n v,.int .i64 (k:Int)] [] NT (fun r H=>r=.int .u8 ((byU v (n-1-k)).toNat:Int)/\H=[]):=by
 refine Tri.mt func257 ntmps257 fun w hw=>?_;refine W.k fun b_=>?_;refine eC (aQn n v (n-1-k) oQ) ?_ ?_
 ·rw [show ((n:Int)-1-(k:Int))=((n-1-k:Nat):Int) by omega]
 rintro _ _ ⟨rfl,rfl⟩;refine W.k ?_;refine Fin.to [] ?_;refine F.f1 ?_;exact⟨rfl,rfl⟩
def oA(g:Nat->UInt8)(n k:Nat):LB:=(List.range k).map g++List.replicate (n-k) 0
theorem aDD(g:Nat->UInt8){n k:Nat}(h:k<=n):(oA g n k).length=n:=by simp [oA];omega
theorem aDE(g:Nat->UInt8){n k:Nat}(h:k<n):(cbs (oA g n k)).set k (.int .u8 ((g k).toNat:Int))=cbs (oA g n (k+1)):=by unfold oA;unfold cbs;rw [aZ,bY _ _ (by simp),aC,aC,dR,dO,show n-k=(n-(k+1))+1 by omega,fI,eE,fR,bT];simp
theorem aDC(g:Nat->UInt8)(n:Nat):oA g n n=(List.range n).map g:=by simp [oA]
theorem aHG(n:Nat)(v:UInt64)(g:Nat->UInt8)(f:FuncId) [bC prog f](us:LV)(hn:1<=n)(hn8:n<=8)(hg:∀ k,k<n->Tri prog f (us++[.int .i64 (k:Int)]++[]) [] NT (fun r H=>r=.int .u8 ((g k).toNat:Int)/\H=[])):Tri prog 238 [aKD n v,.func (.func f) us.toArray #[]] [] NT (fun r H=>∃ b,r=.slice (some ⟨b,0,none⟩) n n/\H=[(b,cl (cbs ((List.range n).map g)) 5)]):=by
 refine Tri.mt func238 ntmps238 fun w hw=>?_;refine W.j fun _ b_=>?_;rw [show zs [.int .u8 0] n=cbs (oA g n 0) by rw [lJ];simp [oA]];refine SW.cut [5] [b_] (fun _:Unit=>[]) (fun _=>[(b_,cl (cbs (oA g n n)) 5)]) NT ?_ ?_
 ·refine W.k ?_;refine cI [1,5,19] [b_] (fun k:Nat=>[(20,.int .i64 (k:Int))]) (fun k=>[(b_,cl (cbs (oA g n k)) 5)]) (fun k=>n-k) (fun k=>k<=n) 0 oQ ?_;intro k hk;by_cases hkn:k<n
  ·have hlen:k<(cbs (oA g n k)).length:=by rw [aC,aDD g hk];exact hkn
   refine W.k ?_;refine dN [] rfl rfl rfl rfl rfl rfl (hg k hkn) (fun _ _=>trivial) ?_;rintro _ _ ⟨rfl,rfl⟩;refine W.k ?_;rw [aDE g hkn];refine aN.mk (k+1) ?_;omega
  have:k=n:=oQ;subst this;refine W.k ?_;refine bS.mk () ?_;trivial
 rintro _ -;refine W.k ?_;rw [aDC];refine Fin.to [(b_,cl (cbs ((List.range n).map g)) 5)] ?_;refine F.f1 ?_;exact⟨b_,rfl,rfl⟩
theorem aCz(n:Nat)(v:UInt64)(hn:1<=n)(hn8:n<=8):Tri prog 219 [.int .i64 (n:Int),dZ v] [] NT (fun r H=>∃ b,r=.slice (some ⟨b,0,none⟩) n n/\H=[(b,cl (cbs (Sha.beN n v.toNat)) 5)]):=by refine Tri.mt func219 ntmps219 fun w hw=>?_;refine W.k fun b_=>?_;refine aF (aHG n v (fun k=>byU v (n-1-k)) 257 [aKD n v] hn hn8 (fun k hk=>aOc n v k hn8 hk)) ?_;rintro _ _ ⟨b,rfl,rfl⟩;refine W.k ?_;rw [<-aN3 v hn8];refine Fin.to [(b,cl (cbs (Sha.beN n v.toNat)) 5)] ?_;refine F.f1 ?_;exact⟨b,rfl,rfl⟩
theorem aPv(n:Nat)(hn:n<=1099511627776):Tri prog 218 [.int .i64 (n:Int)] [] NT (fun r H=>Sl 5 1 r (cbs (Sha.padN n)) H):=by
 refine Tri.mt func218 ntmps218 fun w hw=>?_;haveI i1:eB ((119-(n:Int)%64)%64) ((119-n%64)%64):=⟨oQ⟩;have hv8:(8*UInt64.ofNat n).toNat=8*n:=by have e8:(8:UInt64).toNat=8:=rfl;rw [pD,aU,e8];omega
 refine W.k fun b_=>?_;have h1:Sl 5 1 (.slice (some ⟨b_,0,none⟩) 1 1) [.int .u8 128] [(b_,cl (([.int .u8 128]:LV)++[]) 5)]:=Sl.mk (len:=1) (cap:=1) rfl rfl (Nat.le_refl _);refine aNh h1 ?_ (bytes:=1) (hp:=eY.self _) (hbytes:=by simp only [aW,List.length_nil];omega);intro v1 H1 h2;have hV:=h2.isOne;obtain⟨a,len,cap,rfl,hl⟩:=h2.form;refine W.k ?_;refine eC (aCz 8 (8*UInt64.ofNat n) oQ oQ) rfl ?_;rintro _ _ ⟨b2,rfl,rfl⟩;rw [hv8];refine W.ap (ys:=cbs (Sha.beN 8 (8*n))) (mm:=8) h2 (fun w hs=>?_) ?_ (hys:=by simp [Sha.beN_len]) (hbytes:=by simp [Sha.beN_len];omega)
 ·exact eQ.block hs.at (by rw [bQ,aK (by simp [Sha.beN_len])]) (by simp [Sha.beN_len])
 intro v3 H3 h3;have:=h3.isOne;refine W.k ?_;refine Fin.to H3 ?_;refine F.f1 ?_;have e:cbs (Sha.padN n)=[.int .u8 128]++List.replicate ((119-n%64)%64) (.int .u8 0)++cbs (Sha.beN 8 (8*n)):=by simp [Sha.padN]
 rw [e];exact h3
namespace Sha
theorem absN_snd:∀ (j:Nat) (s:S8) (m:LB),(absN j s m).2=m.drop (64*j)
 | 0,s,m=>by simp [absN]
 | j+1,s,m=>by rw [absN,absN_snd j,cG];congr 1;omega
theorem absN_fst:∀ (j:Nat) (s:S8) (m:LB),(absN (j+1) s m).1=blk (absN j s m).1 ((m.drop (64*j)).take 64)
 | 0,s,m=>by simp [absN]
 | j+1,s,m=>by rw [absN,absN_fst j,absN,cG];congr 3;omega
end Sha
def aDh(k:Nat):S8:=⟨if 0<k then Sha.ini.a else 0,if 1<k then Sha.ini.b else 0,if 2<k then Sha.ini.c else 0,if 3<k then Sha.ini.d else 0,if 4<k then Sha.ini.e else 0,if 5<k then Sha.ini.f else 0,if 6<k then Sha.ini.g else 0,if 7<k then Sha.ini.h else 0⟩
theorem aKp(tp:Nat)(rv:Value)(n:Int){k:Nat}(h:k<8):(hc tp (aDh k) rv n).set (1+k) (fJ (Sha.tabH.getD k 0))=hc tp (aDh (k+1)) rv n:=by rcases lt8 h with rfl|rfl|rfl|rfl|rfl|rfl|rfl|rfl <;> rfl
theorem aPt(tp:Nat):Tri prog 163 [.pointer (some ⟨tp,0,none⟩)] [(tp,cl mN 211)] NT (fun v H=>∃ p,v=.pointer (some ⟨p,0,none⟩)/\H=[(p,cl (hc tp Sha.ini (.slice none 0 0) 0) 324),(tp,cl mN 211)]):=by
 refine Tri.mt func163 ntmps163 fun w hw=>?_;have hT:(mN.drop 64).take 8=mE 8 Sha.tabH 8:=by unfold mN;rw [eR (qJ _ _ _),aK (by rw [qJ];exact Nat.le_refl _)]
 generalize mN=TC at hT |-;refine W.j fun b_=>?_;rw [show (List.take 0 ([Value.pointer none]++List.replicate 8 (Value.int .u32 0)++[Value.slice none 0 0]++[Value.int .i64 0])++vl (.pointer (some ⟨tp,0,none⟩))++List.drop (0+1) ([Value.pointer none]++List.replicate 8 (Value.int .u32 0)++[Value.slice none 0 0]++[Value.int .i64 0]))=hc tp (aDh 0) (.slice none 0 0) 0 from rfl];refine bP [3] [(b_,cl (hc tp (aDh 0) (.slice none 0 0) 0) 324)] (fun _:Unit=>[]) (fun _=>[(b_,cl (hc tp (aDh 8) (.slice none 0 0) 0) 324)]) NT ?_ ?_
 ·refine W.k ?_;refine bE [3,14] (fun k:Nat=>[(15,.int .i64 (k:Int))]) (fun k=>[(b_,cl (hc tp (aDh k) (.slice none 0 0) 0) 324)]) (fun k=>8-k) (fun k=>k<=8) 0 oQ ?_;intro k hk;by_cases hk8:k<8
  ·have h1:(mE 8 Sha.tabH 8)[k]?=some (fJ (Sha.tabH.getD k 0)):=aIl hk8;have h3:=aKp tp (.slice none 0 0) 0 hk8;have hl1:1+k<(hc tp (aDh k) (.slice none 0 0) 0).length:=by show _<11;omega
   have hAo:OC (hc tp (aDh k) (.slice none 0 0) 0):=inferInstance;generalize hc tp (aDh k) (.slice none 0 0) 0=A at h3 hl1 hAo |-;generalize Sha.tabH.getD k 0=y at h1 h3;refine W.k ?_;rw [h3];refine aN.mk (k+1) ?_;omega
  have:k=8:=oQ;subst this;refine W.k ?_;refine bS.mk () ?_;trivial
 rintro _ -;rw [show aDh 8=Sha.ini from rfl];refine W.k ?_;refine F.f1 ?_;exact⟨b_,rfl,rfl⟩
abbrev mI(M:LB):S8×LB:=Sha.absorb Sha.ini M
theorem aJT(M k:LB):mI (M++k)=Sha.absorb (mI M).1 ((mI M).2++k):=Sha.absorb_app k _ _ _ (Nat.le_refl _)
theorem aJU(M:LB):(mI M).2.length=M.length%64:=Sha.absorb_len _ _ _ (Nat.le_refl _)
theorem tX(bss:LL){i:Nat}{bs:LB}(h:bss[i]?=some bs):(bss.take (i+1)).flatten=(bss.take i).flatten++bs:=by rw [aY,h,dI,mX];simp
theorem aBU(bss:LL)(i:Nat):(bss.take i).flatten.length<=bss.flatten.length:=by
 have:bss.flatten=(bss.take i).flatten++(bss.drop i).flatten:=by rw [<-mX,dF]
 rw [this,aB];omega
theorem aHC{p tp:Nat}(M:LB)(n:Nat)(bss:LL){rv:Value}{Hs:Hp}(hrv:Sl 5 1 rv (cbs (mI M).2) Hs)(pv:Value)(hn:n+bss.flatten.length<=1099511627776)(hn2:bss.length<=1099511627776):Tri prog 164 [.pointer (some ⟨p,0,none⟩),pv] ((p,cl (hc tp (mI M).1 rv n) 324)::(tp,cl mN 211)::Hs) (fun w=>RdS (p::tp::Hs.map Prod.fst) w pv bss) (fun v H=>v=.tuple #[]/\∃ rv' Hs' Ho,Sl 5 1 rv' (cbs (mI (M++bss.flatten)).2) Hs'/\(bss=[]/\rv'=rv/\Hs'=Hs/\Ho=[]\/bss≠[]/\Sl 5 1 rv (cbs (mI M).2) Ho) /\ H=(p,cl (hc tp (mI (M++bss.flatten)).1 rv' (n+bss.flatten.length:Nat)) 324)::(tp,cl mN 211)::(Hs'++Ho)):=by
 refine Tri.mt func164 ntmps164 fun w hw=>?_;have hrv1:=hrv.isOne;obtain⟨vs,hR,hvl,hvs⟩:=hw;obtain⟨pa,pl,pc,rfl,hpl,hpc,hpr⟩:=hR;rw [Nat.mul_one] at hpl;have hbl:bss.length=pl:=oQ;have e0:hc tp (mI M).1 rv n=hc tp (mI (M++(bss.take 0).flatten)).1 rv (n+(bss.take 0).flatten.length:Nat):=by simp
 refine W.k ?_;rw [e0];refine bE (hp:=by dsimp only;infer_instance) [0,9,10] (fun x:Nat×Value×Hp×Hp=>[(11,.int .i64 (x.1:Int))])
  (fun x=>(p,cl (hc tp (mI (M++(bss.take x.1).flatten)).1 x.2.1 (n+(bss.take x.1).flatten.length:Nat)) 324)::(x.2.2.1++x.2.2.2)) (fun x=>pl-x.1)
  (fun x=>x.1<=pl/\Sl 5 1 x.2.1 (cbs (mI (M++(bss.take x.1).flatten)).2) x.2.2.1/\(x.1=0/\x.2.1=rv/\x.2.2.1=Hs/\x.2.2.2=[]\/0<x.1/\Sl 5 1 rv (cbs (mI M).2) x.2.2.2)) (0,rv,Hs,[]) ?_ ?_
 ·refine⟨Nat.zero_le _,?_,.inl ⟨rfl,rfl,rfl,rfl⟩⟩;simpa using hrv
 rintro⟨i,rvi,Hi,Ho⟩ ⟨hi,hsi,hor⟩;dsimp only at hi hsi hor |-;by_cases hip:i<pl
 ·obtain⟨bs,hbs⟩:∃ bs,bss[i]?=some bs:=⟨_,aA oQ⟩;obtain⟨a,len,cap,hvi,hrd⟩:=hvs i bs hbs;have hfl:=aBU bss (i+1);have hA:=aJT (M++(bss.take i).flatten) bs;rw [aT,<-tX bss hbs] at hA;have hf2:=tX bss hbs;have hAl:=aJU (M++(bss.take i).flatten);obtain⟨pb,po,l,T,fz,rfl,hpb,hpk,hpy⟩:=hpr.resolve_left oQ;have hl:l[po+i]?=some (.slice a len cap):=by rw [<-hpy,bD,if_pos oQ,bH] at hvi;exact hvi
  obtain⟨hbsl,hlc⟩:=hrd.len1;have hNl:((bss.take (i+1)).flatten).length=((bss.take i).flatten).length+len:=by rw [hf2,aB,hbsl]
  have hA0:i=0->mI (M++(bss.take i).flatten)=mI M:=by rintro rfl;simp
  generalize mI (M++(bss.take i).flatten)=A at hsi hA hAl hA0 |-;have hN:n+(bss.take i).flatten.length+len<=1099511627776:=oQ;have hN1:n+(bss.take (i+1)).flatten.length=n+(bss.take i).flatten.length+len:=oQ;have hmm:A.2.length<=64:=oQ;generalize n+(bss.take i).flatten.length=N at hN hN1 |-;obtain⟨S,m⟩:=A;dsimp only at hsi hA hmm |-;have hsi1:=hsi.isOne;obtain⟨ra,rl,rc,rfl,hrl⟩:=hsi.form;haveI:OC (hc tp S (.slice ra rl rc) N):=inferInstance;refine W.k ?_;rw [show (hc tp S (Value.slice ra rl rc) (N:Int)).set 10 (.int .i64 ((N:Int)+(len:Int)))=hc tp S (.slice ra rl rc) ((N+len:Nat):Int) from rfl];refine aPD hsi (fun w2 hs=>hrd.srcAt hs) (fun v1 Hv Hf Hr Hoo h1 hr hperm=>?_) (hys:=by simp;omega) (hbytes:=by simp;omega);have h11:=h1.isOne;obtain⟨va,vl,vc,rfl,-⟩:=h1.form;obtain⟨hvl1,hvc,hva⟩:=h1.lens;have h1':Sl 5 1 (.slice va vl vc) (cbs (m++bs)) Hv:=by rw [iW];exact h1
  have hM1:(m++bs).length=vl:=by simpa using hvl1
  have hvl4:vl<=1099511627776+64:=by rw [aB] at hM1;omega
  clear h1 hvl1;generalize m++bs=M1 at h1' hM1 hA;have hab:Sha.absorb S M1=Sha.absN (M1.length/64) S M1:=rfl;have hab2:(Sha.absorb S M1).2=M1.drop (64*(M1.length/64)):=by rw [hab,Sha.absN_snd]
  refine W.j ?_;refine SW.cut [0,9,10,11] [p] (fun _:Unit=>[(6,.int .i64 ((64*(M1.length/64):Nat):Int))]) (fun _=>[(p,cl (hc tp (Sha.absorb S M1).1 (.slice va vl vc) ((N+len:Nat):Int)) 324)]) NT ?_ ?_
  ·refine W.k ?_;refine cI [0,9,10,11] [p] (fun j:Nat=>[(6,.int .i64 ((64*j:Nat):Int))]) (fun j=>[(p,cl (hc tp (Sha.absN j S M1).1 (.slice va vl vc) ((N+len:Nat):Int)) 324)]) (fun j=>M1.length-j) (fun j=>64*j<=M1.length) 0 oQ ?_;intro j hj;by_cases h64:64*j+64<=vl
   ·obtain⟨vb,rfl⟩:=hva.resolve_left oQ;refine W.k ?_;refine eC (aL4 (p:=p) (tp:=tp) (Sha.absN j S M1).1 (.slice (some ⟨vb,0,none⟩) vl vc) ((N+len:Nat):Int) (some ⟨vb,64*j,none⟩) (vc-64*j) ((M1.drop (64*j)).take 64) (by simp;omega)) ?_ ?_ (hpre:=fun w2 hs=>?_)
    ·rw [show 64*j+64-64*j=64 by omega]
    ·rintro _ _ ⟨rfl,rfl⟩;rw [<-Sha.absN_fst];refine W.k ?_;rw [show ((64*j:Nat):Int)+64=((64*(j+1):Nat):Int) by omega];refine aN.mk (j+1) ?_;omega
    have h2:=(Rd.ownB [p,tp] h1' hs).sub (64*j) (64*j+64) (vc-64*j) oQ oQ oQ;rw [show 64*j+64-64*j=64 by omega,fT] at h2;exact h2
   have hje:j=M1.length/64:=oQ;subst hje;rw [<-hab];refine W.k ?_;refine bS.mk () ?_;trivial
  rintro _ -;refine W.k ?_;refine aPJ ?_ hvc;refine W.k ?_;refine W.ap (Sl.nil _ _) (fun w2 hs=>h1'.srcFrom oQ hs inferInstance) (fun v3 H3 h3=>?_) (mm:=vl-64*(M1.length/64)) (ys:=(cbs M1).drop (64*(M1.length/64))) (hys:=by rw [bG,aI];omega) (hbytes:=by rw [bG,aI,List.length_nil];omega);rw [List.nil_append,aCm,<-hab2,<-hA] at h3;rw [<-hA];have h31:=h3.isOne;haveI:eY (Hv++Hf) Hr Hoo:=⟨hperm⟩;refine W.k ?_;rw [show ∀ S:S8,(hc tp S (Value.slice va vl vc) ((N+len:Nat):Int)).set 9 v3=hc tp S v3 ((N+len:Nat):Int) from fun _=>rfl,<-hN1];refine W.k ?_;rcases hor with ⟨h0,hor1,hor2,hor3⟩|⟨h0,hor1⟩
  ·refine aN.mk (i+1,v3,H3,Hr) ?_;exact⟨oQ,h3,.inr ⟨oQ,by rw [<-hA0 h0,<-hor1];exact hr⟩⟩
  refine aN.mk (i+1,v3,H3,Ho) ?_;exact⟨oQ,h3,.inr ⟨oQ,hor1⟩⟩
 have hi2:i=pl:=oQ;subst hi2;have hall:bss.take i=bss:=aK oQ;rw [hall] at hsi |-;refine W.k ?_;refine Fin.to ((p,cl (hc tp (mI (M++bss.flatten)).1 rvi (n+bss.flatten.length:Nat)) 324)::(tp,cl mN 211)::(Hi++Ho)) ?_;refine F.f0 ?_;refine⟨rfl,rvi,Hi,Ho,hsi,?_,rfl⟩;rcases hor with ⟨h0,h1,h2,h3⟩|⟨h0,h1⟩
 ·exact .inl ⟨bI oQ,h1,h2,h3⟩
 exact .inr ⟨fun h=>by rw [h] at hbl;simp at hbl;omega,h1⟩
theorem F.cH{P:Program}{C:Ctx}{A:Fr}{H:Hp}{fn:Func}{R:Value->Hp->Prop}{e:Exit}{t ty n b:Nat}{l:LV}{T:TypeId}(Hc:Hp){s:Hp}(l2:LV) [hp:eY H Hc s](hR:R (.agg l2.toArray) Hc)(he:e=.ret\/e=.normal:=by first|exact .inl rfl|exact .inr rfl)(hrs:fn.results=#[.cell t ty]:=by exact rfl)(ht:lk A t=some (.pointer (some ⟨b,0,none⟩)):=by exact rfl)(hat:At H b (cl l T):=by infer_instance)(hl:l=l2:=by first|assumption|exact rfl)(iR:fB P ty n:=by infer_instance)(hn:l2.length=n:=by first|assumption|exact rfl):Fin P C fn R e A H:=by subst hl;exact Fin.c1 he hrs ht hn Hc hR
def tJ(s:S8)(k:Nat):LV:=cbs ((Sha.outB s).take (4*k)++List.replicate (32-4*k) 0)
theorem aGe(s:S8){k:Nat}(h:k<=8):(tJ s k).length=32:=by unfold tJ;rw [aI,aB,aH,Sha.outB_len,bA];omega
theorem aKI(s:S8){k:Nat}(h:k<8):(tJ s k).take (4*k)++cbs (Sha.beN 4 (s.get k).toNat)++(tJ s k).drop (4*k+(cbs (Sha.beN 4 (s.get k).toNat)).length)=tJ s (k+1):=by rcases lt8 h with rfl|rfl|rfl|rfl|rfl|rfl|rfl|rfl <;> rfl
theorem aKH(s:S8):tJ s 8=cbs (Sha.outB s):=by unfold tJ;rw [aK (by rw [Sha.outB_len];exact Nat.le_refl _)];simp
instance(s:S8)(k:Nat):OC (tJ s k):=by unfold tJ;infer_instance
theorem aNI{p tp:Nat}(M:LB){rv:Value}{Hs:Hp}(hrv:Sl 5 1 rv (cbs (mI M).2) Hs)(hn:M.length<=1099511627000):Tri prog 165 [.pointer (some ⟨p,0,none⟩)] ((p,cl (hc tp (mI M).1 rv M.length) 324)::(tp,cl mN 211)::Hs) NT (fun v H=>v=.agg (cbs (Sha.sum M)).toArray/\∃ Hs',Sl 5 1 rv (cbs (mI M).2) Hs'/\H=(p,cl (hc tp (mI M).1 rv M.length) 324)::(tp,cl mN 211)::Hs'):=by
 refine Tri.mt func165 ntmps165 fun w hw=>?_;have hrv1:=hrv.isOne;obtain⟨ra,rl,rc,rfl,-⟩:=hrv.form;have hs8:((hc tp (mI M).1 (.slice ra rl rc) M.length).drop 1).take 8=s8c (mI M).1:=rfl;have hbd:bV (fun i=>[(0,1),(1,8),(9,1),(10,1)][i]?) ([.pointer none]++List.replicate 8 (.int .u32 0)++[.slice none 0 0]++[.int .i64 0]) [(0,.pointer (some ⟨tp,0,none⟩)),(1,.agg (s8c (mI M).1).toArray),(2,.slice ra rl rc)]=some (hc tp (mI M).1 (.slice ra rl rc) ((0:Nat):Int)):=rfl;have hlen:(hc tp (mI M).1 (.slice ra rl rc) M.length).length=11:=rfl;refine W.k fun _ b_=>?_;rename_i b2;(refine SW.l [13] [0,1,2,3,4,5,6,7,8,9,10,11,12] ?_;refine bL 13 ?_;refine W.i fun b_=>?_;refine SG.l [14,15] ?_);rename_i b3;refine W.j ?_;refine aF (aPv M.length oQ) ?_;intro vP HP hP;have hP1:=hP.isOne;obtain⟨pa,pl,pc,rfl,-⟩:=hP.form;have hpl:=Sha.padN_len M.length;have hpl2:(Sha.padN M.length).length<=73:=by simp [Sha.padN,Sha.beN_len];omega
 have hbl:bV (fun i=>some (i*1,1)) (zs [.slice none 0 0] 1) [(0,.slice pa pl pc)]=some [.slice pa pl pc]:=rfl;refine W.j fun b_=>?_;rename_i b4;refine aF (aHC (p:=b4) (tp:=tp) M 0 [Sha.padN M.length] hrv (.slice (some ⟨b_,0,none⟩) 1 1) (by simp;omega) (by simp)) ?_ (hpre:=fun w2 hs=>?_)
 ·rintro _ _ ⟨rfl,rv',Hs',Ho,hrv',hor,rfl⟩;have hfl:[Sha.padN M.length].flatten=Sha.padN M.length:=by simp
  rw [hfl] at hrv' |-;have hsum:Sha.outB (mI (M++Sha.padN M.length)).1=Sha.sum M:=rfl;have hHo:Sl 5 1 (.slice ra rl rc) (cbs (mI M).2) Ho:=by
   rcases hor with ⟨h,-⟩|⟨-,h⟩
   ·simp at h
   exact h
  generalize ((0+(Sha.padN M.length).length:Nat):Int)=N;generalize (mI (M++Sha.padN M.length)).1=S at hsum |-;have hlen2:(hc tp S rv' N).length=11:=rfl;have hs82:((hc tp S rv' N).drop 1).take 8=s8c S:=rfl;refine W.j ?_;rw [show List.replicate 32 (Value.int .u8 0)=tJ S 0 from rfl];refine SW.cut [2,3] [b3] (fun _:Unit=>[]) (fun _=>[(b3,cl (tJ S 8) 91)]) NT ?_ ?_
  ·refine W.k ?_;refine cI [2,3,35] [b3] (fun k:Nat=>[(36,.int .i64 (k:Int))]) (fun k=>[(b3,cl (tJ S k) 91)]) (fun k=>8-k) (fun k=>k<=8) 0 oQ ?_;intro k hk;by_cases hk8:k<8
   ·have h2:=aHn S hk8;have h3:=aKI S hk8;have hl32:=aGe S hk;have hy4:(cbs (Sha.beN 4 (S.get k).toNat)).length=4:=by rw [aI,Sha.beN_len]
    generalize tJ S k=A at h3 hl32 |-;generalize S.get k=y at h2 h3 hy4;refine W.k ?_;(refine SW.l [] [0,1] ?_;refine dS 2 rfl (aMD rfl rfl rfl oQ) ?_;refine SG.l [3,4] ?_;refine aX 5 ?_);refine aF (aCz 4 y.toUInt64 oQ oQ) ?_;rintro _ _ ⟨b5,rfl,rfl⟩;rw [UInt32.toNat_toUInt64];(refine bB [] ?_;refine aX 6 ?_);refine W.cy (ys:=cbs (Sha.beN 4 y.toNat)) (mm:=4) (fun w2 hs=>?_) ?_
    ·exact eQ.block (l:=cbs (Sha.beN 4 y.toNat)) hs.at (by rw [bQ,aK oQ]) oQ
    rw [h3];(refine bB [] ?_;refine SS.dn ?_);refine W.k ?_;refine aN.mk (k+1) ?_;omega
   have:k=8:=oQ;subst this;refine W.k ?_;refine bS.mk () ?_;trivial
  rintro _ -;rw [aKH,hsum];refine W.k ?_;refine F.cH ((p,cl (hc tp (mI M).1 (.slice ra rl rc) M.length) 324)::(tp,cl mN 211)::Ho) (cbs (Sha.sum M)) ?_;exact⟨rfl,Ho,hHo,rfl⟩
 refine RdS.at (T:=31) (fz:=(0,0)) (Hc:=(b4,cl (hc tp (mI M).1 (.slice ra rl rc) ((0:Nat):Int)) 324)::(tp,cl mN 211)::Hs) (vs:=[.slice pa pl pc]) (bss:=[Sha.padN M.length]) hs rfl (Nat.le_refl _) rfl ?_;intro i bs hi;have hi0:i=0:=by have:=(aD.1 hi).1;simp at this;omega
 subst hi0;simp at hi;subst hi;exact⟨_,_,_,rfl,Rd.own (Hc:=(b4,cl (hc tp (mI M).1 (.slice ra rl rc) ((0:Nat):Int)) 324)::(tp,cl mN 211)::Hs) hP hs inferInstance⟩
theorem aNV{tp:Nat}(bss:LL)(pv:Value) [hpv:One pv](hn:bss.flatten.length<=1099511627000)(hn2:bss.length<=1099511627776):Tri prog 89 [.pointer (some ⟨tp,0,none⟩),pv] [(tp,cl mN 211)] (fun w=>RdS [tp] w pv bss) (fun v H=>v=.agg (cbs (Sha.sum bss.flatten)).toArray/\H=[(tp,cl mN 211)]):=by
 refine Tri.mt func89 ntmps89 fun w hw=>?_;refine W.k fun b_=>?_;refine aF (aPt tp) ?_;rintro _ _ ⟨p,rfl,rfl⟩;refine W.k ?_;rw [show hc tp Sha.ini (.slice none 0 0) 0=hc tp (mI []).1 (.slice none 0 0) ((0:Nat):Int) from rfl];refine aF (aHC (p:=p) (tp:=tp) [] 0 bss (Sl.nil _ _) pv oQ hn2) ?_ (hpre:=fun w2 hs=>?_)
 ·rintro _ _ ⟨rfl,rv',Hs',Ho,hrv',hor,rfl⟩;rw [List.nil_append] at hrv';rw [List.nil_append,fT];have h1:=hrv'.isOne;refine W.k ?_;refine aF (aNI (p:=p) (tp:=tp) bss.flatten hrv' hn) ?_;rintro _ _ ⟨rfl,Hs2,-,rfl⟩;have hl:(cbs (Sha.sum bss.flatten)).length=32:=by rw [aI,Sha.sum_len]
  refine W.k ?_;refine F.cH [(tp,cl mN 211)] (cbs (Sha.sum bss.flatten)) ?_;exact⟨rfl,rfl⟩
 exact hw.ro (Hc:=[(p,cl (hc tp (mI []).1 (.slice none 0 0) ((0:Nat):Int)) 324),(tp,cl mN 211)]) hs
theorem bs1(a:Option Addr)(l c:Nat):List.take (0*1) (zs [.slice none 0 0] 1)++vl (.slice a l c)++List.drop (0*1+1) (zs [.slice none 0 0] 1)=[.slice a l c]:=rfl
end
def leN(n:Nat)(v:UInt64):LB:=(List.range n).map (byU v)
theorem dV(n:Nat)(v:UInt64):(leN n v).length=n:=by simp [leN]
theorem aKs{a b:Nat}(ha:a<4294967296)(hb:b<4294967296)(h:leN 4 (UInt64.ofNat a)=leN 4 (UInt64.ofNat b)):a=b:=by
 have hA:(UInt64.ofNat a).toNat=a:=by rw [aU];omega
 have hB:(UInt64.ofNat b).toNat=b:=by rw [aU];omega
 have e:∀ k,k<4->byU (UInt64.ofNat a) k=byU (UInt64.ofNat b) k:=by intro k hk;have:=congrArg (fun l=>l[k]?) h;simpa [leN,hk] using this
 have f:∀ k,k<4->a/256^k%256=b/256^k%256:=by intro k hk;have:=congrArg UInt8.toNat (e k hk);rw [aAV _ oQ,aAV _ oQ,cX,cX,hA,hB] at this;exact this
 have f0:=f 0 oQ;have f1:=f 1 oQ;have f2:=f 2 oQ;have f3:=f 3 oQ;simp only [uA,fE,Nat.one_mul,Nat.div_one] at f0 f1 f2 f3;omega
def dep(n:Nat):Nat:=if n<=1 then 0 else (n-1).log2+1
theorem yU(n:Nat):n<=2^dep n:=by
 unfold dep;by_cases h:n<=1
 ·rw [if_pos h];simpa using h
 rw [if_neg h];have:=Nat.lt_log2_self (n:=n-1);omega
theorem aJ8{n e:Nat}(h:e<dep n):2^e<n:=by
 unfold dep at h;by_cases h1:n<=1
 ·rw [if_pos h1] at h;omega
 rw [if_neg h1] at h;have h2:=Nat.log2_self_le (n:=n-1) oQ;have h3:2^e<=2^(n-1).log2:=dD oQ oQ;omega
theorem aFJ{n d:Nat}(h1:n<=2^d)(h2:∀ e,e<d->2^e<n):d=dep n:=by
 rcases rY d (dep n) with h|h|h
 ·have:=aJ8 h;omega
 ·exact h
 have:=h2 _ h;have:=yU n;omega
theorem uF{n k:Nat}(h:n<=2^k):dep n<=k:=by
 rcases mP k (dep n) with h1|h1
 ·have:=aJ8 h1;omega
 exact h1
section
variable {J:Type}{n:Nat}
theorem dH{L:List (List J)}(h:∀ x∈L,x.length=n):L.flatten.length=L.length*n:=by
 induction L with
 | nil=>simp
 | cons a t ih=>
  rw [eU,aB,ih fun x hx=>h x (cV _ hx),h a (gZ ..),aW,gD,Nat.add_comm]
theorem aCw{L:List (List J)}(h:∀ x∈L,x.length=n)(i:Nat):L.flatten.take (i*n)=(L.take i).flatten:=by
 induction L generalizing i with
 | nil=>simp
 | cons a t ih=>
  cases i with
  | zero=>simp
  | succ i=>
   have ha:=h a (gZ ..)
   rw [eU,qV,eU,iO,ha,aK (by rw [ha,gD];omega),show (i+1)*n-n=i*n by rw [gD];omega,ih fun x hx=>h x (cV _ hx)]
theorem yX{L:List (List J)}(h:∀ x∈L,x.length=n)(i:Nat):L.flatten.drop (i*n)=(L.drop i).flatten:=by
 induction L generalizing i with
 | nil=>simp
 | cons a t ih=>
  cases i with
  | zero=>simp
  | succ i=>
   have ha:=h a (gZ ..)
   rw [eU,List.drop_succ_cons,gM,ha,gN (by rw [ha,gD];omega),List.nil_append,show (i+1)*n-n=i*n by rw [gD];omega,ih fun x hx=>h x (cV _ hx)]
theorem tC{L:List (List J)}{x:List J}(h:∀ x∈L,x.length=n){i:Nat}(hi:L[i]?=some x):(L.flatten.drop (i*n)).take n=x:=by have hx:=h x (aP hi);obtain⟨hl,hv⟩:=aD.1 hi;rw [yX h,bK hl,eU,hv,iO,hx,dO,cU,aG,aK oQ]
theorem aIO{L:List (List J)}{x:List J}(h:∀ x∈L,x.length=n){i:Nat}(hi:i<L.length):L.flatten.take (i*n)++x++L.flatten.drop (i*n+n)=(L.set i x).flatten:=by rw [aCw h,show i*n+n=(i+1)*n by rw [gD],yX h,fY,if_pos hi];simp
end
theorem aBQ{L:LL}{x:LB}{n:Nat}(h:∀ x∈L,x.length=n){i:Nat}(hi:L[i]?=some x):((cbs L.flatten).drop (i*n)).take n=cbs x:=by rw [<-tC h hi];simp [cbs,iD,gX]
theorem aHH{L:LL}{x:LB}{n:Nat}(h:∀ x∈L,x.length=n){i:Nat}(hi:i<L.length):(cbs L.flatten).take (i*n)++cbs x++(cbs L.flatten).drop (i*n+n)=cbs (L.set i x).flatten:=by rw [<-aIO h hi];simp [cbs,iD,gX]
theorem aMY{J:Type}{n:Nat}{L:List (List J)}{x:List J}{i:Nat}(h:∀ x∈L,x.length=n)(hx:x.length=n):∀ y∈L.set i x,y.length=n:=by
 intro y hy;rcases gT hy with h1|rfl
 ·exact h y h1
 exact hx
abbrev z32:LB:=List.replicate 32 0
def wK(level i:Nat)(x y:LB):LB:=1::[[UInt8.ofNat level],leN 4 (UInt64.ofNat i),x,y].flatten
def mW(n:Nat)(x:LB):LB:=2::[leN 4 (UInt64.ofNat n),x].flatten
def fV(k:Nat)(b:LB):LB:=0::[leN 4 (UInt64.ofNat k),b].flatten
def oE(level i:Nat)(x y:LB):LB:=Sha.sum (wK level i x y)
theorem xL(level i:Nat)(x y:LB):(oE level i x y).length=32:=Sha.sum_len _
def atV(l:LL):Nat->Nat->LB
 | 0,i=>l.getD i z32
 | d+1,i=>oE (d+1) i (atV l d (2*i)) (atV l d (2*i+1))
def D32(l:LL):Prop:=∀ x∈l,x.length=32
theorem lH{l:LL}(hl:D32 l)(d i:Nat):(atV l d i).length=32:=by
 cases d with
 | zero=>
  unfold atV
  rw [aE]
  cases h:l[i]? with
  | none=>rfl
  | some x=>exact hl x (aP h)
 | succ d=>exact xL ..
def qT(l:LL)(D d:Nat):LL:=(List.range (2^(D-d))).map (atV l d)
theorem wR(l:LL)(D d:Nat):(qT l D d).length=2^(D-d):=by simp [qT]
theorem aEV{l:LL}(hl:D32 l)(D d:Nat):D32 (qT l D d):=by intro x hx;obtain⟨i,-,rfl⟩:=bM.1 hx;exact lH hl d i
theorem wQ(l:LL){D d i:Nat}(h:i<2^(D-d)):(qT l D d)[i]?=some (atV l d i):=by simp [qT,h]
def aE2(l:LL):LB:=atV l (dep l.length) 0
def fN(l:LL):LB:=Sha.sum (mW l.length (aE2 l))
def uX(l:LL)(D:Nat):LL:=(List.range D).flatMap fun d=>(List.range (2^(D-(d+1)))).map fun i=>wK (d+1) i (atV l d (2*i)) (atV l d (2*i+1))
theorem aD1(l:LL){D d i:Nat}(hd:d<D)(hi:i<2^(D-(d+1))):wK (d+1) i (atV l d (2*i)) (atV l d (2*i+1))∈uX l D:=by unfold uX;exact List.mem_flatMap.2 ⟨d,eK.2 hd,bM.2 ⟨i,eK.2 hi,rfl⟩⟩
theorem aI5{a i a' i':Nat}{x y x' y':LB}(hx:x.length=32)(hx':x'.length=32)(h:wK a i x y=wK a' i' x' y'):x=x'/\y=y':=by unfold wK at h;have h1:=(yC h).2;simp only [eU,List.flatten_nil,aG,lW] at h1;obtain⟨-,h2⟩:=vC (yC h1).2 (by rw [dV,dV]);exact vC h2 oQ
theorem aJo{n m:Nat}{x y:LB}(hn:n<4294967296)(hm:m<4294967296)(h:mW n x=mW m y):n=m/\x=y:=by unfold mW at h;have h1:=(yC h).2;simp only [eU,List.flatten_nil,aG] at h1;obtain⟨h2,h3⟩:=vC h1 (by rw [dV,dV]);exact⟨aKs hn hm h2,h3⟩
theorem apart{l m:LL}(hl:D32 l)(hm:D32 m)(hln:l.length<4294967296)(hmn:m.length<4294967296){ts:LL} (h1:∀ t∈uX l (dep l.length),t∈ts) (h2:∀ t∈uX m (dep m.length),t∈ts) (h3:mW l.length (aE2 l)∈ts) (h4:mW m.length (aE2 m)∈ts) (hno:∀ t∈ts,∀ u∈ts,Sha.sum t=Sha.sum u->t=u) (h:fN l=fN m):l=m:=by
 obtain⟨e,hT⟩:=aJo hln hmn (hno _ h3 _ h4 h);unfold aE2 at hT;rw [<-e] at hT h2;have key:∀ k d,k+d=dep l.length->∀ i,i<2^(dep l.length-d)->atV l d i=atV m d i:=by
  intro k;induction k with
  | zero=>
   intro d hd i hi
   have:d=dep l.length:=oQ
   subst this
   rw [dO,uA] at hi
   have:i=0:=oQ
   subst this
   exact hT
  | succ k ih=>
   intro d hd i hi
   have h5:=ih (d+1) oQ (i/2) (by
    have:2^(dep l.length-d)=2*2^(dep l.length-(d+1)):=by rw [show dep l.length-d=dep l.length-(d+1)+1 by omega,fE,lF]
    omega)
   have hi2:i/2<2^(dep l.length-(d+1)):=by
    have:2^(dep l.length-d)=2*2^(dep l.length-(d+1)):=by rw [show dep l.length-d=dep l.length-(d+1)+1 by omega,fE,lF]
    omega
   have h6:=hno _ (h1 _ (aD1 l oQ hi2)) _ (h2 _ (aD1 m oQ hi2)) h5
   obtain⟨h7,h8⟩:=aI5 (lH hl _ _) (lH hm _ _) h6
   rcases Nat.mod_two_eq_zero_or_one i with h9|h9
   ·rwa [show 2*(i/2)=i by omega] at h7
   ·rwa [show 2*(i/2)+1=i by omega] at h8
 apply cM;intro i;rcases mP i l.length with hi|hi
 ·have h5:=key (dep l.length) 0 oQ i (by have:=yU l.length;rw [iU];omega);unfold atV at h5;rw [aE,aE,aA hi,aA (show i<m.length by omega)] at h5;rw [aA hi,aA (show i<m.length by omega)];exact congrArg some h5
 rw [bF hi,bF oQ]
section
attribute [local irreducible] SW SL SQ SH SA SS Pu Fin bS aN
theorem aQg{d X:Nat}(h:d<63)(hX:X=2^d):aGN .i64 1 (d:Int) (X:Int):=⟨by
 have h2:2^d<2^63:=Nat.pow_lt_pow_right oQ h
 rw [<-hX] at h2
 refine⟨oQ,?_⟩
 rw [aS,cO (by show d<=64;omega),Int.one_mul,show ((2:Int)^d)=(X:Int) by rw [hX];simp]
 exact w64 oQ⟩
theorem aMd(n:Nat)(hn:n<=1099511627776):Tri prog 268 [.int .i64 (n:Int)] [] NT (fun v H=>v=.int .i64 ((dep n:Nat):Int)/\H=[]):=by
 refine Tri.mt func268 ntmps268 fun w hw=>?_;have hd40:dep n<=40:=uF (by simpa using hn);refine W.j ?_;refine SW.cut [] [] (fun _:Unit=>[(3,.int .i64 ((dep n:Nat):Int))]) (fun _=>[]) NT ?_ ?_
 ·refine W.k ?_;refine cI [0] [] (fun d:Nat=>[(3,.int .i64 (d:Int))]) (fun _=>[]) (fun d=>dep n-d) (fun d=>d<=dep n/\∀ e,e<d->2^e<n) 0 ⟨oQ,fun e h=>by omega⟩ ?_;rintro d ⟨hd,he⟩;obtain⟨X,hX⟩:∃ X,X=2^d:=⟨_,rfl⟩;haveI:=aQg (d:=d) oQ hX;by_cases h:X<n
  ·have hlt:d<dep n:=by
    rcases mP d (dep n) with h1|h1
    ·exact h1
    have:=dD (n:=2) oQ h1;have:=yU n;omega
   refine W.k ?_;refine aN.mk (d+1) ?_;refine⟨oQ,fun e h1=>?_⟩;by_cases e1:e=d
   ·subst e1;omega
   exact he e oQ
  have hd2:d=dep n:=aFJ oQ he;refine W.k ?_;subst hd2;refine bS.mk () ?_;trivial
 rintro _ -;refine W.k ?_;exact F.n
theorem aK5(n:Nat)(hn:n<=1099511627776):Tri prog 133 [.int .i64 (n:Int)] [] NT (fun v H=>v=.int .i64 ((dep n:Nat):Int)/\H=[]):=by
 refine Tri.mt func133 ntmps133 fun w hw=>?_;have hd40:dep n<=40:=uF (by simpa using hn);refine W.j ?_;refine SW.cut [] [] (fun _:Unit=>[(3,.int .i64 ((dep n:Nat):Int))]) (fun _=>[]) NT ?_ ?_
 ·refine W.k ?_;refine cI [0] [] (fun d:Nat=>[(3,.int .i64 (d:Int)),(4,.int .i64 ((2^d:Nat):Int))]) (fun _=>[]) (fun d=>dep n-d) (fun d=>d<=dep n/\∀ e,e<d->2^e<n) 0 ⟨oQ,fun e h=>by omega⟩ ?_;rintro d ⟨hd,he⟩;have hs:2^(d+1)=2*2^d:=by rw [fE,lF]
  have hs2:((2^(d+1):Nat):Int)=2*((2^d:Nat):Int):=by rw [hs];rfl
  obtain⟨X,hX⟩:∃ X,X=2^d:=⟨_,rfl⟩;have hXs:X<=1099511627776:=by have:=dD (n:=2) oQ (show d<=40 by omega);omega
  rw [<-hX] at hs2 |-;by_cases h:X<n
  ·have hlt:d<dep n:=by
    rcases mP d (dep n) with h1|h1
    ·exact h1
    have:=dD (n:=2) oQ h1;have:=yU n;omega
   refine W.k ?_;rw [<-hs2];refine aN.mk (d+1) ?_;refine⟨oQ,fun e h1=>?_⟩;by_cases e1:e=d
   ·subst e1;omega
   exact he e oQ
  have hd2:d=dep n:=aFJ oQ he;refine W.k ?_;subst hd2;refine bS.mk () ?_;trivial
 rintro _ -;refine W.k ?_;exact F.n
namespace Gm
def up(n k:Nat):Nat:=(n+k-1)/k
def sealed(p:Nat):Nat:=1+up p 16+p
def epochs(p:Nat):Nat:=up (sealed p) 32
def leaves(p:Nat):Nat:=1+epochs p+sealed p
def total(p t:Nat):Nat:=leaves p+(1+t)
def Ok(p t:Nat):Prop:=1<=p/\p<=64/\4<=t/\t<=24
theorem up_le(n k:Nat)(hk:0<k):up n k<=n:=by
 unfold up;rcases fS n with rfl|hn
 ·rw [fT,sW oQ];exact Nat.le_refl _
 refine Nat.div_le_of_le_mul ?_;have:=jA hn hk;have h2:k*n=(k-1)*n+n:=by rw [<-gD];congr 1;omega
 have h3:(k-1)*1<=(k-1)*n:=jA (Nat.le_refl _) hn;omega
theorem sealed_le{p t:Nat}(h:Ok p t):sealed p<=129:=by have:=up_le p 16 dQ;obtain⟨_,h2,_⟩:=h;unfold sealed;omega
theorem epochs_le{p t:Nat}(h:Ok p t):epochs p<=129:=cZ (up_le _ 32 dQ) (sealed_le h)
theorem leaves_le{p t:Nat}(h:Ok p t):leaves p<=259:=by have:=sealed_le h;have:=epochs_le h;unfold leaves;omega
theorem total_le{p t:Nat}(h:Ok p t):total p t<=284:=by have:=leaves_le h;obtain⟨_,_,_,h2⟩:=h;unfold total;omega
end Gm
abbrev kM(p t:Nat):Value:=.agg #[.int .i64 (p:Int),.int .i64 (t:Int)]
abbrev yY(p t:Nat):LV:=[.int .i64 (p:Int),.int .i64 (t:Int)]
theorem qC{p t:Nat}(h:Gm.Ok p t):Tri prog 143 [kM p t] [] NT (fun v H=>v=.int .i64 0/\H=[]):=by obtain⟨h1,h2,h3,h4⟩:=h;refine Tri.mt func143 ntmps143 fun w hw=>?_;refine W.k fun b_=>?_;exact F.n
theorem tD{k:Nat}(h:k<65536):Tri prog 108 [.int .i64 (k:Int)] [] NT (fun v H=>v=.int .i64 ((256*k:Nat):Int)/\H=[]):=by refine Tri.mt func108 ntmps108 fun w hw=>?_;rw [show ((256*k:Nat):Int)=256*(k:Int) by omega];refine W.k ?_;exact F.n
theorem aNn(n k:Nat)(hk:0<k)(hn:n<=1000000)(hk2:k<=1000000):Tri prog 236 [.int .i64 (n:Int),.int .i64 (k:Int)] [] NT (fun v H=>v=.int .i64 (Gm.up n k:Nat)/\H=[]):=by
 refine Tri.mt func236 ntmps236 fun w hw=>?_;have e:((Gm.up n k:Nat):Int)=((n:Int)+(k:Int)-1)/(k:Int):=by unfold Gm.up;rw [show (n:Int)+(k:Int)-1=((n+k-1:Nat):Int) by omega];simp
 rw [e];refine W.k ?_;exact F.n
theorem aDH(p t:Nat):Tri prog 270 [kM p t] [] NT (fun v H=>v=.int .i64 ((1:Nat):Int)/\H=[]):=by refine Tri.mt func270 ntmps270 fun w hw=>?_;refine W.k fun b_=>?_;exact F.n
theorem aHQ{p t:Nat}(h:Gm.Ok p t):Tri prog 205 [kM p t] [] NT (fun v H=>v=.int .i64 ((1+t:Nat):Int)/\H=[]):=by obtain⟨h1,h2,h3,h4⟩:=h;refine Tri.mt func205 ntmps205 fun w hw=>?_;rw [show ((1+t:Nat):Int)=1+(t:Int) by omega];refine W.k fun b_=>?_;exact F.n
theorem tE{p t:Nat}(h:Gm.Ok p t):Tri prog 182 [kM p t] [] NT (fun v H=>v=.int .i64 (Gm.sealed p:Nat)/\H=[]):=by have hu:=Gm.up_le p 16 dQ;obtain⟨h1,h2,h3,h4⟩:=h;refine Tri.mt func182 ntmps182 fun w hw=>?_;have hc:=aNn p 16 dQ oQ dQ;rw [show ((Gm.sealed p:Nat):Int)=1+((Gm.up p 16:Nat):Int)+(p:Int) by unfold Gm.sealed;omega];generalize Gm.up p 16=u at *;refine W.k fun b_=>?_;(refine SW.l [] [0,1,4,5] ?_;refine aX 2 ?_);refine W.cq hc ?_;(refine SL.l [3,6,7,8] ?_);refine W.k ?_;exact F.n
theorem xD{p t:Nat}(h:Gm.Ok p t):Tri prog 224 [kM p t] [] NT (fun v H=>v=.int .i64 (Gm.epochs p:Nat)/\H=[]):=by refine Tri.mt func224 ntmps224 fun w hw=>?_;have hs:=Gm.sealed_le h;have hc:=tE h;have hc2:=aNn (Gm.sealed p) 32 dQ oQ dQ;unfold Gm.epochs;refine W.k fun b_=>?_;refine W.cw hc ?_;refine W.cw hc2 ?_;exact F.n
theorem aFS:Tri prog 247 [] [] NT (fun v H=>v=.agg #[.func (.func 270) #[] #[],.func (.func 224) #[] #[],.func (.func 182) #[] #[],.func (.func 205) #[] #[]]/\H=[]):=by refine Tri.mt func247 ntmps247 fun w hw=>?_;have hb:bV (fun i=>some (i*1,1)) [.nilFunc,.nilFunc,.nilFunc,.nilFunc] [(0,.func (.func 270) #[] #[]),(1,.func (.func 224) #[] #[]),(2,.func (.func 182) #[] #[]),(3,.func (.func 205) #[] #[])]=some [.func (.func 270) #[] #[],.func (.func 224) #[] #[],.func (.func 182) #[] #[],.func (.func 205) #[] #[]]:=rfl;refine W.k fun b_=>?_;exact F.cH [] [.func (.func 270) #[] #[],.func (.func 224) #[] #[],.func (.func 182) #[] #[],.func (.func 205) #[] #[]] ⟨rfl,rfl⟩
def Gm.sumK(p t:Nat):Nat->Nat
 | 0=>0
 | 1=>1
 | 2=>1+Gm.epochs p
 | _=>1+Gm.epochs p+Gm.sealed p
theorem aFR{p t:Nat}(h:Gm.Ok p t):Tri prog 204 [kM p t,.int .i64 4] [] NT (fun v H=>v=.int .i64 (Gm.leaves p:Nat)/\H=[]):=by
 refine Tri.mt func204 ntmps204 fun w hw=>?_;have c0:=aDH p t;have c1:=xD h;have c2:=tE h;have hs:=Gm.sealed_le h;have he:=Gm.epochs_le h;have s0:Gm.sumK p t 0=0:=rfl;have s1:Gm.sumK p t 1=1:=rfl;have s2:Gm.sumK p t 2=1+Gm.epochs p:=rfl;have s3:Gm.sumK p t 3=1+Gm.epochs p+Gm.sealed p:=rfl;refine W.j fun b_=>?_;refine W.cq aFS ?_;refine W.j ?_;refine SW.cut [] [] (fun _:Unit=>[(5,.int .i64 (Gm.leaves p:Nat))]) (fun _=>[]) NT ?_ ?_
 ·refine W.k ?_;refine bE [1,2,8] (fun k:Nat=>[(5,.int .i64 (Gm.sumK p t k:Nat)),(9,.int .i64 (k:Int))]) (fun k=>[(b_,cl (yY p t) 292)]) (fun k=>4-k) (fun k=>k<=4) 0 (Nat.zero_le _) ?_;intro k hk;by_cases h4:k<4
  ·rcases (by omega:k=0\/k=1\/k=2\/k=3) with rfl|rfl|rfl|rfl
   ·refine W.k ?_;refine dN [] rfl rfl rfl rfl rfl rfl c0 (fun _ _=>trivial) ?_;rintro _ _ ⟨rfl,rfl⟩;refine W.k ?_;rw [show ((Gm.sumK p t 0:Nat):Int)+(1:Nat)=((Gm.sumK p t 1:Nat):Int) by omega];refine aN.mk 1 ?_;decide
   ·refine W.k ?_;refine dN [] rfl rfl rfl rfl rfl rfl c1 (fun _ _=>trivial) ?_;rintro _ _ ⟨rfl,rfl⟩;refine W.k ?_;rw [show ((Gm.sumK p t 1:Nat):Int)+(Gm.epochs p:Nat)=((Gm.sumK p t 2:Nat):Int) by omega];refine aN.mk 2 ?_;decide
   ·refine W.k ?_;refine dN [] rfl rfl rfl rfl rfl rfl c2 (fun _ _=>trivial) ?_;rintro _ _ ⟨rfl,rfl⟩;refine W.k ?_;rw [show ((Gm.sumK p t 2:Nat):Int)+(Gm.sealed p:Nat)=((Gm.sumK p t 3:Nat):Int) by omega];refine aN.mk 3 ?_;decide
   refine W.k ?_;rw [show Gm.sumK p t 3=Gm.sumK p t 4 from rfl];refine aN.mk 4 ?_;decide
  have:k=4:=oQ;subst this;rw [show Gm.sumK p t 4=Gm.leaves p from rfl];refine W.k ?_;refine bS.mk () ?_;trivial
 rintro _ -;refine W.k ?_;exact F.n
theorem aG2{p t:Nat}(h:Gm.Ok p t):Tri prog 203 [kM p t] [] NT (fun v H=>v=.int .i64 (Gm.leaves p:Nat)/\H=[]):=by refine Tri.mt func203 ntmps203 fun w hw=>?_;have hc:=aFR h;refine W.k fun b_=>?_;refine W.cw hc ?_;exact F.n
theorem aIV{p t:Nat}(h:Gm.Ok p t):Tri prog 209 [kM p t] [] NT (fun v H=>v=.int .i64 (Gm.total p t:Nat)/\H=[]):=by
 refine Tri.mt func209 ntmps209 fun w hw=>?_;have hc:=aFR h;have hc2:=aHQ h;have hl:=Gm.leaves_le h;have hl2:=Gm.total_le h;rw [show ((Gm.total p t:Nat):Int)=((Gm.leaves p:Nat):Int)+((1+t:Nat):Int) by unfold Gm.total;omega];have hl3:(1+t)<=25:=by obtain⟨_,_,_,h4⟩:=h;omega
 refine W.k fun b_=>?_;(refine SW.l [3] [0,2] ?_;refine aX 1 ?_);refine W.cq hc ?_;(refine bB [] ?_;refine bL 3 ?_);refine W.cq hc2 ?_;(refine SL.l [4,5,6] ?_);refine W.k ?_;exact F.n
theorem wD{p t:Nat}(h:Gm.Ok p t){f:FuncId} [bC prog f]{r:Value} [One r](hc:Tri prog f [kM p t] [] NT (fun v H=>v=r/\H=[])):Tri prog 202 [kM p t,.func (.func f) #[] #[]] [] NT (fun v H=>v=r/\H=[]):=by refine Tri.mt func202 ntmps202 fun w hw=>?_;have hk:=qC h;refine W.k fun b_=>?_;refine W.cw hk ?_;refine dN [] rfl rfl rfl rfl rfl rfl hc (fun _ _=>trivial) ?_;rintro _ _ ⟨rfl,rfl⟩;refine W.k ?_;exact F.n
theorem aFT{p t:Nat}(h:Gm.Ok p t):Tri prog 144 [kM p t] [] NT (fun v H=>v=.int .i64 (Gm.total p t:Nat)/\H=[]):=by refine Tri.mt func144 ntmps144 fun w hw=>?_;have hc:=wD h (aIV h);refine W.k fun b_=>?_;refine W.cw hc ?_;exact F.n
theorem aDG{p t:Nat}(h:Gm.Ok p t):Tri prog 135 [kM p t] [] NT (fun v H=>v=.int .i64 (Gm.leaves p:Nat)/\H=[]):=by refine Tri.mt func135 ntmps135 fun w hw=>?_;have hc:=wD h (aG2 h);refine W.k fun b_=>?_;refine W.cw hc ?_;exact F.n
namespace Aes
def S(x:UInt8):UInt8:=Gf.subL.getD x.toNat 0
def subW(w:LB):LB:=w.map S
def subN(w:LB)(k:Nat):LB:=subW (w.take k)++w.drop k
def xor4(a b:LB):LB:=List.zipWith (· ^^^ ·) a b
def xorN(a b:LB)(k:Nat):LB:=xor4 (a.take k) (b.take k)++a.drop k
theorem step_set{J:Type}(f:List J->List J)(w:List J)(v:J){k:Nat}{x:J}(hx:w[k]?=some x)(hl:(f (w.take k)).length=k)(hs:f (w.take (k+1))=f (w.take k)++[v]):(f (w.take k)++w.drop k).set k v=f (w.take (k+1))++w.drop (k+1):=by
 rw [bY _ _ oQ,hl,dO,hs];have:w.drop k=x::w.drop (k+1):=by obtain⟨hk,e⟩:=aD.1 hx;rw [bK hk,e]
 rw [this];simp
theorem subN_set{w:LB}{k:Nat}{x:UInt8}(hx:w[k]?=some x):(subN w k).set k (S x)=subN w (k+1):=by have hk:=(aD.1 hx).1;refine step_set subW w (S x) hx (by unfold subW;simp;omega) ?_;unfold subW;rw [aY,hx];simp
theorem subN_at{w:LB}{k:Nat}{x:UInt8}(hx:w[k]?=some x):(subN w k)[k]?=some x:=by
 have hk:=(aD.1 hx).1;have hl:(subW (w.take k)).length=k:=by unfold subW;simp;omega
 unfold subN;rw [aV oQ,hl,dO,bH];simpa using hx
theorem subN_len(w:LB)(k:Nat):(subN w k).length=w.length:=by unfold subN subW;simp;omega
theorem subW_len(w:LB):(subW w).length=w.length:=by unfold subW;simp
theorem xor4_len{a b:LB}(h:a.length=b.length):(xor4 a b).length=a.length:=by unfold xor4;simp;omega
theorem xorN_set{a b:LB}{k:Nat}{x y:UInt8}(hl:a.length=b.length)(hx:a[k]?=some x)(hy:b[k]?=some y):(xorN a b k).set k (x ^^^ y)=xorN a b (k+1):=by
 have hk:=(aD.1 hx).1;have h1:(xor4 (a.take k) (b.take k)).length=k:=by unfold xor4;simp;omega
 unfold xorN;rw [bY _ _ oQ,h1,dO];have:a.drop k=x::a.drop (k+1):=by obtain⟨hk,e⟩:=aD.1 hx;rw [bK hk,e]
 rw [this,aY,aY,hx,hy];unfold xor4;rw [dI,dI,List.zipWith_append (by simp;omega)];simp
theorem xorN_at{a b:LB}{k:Nat}{x:UInt8}(hl:a.length=b.length)(hx:a[k]?=some x):(xorN a b k)[k]?=some x:=by
 have hk:=(aD.1 hx).1;have h1:(xor4 (a.take k) (b.take k)).length=k:=by unfold xor4;simp;omega
 unfold xorN;rw [aV oQ,h1,dO,bH];simpa using hx
theorem xorN_len{a b:LB}(hl:a.length=b.length)(k:Nat):(xorN a b k).length=a.length:=by unfold xorN xor4;simp;omega
end Aes
theorem aGT{xs:LB}{i:Nat}{x:UInt8}(h:xs[i]?=some x):(cbs xs)[i]?=some (u8v x):=by unfold cbs;rw [aL,h];rfl
theorem aJ2(xs:LB)(i:Nat)(v:UInt8):(cbs xs).set i (u8v v)=cbs (xs.set i v):=by unfold cbs;rw [gC]
theorem aJY{xs:LB}{k n:Nat}(hl:xs.length=n)(h:k<n):∃ x,xs[k]?=some x:=⟨_,aA oQ⟩
abbrev gK:Obj:=cl (cbs Gf.subL++cbs (Gf.backN 256)) 198
theorem Gf.subL_len:Gf.subL.length=256:=by unfold Gf.subL;simp
abbrev pY(b:Nat)(ws r:Value):Obj:=cl [.pointer (some ⟨b,0,none⟩),ws,r] 189
theorem aN1{c b:Nat}{ws r:Value}(x:LB)(hx4:x.length=4):Tri prog 158 [.pointer (some ⟨c,0,none⟩),.agg (cbs x).toArray] [(c,pY b ws r),(b,gK)] NT (fun v H=>v=.agg (cbs (Aes.subW x)).toArray/\H=[(c,pY b ws r),(b,gK)]):=by
 refine Tri.mt func158 ntmps158 fun w hw=>?_;have hw0:Aes.subN x 0=x:=by unfold Aes.subN Aes.subW;simp
 have hw5:Aes.subN x 4=Aes.subW x:=by unfold Aes.subN;rw [aK oQ,gN oQ,aG]
 refine W.j fun _ b_=>?_;rename_i b3;refine bP [0,3,4] [(b3,cl (cbs x) 193),(c,pY b ws r),(b,gK)] (fun _:Unit=>[]) (fun _=>[(b3,cl (cbs (Aes.subW x)) 193),(c,pY b ws r),(b,gK)]) NT ?_ ?_
 ·refine W.k ?_;rw [show cl (cbs x) 193=cl (cbs (Aes.subN x 0)) 193 by rw [hw0]];refine bE [0,3,4] (fun n:Nat=>[(6,.int .i64 (n:Int))]) (fun n=>[(b3,cl (cbs (Aes.subN x n)) 193),(c,pY b ws r),(b,gK)]) (fun n=>4-n) (fun n=>n<=4) 0 (Nat.zero_le _) ?_;intro n hn;by_cases h:n<4
  ·obtain⟨y,hy⟩:=aJY hx4 h;have hv:=aGT (Aes.subN_at hy);have hs:=aJ2 (Aes.subN x n) n (Aes.S y);rw [Aes.subN_set hy] at hs;have hlt:n<(cbs (Aes.subN x n)).length:=by unfold cbs;rw [aC,Aes.subN_len];omega
   refine W.k ?_;(refine SW.l [8,10] [0,1,2,3,4,5,6,7] ?_;refine bL 8 ?_);refine W.cq (aKn (m:=Gf.backN 256) Gf.subL_len y) ?_;(refine SL.l [9] ?_;refine bL 10 ?_;refine W.i ?_;refine SS.dn ?_);rw [show u8v (Gf.subL.getD y.toNat 0)=u8v (Aes.S y) from rfl,hs];refine W.k ?_;refine aN.mk (n+1) ?_;omega
  have:n=4:=oQ;subst this;rw [hw5];refine W.k ?_;refine bS.mk () ?_;trivial
 rintro _ -;have hL:(cbs (Aes.subW x)).length=4:=by unfold cbs;rw [aC,Aes.subW_len,hx4]
 refine W.k ?_;exact F.cH [(c,pY b ws r),(b,gK)] _ ⟨rfl,rfl⟩
theorem aN2(x z:LB)(hx4:x.length=4)(hz4:z.length=4):Tri prog 83 [.agg (cbs x).toArray,.agg (cbs z).toArray] [] NT (fun v H=>v=.agg (cbs (Aes.xor4 x z)).toArray/\H=[]):=by
 refine Tri.mt func83 ntmps83 fun w hw=>?_;have hxz:x.length=z.length:=oQ;have hw0:Aes.xorN x z 0=x:=by unfold Aes.xorN Aes.xor4;simp
 have hw5:Aes.xorN x z 4=Aes.xor4 x z:=by unfold Aes.xorN;rw [aK oQ,aK oQ,gN oQ,aG]
 have hL:(cbs (Aes.xor4 x z)).length=4:=by unfold cbs;rw [aC,Aes.xor4_len hxz,hx4]
 refine W.j fun _ _ b_=>?_;rename_i b2 b3;refine bP [2,3,4] [(b2,cl (cbs x) 193),(b3,cl (cbs z) 193)] (fun _:Unit=>[]) (fun _=>[(b2,cl (cbs (Aes.xor4 x z)) 193),(b3,cl (cbs z) 193)]) NT ?_ ?_
 ·refine W.k ?_;rw [show cl (cbs x) 193=cl (cbs (Aes.xorN x z 0)) 193 by rw [hw0]];refine bE [2,3,4] (fun n:Nat=>[(6,.int .i64 (n:Int))]) (fun n=>[(b2,cl (cbs (Aes.xorN x z n)) 193),(b3,cl (cbs z) 193)]) (fun n=>4-n) (fun n=>n<=4) 0 (Nat.zero_le _) ?_;intro n hn;by_cases h:n<4
  ·obtain⟨y,hy⟩:=aJY hx4 h;obtain⟨u,hu⟩:=aJY hz4 h;have hv:=aGT (Aes.xorN_at hxz hy);have hv2:=aGT hu;have hs:=aJ2 (Aes.xorN x z n) n (y ^^^ u);rw [Aes.xorN_set hxz hy hu] at hs;have hlt:n<(cbs (Aes.xorN x z n)).length:=by unfold cbs;rw [aC,Aes.xorN_len hxz];omega
   refine W.k ?_;(refine SW.l [8] [0,1,2,3,4,5,6,7] ?_;refine bL 8 ?_;refine W.i ?_;refine SS.dn ?_);rw [hs];refine W.k ?_;refine aN.mk (n+1) ?_;omega
  have:n=4:=oQ;subst this;rw [hw5];refine W.k ?_;refine bS.mk () ?_;trivial
 rintro _ -;refine W.k ?_;exact F.cH [] _ ⟨rfl,rfl⟩
end
section
open Go.ChangeShapes Go.WideShapes Go.ChangeAt Go.RowKit
theorem aIU:prog.cellTypes prog.depth 28=some [3,3]:=kQ
set_option maxRecDepth 100000 in
theorem aKF{w:World}{r:Reach}{b:Nat}{v:Value}(h:Value.okWide prog w r b 28 v):∃ P T:Int,v=.agg #[.int .i64 P,.int .i64 T]:=by
 unfold Value.okWide at h;rw [underlying28] at h;obtain⟨cs,rfl,hs,ts,hts,-,hc⟩:=h;rw [aIU] at hts;cases hts;have hs2:prog.cellsOf 28=2:=kQ;rw [hs2] at hs;obtain⟨l,rfl⟩:∃ l:LV,cs=l.toArray:=⟨cs.toList,by simp⟩;match l,hs with
 | [x,y],_=>
  obtain⟨u,hu,h0⟩:=hc 0 x rfl
  obtain⟨u2,hu2,h1⟩:=hc 1 y rfl
  simp at hu hu2
  subst hu
  subst hu2
  obtain⟨P,rfl,-⟩:=aAW underlying3 h0
  obtain⟨T,rfl,-⟩:=aAW underlying3 h1
  exact⟨P,T,rfl⟩
theorem aI7{P:Program}{w:World}{r:Reach}{b t:Nat}{v:Value}(ht:P.underlying t=some .bool)(h:Value.okWide P w r b t v):∃ c,v=.bool c:=by unfold Value.okWide at h;rw [ht] at h;unfold Cell.okWide at h;rw [ht] at h;cases v <;> simp [Cell.ok,ht] at h;exact⟨_,rfl⟩
end
end Go.Proofs.YtdfclocfackkmaaGreat
