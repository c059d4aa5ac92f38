/- Turns, a block's schedule. A block is summed. Numbers as bytes. Sums that grow. Bytes are written into a sum. What a sum is; a table's words. A table's sums; the law's helpers. -/
import Derived.Test.YtnhnpjokpelkbaaGreatPp6
import Derived.Test.YtnhnpjokpelkbaaGreatPp7
import Derived.Test.YtnhnpjokpelkbaaGreatPp5
set_option linter.unusedVariables false
set_option linter.unusedSimpArgs false
set_option linter.unusedSectionVars false
set_option maxHeartbeats 4000000
namespace Go.Proofs.YtnhnpjokpelkbaaGreat
open Go Go.Proofs.Tryz
section
attribute [local irreducible] SW SL SQ SH SA SS Pu Fin bT aQ
theorem aCU:∀ k,k<32→0<k→(UInt64.ofNat (18446744073709551616-k) &&& 31).toNat=32-k∧(UInt32.ofNat (32-k)).toNat=32-k∧(32:UInt32)-UInt32.ofNat k=UInt32.ofNat (32-k):=by decide +kernel
theorem aPt(x:UInt32)(k:Nat)(hk:k<32)(h0:0<k):Tri prog 287 [fO x,.int .i64 (-(k:Int))] [] (fun _=>True) (fun v H=>v=fO (Sha.rotr x (UInt32.ofNat k))∧H=[]):=by
 refine Tri.mk func287 rfl ntmps287 rfl fun w hw=>?_
 obtain⟨f1,f2,f3⟩:=aCU k hk h0
 haveI i1:Cv .u64 (-(k:Int)) ((UInt64.ofNat (18446744073709551616-k)).toNat:Int):=⟨by
  rw [nC,aW]
  omega⟩
 haveI i2:U64 31 31:=⟨rfl⟩
 haveI i3:aBU ((UInt64.ofNat (18446744073709551616-k) &&& 31).toNat:Int) (UInt32.ofNat (32-k)):=⟨by rw [f1,f2],by rw [f2];omega⟩
 haveI i4:UAr .sub .u64 32 ((UInt64.ofNat (18446744073709551616-k) &&& 31).toNat:Int) (k:Int):=⟨fun P w t=>by
  have h:IntKind.u64.wrap (32-((32-k:Nat):Int))=k:=by rw [nC];omega
  rw [f1]
  simp [binOp,Op.intArith,h]⟩
 haveI i5:aBU (k:Int) (UInt32.ofNat k):=⟨by rw [nI];omega,by rw [nI];omega⟩
 refine W.k ?_
 refine F.f1 ?_
 refine⟨?_,rfl⟩
 unfold Sha.rotr fO
 rw [f3,UInt32.or_comm]
theorem r_p(x:UInt32)(k:Nat)(hk:k<32)(h0:0<k):Tri prog 274 [fO x,.int .i64 (k:Int)] [] (fun _=>True) (fun v H=>v=fO (Sha.rotr x (UInt32.ofNat k))∧H=[]):=by
 refine Tri.mk func274 rfl ntmps274 rfl fun w hw=>?_
 refine W.k ?_
 refine W.cw (aPt x k hk h0) ?_
 refine F.f1 ?_
 exact⟨rfl,rfl⟩
theorem aKL(x:UInt32):Tri prog 273 [fO x] [] (fun _=>True) (fun v H=>v=fO (Sha.s0 x)∧H=[]):=by
 refine Tri.mk func273 rfl ntmps273 rfl fun w hw=>?_
 refine W.k ?_
 refine W.cw (r_p x 7 dQ dQ) ?_
 refine W.cw (r_p x 18 dQ dQ) ?_
 refine F.f1 ?_
 exact⟨rfl,rfl⟩
theorem aKM(x:UInt32):Tri prog 272 [fO x] [] (fun _=>True) (fun v H=>v=fO (Sha.s1 x)∧H=[]):=by
 refine Tri.mk func272 rfl ntmps272 rfl fun w hw=>?_
 refine W.k ?_
 refine W.cw (r_p x 17 dQ dQ) ?_
 refine W.cw (r_p x 19 dQ dQ) ?_
 refine F.f1 ?_
 exact⟨rfl,rfl⟩
theorem aJO(x:UInt32):Tri prog 255 [fO x] [] (fun _=>True) (fun v H=>v=fO (Sha.S0 x)∧H=[]):=by
 refine Tri.mk func255 rfl ntmps255 rfl fun w hw=>?_
 refine W.k ?_
 refine W.cw (r_p x 2 dQ dQ) ?_
 refine W.cw (r_p x 13 dQ dQ) ?_
 refine W.cw (r_p x 22 dQ dQ) ?_
 refine F.f1 ?_
 exact⟨rfl,rfl⟩
theorem aJP(x:UInt32):Tri prog 254 [fO x] [] (fun _=>True) (fun v H=>v=fO (Sha.S1 x)∧H=[]):=by
 refine Tri.mk func254 rfl ntmps254 rfl fun w hw=>?_
 refine W.k ?_
 refine W.cw (r_p x 6 dQ dQ) ?_
 refine W.cw (r_p x 11 dQ dQ) ?_
 refine W.cw (r_p x 25 dQ dQ) ?_
 refine F.f1 ?_
 exact⟨rfl,rfl⟩
theorem aLn(bs:List UInt8)(j:Nat)(c:UInt8)(h:bs[j]?=some c):Sha.be (bs.take (j+1))=(Sha.be (bs.take j) <<< 8) ||| c.toUInt32:=by
 unfold Sha.be
 rw [aZ,h,dJ,gX];rfl
theorem aNB(v:Value)(bs:List UInt8)(h4:bs.length≤4):Tri prog 271 [v] [] (fun w=>Rd [] w 1 v (cbs bs)) (fun v' H=>v'=fO (Sha.be bs)∧H=[]):=by
 refine Tri.mk func271 rfl ntmps271 rfl fun w hw=>?_
 obtain⟨a,len,cap,rfl,hl,hc,hr⟩:=hw.get
 rw [aD,Nat.mul_one] at hl
 refine W.j ?_
 refine SW.cut [] [] (fun _:Unit=>[(3,fO (Sha.be bs))]) (fun _=>[]) (fun _=>True) ?_ ?_
 ·refine W.k ?_
  refine cK [6,7] [] (fun j:Nat=>[(3,fO (Sha.be (bs.take j))),(8,.int .i64 (j:Int))]) (fun _=>[]) (fun j=>len-j) (fun j=>j≤len) 0 oQ ?_
  intro j hj
  by_cases hjl:j<len
  ·obtain⟨blk,ob,l,T,fz,rfl,hb,hbk,hys⟩:=hr oQ
   obtain⟨c,hc⟩:∃ c,bs[j]?=some c:=⟨_,aA oQ⟩
   have hlc:l[ob+j]?=some (.int .u8 (c.toNat:Int)):=aAG hys (by rw [aJ,hc];rfl)
   have e:=aLn bs j c hc
   refine W.k ?_
   rw [← e]
   refine aQ.mk (j+1) ?_
   exact hjl
  ·have:j=len:=oQ
   subst this
   rw [aK oQ]
   refine W.k ?_
   refine bT.mk () ?_
   trivial
 rintro _ -
 refine W.k ?_
 refine F.f1 ?_
 exact⟨rfl,rfl⟩
theorem aKF(bs:List UInt8){t:Nat}(h:t<16):Sha.sch bs (t+1)=Sha.sch bs t++[Sha.be ((bs.drop (4*t)).take 4)]:=by
 show Sha.sch bs t++[if t<16 then _ else _]=_
 rw [if_pos h]
theorem aKE(bs:List UInt8){t:Nat}(h:¬ t<16):Sha.sch bs (t+1)=Sha.sch bs t++[Sha.s1 ((Sha.sch bs t).getD (t-2) 0)+(Sha.sch bs t).getD (t-7) 0+Sha.s0 ((Sha.sch bs t).getD (t-15) 0)+(Sha.sch bs t).getD (t-16) 0]:=by
 show Sha.sch bs t++[if t<16 then _ else _]=_
 rw [if_neg h]
def mG(bs:List UInt8)(t:Nat):List Value:=(Sha.sch bs t).map fO++List.replicate (64-t) (fO 0)
theorem wW(bs:List UInt8){t:Nat}(h:t≤64):(mG bs t).length=64:=by simp [mG,Sha.sch_len];omega
instance(bs:List UInt8)(t:Nat):OC (mG bs t):=by unfold mG;infer_instance
theorem aAC(bs:List UInt8){t:Nat}(h:t<64){x:UInt32}(hx:Sha.sch bs (t+1)=Sha.sch bs t++[x]):(mG bs t).set t (fO x)=mG bs (t+1):=by
 unfold mG
 rw [hx,bY _ _ (by simp [Sha.sch_len]),aD,Sha.sch_len,dW,show 64-t=(64-(t+1))+1 by omega,fM,fF]
 simp
theorem pW(bs:List UInt8){t j:Nat}(h:j<t):(mG bs t)[j]?=some (fO ((Sha.sch bs t).getD j 0)):=by
 have hl:=Sha.sch_len bs t
 unfold mG
 rw [aL (by simp [hl];exact h),aJ,List.getD,aA oQ];rfl
theorem aGT(a:Option Addr)(cap:Nat)(bs:List UInt8)(hb:bs.length=64):Tri prog 253 [.slice a 64 cap] [] (fun w=>Rd [] w 1 (.slice a 64 cap) (cbs bs)) (fun v' H=>v'=.agg (mG bs 64).toArray∧H=[]):=by
 refine Tri.mk func253 rfl ntmps253 rfl fun w hw=>?_
 have hw2:=hw
 obtain⟨a',len,cap',e,hl,hc,hr⟩:=hw.get
 cases e
 obtain⟨blk,ob,l,T,fz,rfl,hb2,hbk,hys⟩:=hr oQ
 refine W.j fun _ b_=>?_
 rename_i b2
 rw [show List.replicate 64 (Value.int .u32 0)=mG bs 0 from rfl]
 refine bQ [2,3] [(b2,cl (mG bs 0) 362),(b_,cl (mG bs 0) 362)] (fun _=>[]) (fun _:Unit=>[(b2,cl (mG bs 0) 362),(b_,cl (mG bs 64) 362)]) (fun _=>True) ?_ ?_
 ·refine W.k ?_
  refine cK [0,2,3] [b_] (fun t:Nat=>[(5,.int .i64 (t:Int))]) (fun t=>[(b_,cl (mG bs t) 362)]) (fun t=>64-t) (fun t=>t≤64) 0 oQ ?_
  intro t ht
  by_cases ht64:t<64
  ·have hlen:t<(mG bs t).length:=by rw [wW bs ht];exact ht64
   by_cases h16:t<16
   ·refine W.k ?_
    have hsub:=hw2.sub (4*t) (4*t+4) (cap-4*t) oQ oQ oQ
    rw [show 4*t+4-4*t=4 by omega] at hsub ⊢
    refine W.cw (aNB _ ((bs.drop (4*t)).take 4) (by simp;omega)) ?_ rfl (fun w2 hs=>hsub.ro (Hc:=[]) hs)
    rw [aAC bs ht64 (aKF bs h16)]
    refine aQ.mk (t+1) ?_
    omega
   ·have g2:=pW bs (show t-2<t by omega)
    have g7:=pW bs (show t-7<t by omega)
    have g15:=pW bs (show t-15<t by omega)
    have g16:=pW bs (show t-16<t by omega)
    haveI n2:eI ((t:Int)-2) (t-2):=⟨by omega⟩
    haveI n7:eI ((t:Int)-7) (t-7):=⟨by omega⟩
    haveI n15:eI ((t:Int)-15) (t-15):=⟨by omega⟩
    haveI n16:eI ((t:Int)-16) (t-16):=⟨by omega⟩
    have hs:=aAC bs ht64 (aKE bs h16)
    generalize (Sha.sch bs t).getD (t-2) 0=x2 at g2 hs
    generalize (Sha.sch bs t).getD (t-7) 0=x7 at g7 hs
    generalize (Sha.sch bs t).getD (t-15) 0=x15 at g15 hs
    generalize (Sha.sch bs t).getD (t-16) 0=x16 at g16 hs
    refine W.k ?_
    (refine SW.l [23] [0,1,2,3,4,6,7,8,9,11,12,13,14,17,18,19,20] ?_;refine bA 5 ?_)
    refine W.cq (aKM _) ?_
    (refine SL.l [10] ?_;refine bA 15 ?_)
    refine W.cq (aKL _) ?_
    (refine SL.l [16,21,22] ?_;refine bO 23 ?_;refine W.i ?_;refine SS.dn ?_)
    rw [hs]
    refine W.k ?_
    refine aQ.mk (t+1) ?_
    omega
  ·have:t=64:=oQ
   subst this
   refine W.k ?_
   refine bT.mk () ?_
   trivial
 rintro _ -
 have hl64:(mG bs 64).length=64:=wW bs oQ
 have hoc:OC (mG bs 64):=inferInstance
 generalize mG bs 64=Z at hl64 hoc ⊢
 refine W.k ?_
 refine F.c0 Z ?_
 exact⟨rfl,rfl⟩
def s8c(s:S8):List Value:=[fO s.a,fO s.b,fO s.c,fO s.d,fO s.e,fO s.f,fO s.g,fO s.h]
instance(s:S8):OC (s8c s):=by unfold s8c;infer_instance
def hc(tp:Nat)(s:S8)(rv:Value)(n:Int):List Value:=[.pointer (some ⟨tp,0,none⟩),fO s.a,fO s.b,fO s.c,fO s.d,fO s.e,fO s.f,fO s.g,fO s.h,rv,.int .i64 n]
instance(tp:Nat)(s:S8)(rv:Value)(n:Int) [One rv]:OC (hc tp s rv n):=by unfold hc;infer_instance
def S8.get(s:S8):Nat→UInt32
 | 0=>s.a
 | 1=>s.b
 | 2=>s.c
 | 3=>s.d
 | 4=>s.e
 | 5=>s.f
 | 6=>s.g
 | _=>s.h
def stk(s r:S8)(k:Nat):S8:=⟨if 0<k then s.a+r.a else s.a,if 1<k then s.b+r.b else s.b,if 2<k then s.c+r.c else s.c,if 3<k then s.d+r.d else s.d,if 4<k then s.e+r.e else s.e,if 5<k then s.f+r.f else s.f,if 6<k then s.g+r.g else s.g,if 7<k then s.h+r.h else s.h⟩
theorem lt8{k:Nat}(h:k<8):k=0∨k=1∨k=2∨k=3∨k=4∨k=5∨k=6∨k=7:=by omega
theorem aGS(s:S8){k:Nat}(h:k<8):(s8c s)[k]?=some (fO (s.get k)):=by
 rcases lt8 h with rfl|rfl|rfl|rfl|rfl|rfl|rfl|rfl <;> rfl
theorem aO7(tp:Nat)(s:S8)(rv:Value)(n:Int){k:Nat}(h:k<8):(hc tp s rv n)[1+k]?=some (fO (s.get k)):=by
 rcases lt8 h with rfl|rfl|rfl|rfl|rfl|rfl|rfl|rfl <;> rfl
theorem aNA(tp:Nat)(s r:S8)(rv:Value)(n:Int){k:Nat}(h:k<8):(hc tp (stk s r k) rv n).set (1+k) (fO ((stk s r k).get k+r.get k))=hc tp (stk s r (k+1)) rv n:=by
 rcases lt8 h with rfl|rfl|rfl|rfl|rfl|rfl|rfl|rfl <;> rfl
theorem aPx(s r:S8):stk s r 8=Sha.plus s r:=rfl
theorem aMm{t:Nat}(h:t<64):mV[t]?=some (fO (Sha.tabK.getD t 0)):=by
 unfold mV
 rw [aL (by rw [qM];exact h),aHN h]
theorem aLq{p tp:Nat}(s:S8)(rv:Value) [hrv:One rv](n:Int)(a:Option Addr)(cap:Nat)(bs:List UInt8)(hb:bs.length=64) :
  Tri prog 213 [.pointer (some ⟨p,0,none⟩),.slice a 64 cap] [(p,cl (hc tp s rv n) 326),(tp,cl mV 205)] (fun w=>Rd [p,tp] w 1 (.slice a 64 cap) (cbs bs))
   (fun v H=>v=.tuple #[]∧H=[(p,cl (hc tp (Sha.blk s bs) rv n) 326),(tp,cl mV 205)]):=by
 refine Tri.mk func213 rfl ntmps213 rfl fun w hw=>?_
 have hlen:(hc tp s rv n).length=11:=rfl
 have hs8:((hc tp s rv n).drop 1).take 8=s8c s:=rfl
 have htab:∀ t,t<64→mV[t]?=some (fO (Sha.tabK.getD t 0)):=fun t h=>aMm h
 generalize mV=TC at htab ⊢
 refine W.j ?_
 refine W.cq (aGT a cap bs hb) ?_ rfl (fun w2 hs=>hw.ro (Hc:=[]) hs)
 have hZ:∀ t,t<64→(mG bs 64)[t]?=some (fO ((Sha.sch bs 64).getD t 0)):=fun t h=>pW bs h
 have hZl:(mG bs 64).length=64:=wW bs oQ
 have hZo:OC (mG bs 64):=inferInstance
 generalize mG bs 64=Z at hZ hZl hZo ⊢
 refine W.j fun _ b_=>?_
 rename_i b4
 have hzz:Sha.rnds s bs 0=s:=rfl
 rw [show s8c s=s8c (Sha.rnds s bs 0) from rfl]
 refine SW.cut [0,5] [b_] (fun _:Unit=>[]) (fun _=>[(b_,cl (s8c (Sha.rnds s bs 64)) 324)]) (fun _=>True) ?_ ?_
 ·refine W.k ?_
  refine cK [0,4,5] [b_] (fun t:Nat=>[(18,.int .i64 (t:Int))]) (fun t=>[(b_,cl (s8c (Sha.rnds s bs t)) 324)]) (fun t=>64-t) (fun t=>t≤64) 0 oQ ?_
  intro t ht
  by_cases ht64:t<64
  ·have hT:=htab t ht64
   have hW:=hZ t ht64
   have hstep:Sha.rnds s bs (t+1)=Sha.rnd (Sha.rnds s bs t) (Sha.tabK.getD t 0) ((Sha.sch bs 64).getD t 0):=rfl
   generalize Sha.rnds s bs t=S at hstep ⊢
   generalize Sha.tabK.getD t 0=K at hT hstep
   generalize (Sha.sch bs 64).getD t 0=wt at hW hstep
   have htl:t<TC.length:=(aE.1 hT).1
   have hzl:t<Z.length:=oQ
   have hbd:bX (fun i=>some (i*1,1)) (List.replicate 8 (.int .u32 0)) [(0,fO (Sha.t1 S K wt+Sha.t2 S)),(1,fO S.a),(2,fO S.b),(3,fO S.c),(4,fO (S.d+Sha.t1 S K wt)),(5,fO S.e),(6,fO S.f),(7,fO S.g)]=some (s8c (Sha.rnd S K wt)):=rfl
   refine W.k ?_
   refine aG7 [0,4,5,6,7,8,18] ?_
   rw [show (S.e &&& S.f ^^^ ~~~S.e &&& S.g)=Sha.ch S.e S.f S.g from rfl,show (S.a &&& S.b ^^^ S.a &&& S.c ^^^ S.b &&& S.c)=Sha.maj S.a S.b S.c from rfl]
   (refine SW.l [] [0,1,2,3,6,8,9,10,11,12,13,14,15,16,18,19,20] ?_;refine bA 4 ?_)
   refine W.cq (aJP _) ?_
   (refine SL.l [5,7,17,21,22,23] ?_)
   refine aG7 [0,4,5,8,9,18] ?_
   rw [show S.h+Sha.S1 S.e+Sha.ch S.e S.f S.g+K+wt=Sha.t1 S K wt from rfl]
   refine W.k ?_
   refine W.cw (aJO _) ?_
   rw [← hstep]
   refine aQ.mk (t+1) ?_
   omega
  ·have:t=64:=oQ
   subst this
   refine W.k ?_
   refine bT.mk () ?_
   trivial
 rintro _ -
 have hfin:Sha.blk s bs=Sha.plus s (Sha.rnds s bs 64):=rfl
 rw [hfin]
 clear hfin
 generalize Sha.rnds s bs 64=S
 have hzz2:stk s S 0=s:=rfl
 rw [show hc tp s rv n=hc tp (stk s S 0) rv n from rfl]
 refine W.k ?_
 refine cK [0,5] [p] (fun k:Nat=>[(98,.int .i64 (k:Int))]) (fun k=>[(p,cl (hc tp (stk s S k) rv n) 326)]) (fun k=>8-k) (fun k=>k≤8) 0 oQ ?_
 intro k hk
 by_cases hk8:k<8
 ·have h1:=aO7 tp (stk s S k) rv n hk8
  have h2:=aGS S hk8
  have h3:=aNA tp s S rv n hk8
  have hl1:1+k<(hc tp (stk s S k) rv n).length:=by show _<11;omega
  have hAo:OC (hc tp (stk s S k) rv n):=inferInstance
  generalize hc tp (stk s S k) rv n=A at h1 h3 hl1 hAo ⊢
  generalize (stk s S k).get k=x at h1 h3
  generalize S.get k=y at h2 h3
  refine W.k ?_
  (refine SW.l [13] [0,1,2,3,4,5,6,7,8,9,10,11,12] ?_;refine bO 13 ?_;refine W.i ?_;refine SS.dn ?_)
  rw [h3]
  refine W.k ?_
  refine aQ.mk (k+1) ?_
  omega
 ·have:k=8:=oQ
  subst this
  rw [aPx]
  refine W.k ?_
  refine Fin.to [(p,cl (hc tp (Sha.plus s S) rv n) 326),(tp,cl TC 205)] ?_
  refine F.f0 ?_
  exact⟨rfl,rfl⟩
def byU(v:UInt64)(k:Nat):UInt8:=(v >>> UInt64.ofNat (8*k)).toUInt8
theorem aAR(v:UInt64){k:Nat}(hk:k<8):byU v k=UInt8.ofNat (v.toNat/256^k):=by
 have h1:(UInt64.ofNat (8*k)).toNat=8*k:=by rw [aW];omega
 apply kL.1
 unfold byU
 rw [UInt64.toNat_toUInt8,UInt64.toNat_shiftRight,h1,cY,eZ,dO (show 8*k<64 by omega),Nat.pow_mul]
theorem aNl(v:UInt64){n:Nat}(hn:n≤8):Sha.beN n v.toNat=(List.range n).map fun k=>byU v (n-1-k):=by
 unfold Sha.beN
 apply eH
 intro k hk
 rw [aAR v (by have:=eP.1 hk;omega)]
abbrev aJ3(n:Nat)(v:UInt64):Value:=.agg [(.int .i64 (n:Int):Value),eG v].toArray
theorem aPB(n:Nat)(v:UInt64)(k:Nat)(hk:k<8):Tri prog 146 [aJ3 n v,.int .i64 (k:Int)] [] (fun _=>True) (fun r H=>r=.int .u8 ((byU v k).toNat:Int)∧H=[]):=by
 refine Tri.mk func146 rfl ntmps146 rfl fun w hw=>?_
 haveI i1:aH1 (8*(k:Int)) (UInt64.ofNat (8*k)):=⟨by rw [aW];omega,by rw [aW];omega⟩
 refine W.k fun b_=>?_
 refine Fin.to [] ?_
 refine F.f1 ?_
 exact⟨rfl,rfl⟩
theorem aNt(n:Nat)(v:UInt64)(k:Nat)(hn:n≤8)(hk:k<n):Tri prog 256 [aJ3 n v,.int .i64 (k:Int)] [] (fun _=>True) (fun r H=>r=.int .u8 ((byU v (n-1-k)).toNat:Int)∧H=[]):=by
 refine Tri.mk func256 rfl ntmps256 rfl fun w hw=>?_
 refine W.k fun b_=>?_
 refine eJ (aPB n v (n-1-k) oQ) ?_ ?_
 ·rw [show ((n:Int)-1-(k:Int))=((n-1-k:Nat):Int) by omega]
 rintro _ _ ⟨rfl,rfl⟩
 refine W.k ?_
 refine Fin.to [] ?_
 refine F.f1 ?_
 exact⟨rfl,rfl⟩
def oS(g:Nat→UInt8)(n k:Nat):List UInt8:=(List.range k).map g++List.replicate (n-k) 0
theorem aDm(g:Nat→UInt8){n k:Nat}(h:k≤n):(oS g n k).length=n:=by simp [oS];omega
theorem aDn(g:Nat→UInt8){n k:Nat}(h:k<n):(cbs (oS g n k)).set k (.int .u8 ((g k).toNat:Int))=cbs (oS g n (k+1)):=by
 unfold oS
 unfold cbs
 rw [aV,bY _ _ (by simp),aD,aD,dY,dW,show n-k=(n-(k+1))+1 by omega,fM,dP,fF,bV]
 simp
theorem aDl(g:Nat→UInt8)(n:Nat):oS g n n=(List.range n).map g:=by simp [oS]
theorem aHc(n:Nat)(v:UInt64)(g:Nat→UInt8)(f:FuncId) [bD prog f](us:List Value)(hn:1≤n)(hn8:n≤8)(hg:∀ k,k<n→Tri prog f (us++[.int .i64 (k:Int)]++[]) [] (fun _=>True) (fun r H=>r=.int .u8 ((g k).toNat:Int)∧H=[])) :
  Tri prog 145 [aJ3 n v,.func (.func f) us.toArray #[]] [] (fun _=>True) (fun r H=>∃ b,r=.slice (some ⟨b,0,none⟩) n n∧H=[(b,cl (cbs ((List.range n).map g)) 5)]):=by
 refine Tri.mk func145 rfl ntmps145 rfl fun w hw=>?_
 refine W.j fun _ b_=>?_
 rw [show zs [.int .u8 0] n=cbs (oS g n 0) by rw [lH];simp [oS]]
 refine SW.cut [5] [b_] (fun _:Unit=>[]) (fun _=>[(b_,cl (cbs (oS g n n)) 5)]) (fun _=>True) ?_ ?_
 ·refine W.k ?_
  refine cK [1,5,19] [b_] (fun k:Nat=>[(20,.int .i64 (k:Int))]) (fun k=>[(b_,cl (cbs (oS g n k)) 5)]) (fun k=>n-k) (fun k=>k≤n) 0 oQ ?_
  intro k hk
  by_cases hkn:k<n
  ·have hlen:k<(cbs (oS g n k)).length:=by rw [aD,aDm g hk];exact hkn
   refine W.k ?_
   refine dV [] rfl rfl rfl rfl rfl rfl (hg k hkn) (fun _ _=>trivial) ?_
   rintro _ _ ⟨rfl,rfl⟩
   refine W.k ?_
   rw [aDn g hkn]
   refine aQ.mk (k+1) ?_
   omega
  ·have:k=n:=oQ
   subst this
   refine W.k ?_
   refine bT.mk () ?_
   trivial
 rintro _ -
 refine W.k ?_
 rw [aDl]
 refine Fin.to [(b_,cl (cbs ((List.range n).map g)) 5)] ?_
 refine F.f1 ?_
 exact⟨b_,rfl,rfl⟩
theorem aCl(n:Nat)(v:UInt64)(hn:1≤n)(hn8:n≤8):Tri prog 215 [.int .i64 (n:Int),eG v] [] (fun _=>True) (fun r H=>∃ b,r=.slice (some ⟨b,0,none⟩) n n∧H=[(b,cl (cbs (Sha.beN n v.toNat)) 5)]):=by
 refine Tri.mk func215 rfl ntmps215 rfl fun w hw=>?_
 refine W.k fun b_=>?_
 refine aF (aHc n v (fun k=>byU v (n-1-k)) 256 [aJ3 n v] hn hn8 (fun k hk=>aNt n v k hn8 hk)) ?_
 rintro _ _ ⟨b,rfl,rfl⟩
 refine W.k ?_
 rw [← aNl v hn8]
 refine Fin.to [(b,cl (cbs (Sha.beN n v.toNat)) 5)] ?_
 refine F.f1 ?_
 exact⟨b,rfl,rfl⟩
theorem aOK(n:Nat)(hn:n≤1099511627776):Tri prog 214 [.int .i64 (n:Int)] [] (fun _=>True) (fun r H=>Sl 5 1 r (cbs (Sha.padN n)) H):=by
 refine Tri.mk func214 rfl ntmps214 rfl fun w hw=>?_
 haveI i1:eI ((119-(n:Int)%64)%64) ((119-n%64)%64):=⟨by omega⟩
 have hv8:(8*UInt64.ofNat n).toNat=8*n:=by
  have e8:(8:UInt64).toNat=8:=rfl
  rw [pM,aW,e8];omega
 refine W.k fun b_=>?_
 have h1:Sl 5 1 (.slice (some ⟨b_,0,none⟩) 1 1) [.int .u8 128] [(b_,cl (([.int .u8 128]:List Value)++[]) 5)]:=Sl.mk (len:=1) (cap:=1) rfl rfl (Nat.le_refl _)
 refine aMA h1 ?_ (bytes:=1) (hp:=fA.self _) (hbytes:=by simp only [aX,List.length_nil];omega)
 intro v1 H1 h2
 have hV:=h2.isOne
 obtain⟨a,len,cap,rfl,hl⟩:=h2.form
 refine W.k ?_
 refine eJ (aCl 8 (8*UInt64.ofNat n) oQ oQ) rfl ?_
 rintro _ _ ⟨b2,rfl,rfl⟩
 rw [hv8]
 refine W.ap (ys:=cbs (Sha.beN 8 (8*n))) (mm:=8) h2 (fun w hs=>?_) ?_ (hys:=by simp [Sha.beN_len]) (hbytes:=by simp [Sha.beN_len];omega)
 ·exact eU.block hs.at (by rw [bR,aK (by simp [Sha.beN_len])]) (by simp [Sha.beN_len])
 intro v3 H3 h3
 have:=h3.isOne
 refine W.k ?_
 refine Fin.to H3 ?_
 refine F.f1 ?_
 have e:cbs (Sha.padN n)=[.int .u8 128]++List.replicate ((119-n%64)%64) (.int .u8 0)++cbs (Sha.beN 8 (8*n)):=by simp [Sha.padN]
 rw [e]
 exact h3
namespace Sha
theorem absN_snd:∀ (j:Nat) (s:S8) (m:List UInt8),(absN j s m).2=m.drop (64*j)
 | 0,s,m=>by simp [absN]
 | j+1,s,m=>by
  rw [absN,absN_snd j,cJ]
  congr 1
  omega
theorem absN_fst:∀ (j:Nat) (s:S8) (m:List UInt8),(absN (j+1) s m).1=blk (absN j s m).1 ((m.drop (64*j)).take 64)
 | 0,s,m=>by simp [absN]
 | j+1,s,m=>by
  rw [absN,absN_fst j,absN,cJ]
  congr 3
  omega
end Sha
def aCZ(k:Nat):S8:=⟨if 0<k then Sha.ini.a else 0,if 1<k then Sha.ini.b else 0,if 2<k then Sha.ini.c else 0,if 3<k then Sha.ini.d else 0,if 4<k then Sha.ini.e else 0,if 5<k then Sha.ini.f else 0,if 6<k then Sha.ini.g else 0,if 7<k then Sha.ini.h else 0⟩
theorem aJS(tp:Nat)(rv:Value)(n:Int){k:Nat}(h:k<8):(hc tp (aCZ k) rv n).set (1+k) (fO (Sha.tabH.getD k 0))=hc tp (aCZ (k+1)) rv n:=by
 rcases lt8 h with rfl|rfl|rfl|rfl|rfl|rfl|rfl|rfl <;> rfl
theorem aOI(tp:Nat):Tri prog 154 [.pointer (some ⟨tp,0,none⟩)] [(tp,cl mV 205)] (fun _=>True)
  (fun v H=>∃ p,v=.pointer (some ⟨p,0,none⟩)∧H=[(p,cl (hc tp Sha.ini (.slice none 0 0) 0) 326),(tp,cl mV 205)]):=by
 refine Tri.mk func154 rfl ntmps154 rfl fun w hw=>?_
 have hT:(mV.drop 64).take 8=mL 8 Sha.tabH 8:=by
  unfold mV
  rw [eW (qM _ _ _),aK (by rw [qM];exact Nat.le_refl _)]
 generalize mV=TC at hT ⊢
 refine W.j fun b_=>?_
 rw [show (List.take 0 ([Value.pointer none]++List.replicate 8 (Value.int .u32 0)++[Value.slice none 0 0]++[Value.int .i64 0])++vl (.pointer (some ⟨tp,0,none⟩))++List.drop (0+1) ([Value.pointer none]++List.replicate 8 (Value.int .u32 0)++[Value.slice none 0 0]++[Value.int .i64 0]))=hc tp (aCZ 0) (.slice none 0 0) 0 from rfl]
 refine bQ [3] [(b_,cl (hc tp (aCZ 0) (.slice none 0 0) 0) 326)] (fun _:Unit=>[]) (fun _=>[(b_,cl (hc tp (aCZ 8) (.slice none 0 0) 0) 326)]) (fun _=>True) ?_ ?_
 ·refine W.k ?_
  refine bF [3,14] (fun k:Nat=>[(15,.int .i64 (k:Int))]) (fun k=>[(b_,cl (hc tp (aCZ k) (.slice none 0 0) 0) 326)]) (fun k=>8-k) (fun k=>k≤8) 0 oQ ?_
  intro k hk
  by_cases hk8:k<8
  ·have h1:(mL 8 Sha.tabH 8)[k]?=some (fO (Sha.tabH.getD k 0)):=aHN hk8
   have h3:=aJS tp (.slice none 0 0) 0 hk8
   have hl1:1+k<(hc tp (aCZ k) (.slice none 0 0) 0).length:=by show _<11;omega
   have hAo:OC (hc tp (aCZ k) (.slice none 0 0) 0):=inferInstance
   generalize hc tp (aCZ k) (.slice none 0 0) 0=A at h3 hl1 hAo ⊢
   generalize Sha.tabH.getD k 0=y at h1 h3
   refine W.k ?_
   rw [h3]
   refine aQ.mk (k+1) ?_
   omega
  ·have:k=8:=oQ
   subst this
   refine W.k ?_
   refine bT.mk () ?_
   trivial
 rintro _ -
 rw [show aCZ 8=Sha.ini from rfl]
 refine W.k ?_
 refine F.f1 ?_
 exact⟨b_,rfl,rfl⟩
abbrev mP(M:List UInt8):S8×List UInt8:=Sha.absorb Sha.ini M
theorem aJj(M k:List UInt8):mP (M++k)=Sha.absorb (mP M).1 ((mP M).2++k):=Sha.absorb_app k _ _ _ (Nat.le_refl _)
theorem aJk(M:List UInt8):(mP M).2.length=M.length%64:=Sha.absorb_len _ _ _ (Nat.le_refl _)
theorem uJ(bss:List (List UInt8)){i:Nat}{bs:List UInt8}(h:bss[i]?=some bs):(bss.take (i+1)).flatten=(bss.take i).flatten++bs:=by
 rw [aZ,h,dJ,nG];simp
theorem aBG(bss:List (List UInt8))(i:Nat):(bss.take i).flatten.length≤bss.flatten.length:=by
 have:bss.flatten=(bss.take i).flatten++(bss.drop i).flatten:=by rw [← nG,dG]
 rw [this,aB];omega
theorem aG8{p tp:Nat}(M:List UInt8)(n:Nat)(bss:List (List UInt8)){rv:Value}{Hs:Hp}(hrv:Sl 5 1 rv (cbs (mP M).2) Hs)(pv:Value)(hn:n+bss.flatten.length≤1099511627776)(hn2:bss.length≤1099511627776) :
  Tri prog 155 [.pointer (some ⟨p,0,none⟩),pv] ((p,cl (hc tp (mP M).1 rv n) 326)::(tp,cl mV 205)::Hs) (fun w=>RdS (p::tp::Hs.map Prod.fst) w pv bss)
   (fun v H=>v=.tuple #[]∧∃ rv' Hs' Ho,Sl 5 1 rv' (cbs (mP (M++bss.flatten)).2) Hs'∧(bss=[]∧rv'=rv∧Hs'=Hs∧Ho=[]∨bss≠[]∧Sl 5 1 rv (cbs (mP M).2) Ho) ∧
    H=(p,cl (hc tp (mP (M++bss.flatten)).1 rv' (n+bss.flatten.length:Nat)) 326)::(tp,cl mV 205)::(Hs'++Ho)):=by
 refine Tri.mk func155 rfl ntmps155 rfl fun w hw=>?_
 have hrv1:=hrv.isOne
 obtain⟨vs,hR,hvl,hvs⟩:=hw
 obtain⟨pa,pl,pc,rfl,hpl,hpc,hpr⟩:=hR
 rw [Nat.mul_one] at hpl
 have hbl:bss.length=pl:=oQ
 have e0:hc tp (mP M).1 rv n=hc tp (mP (M++(bss.take 0).flatten)).1 rv (n+(bss.take 0).flatten.length:Nat):=by simp
 refine W.k ?_
 rw [e0]
 refine bF (hp:=by dsimp only;infer_instance) [0,9,10] (fun x:Nat×Value×Hp×Hp=>[(11,.int .i64 (x.1:Int))])
  (fun x=>(p,cl (hc tp (mP (M++(bss.take x.1).flatten)).1 x.2.1 (n+(bss.take x.1).flatten.length:Nat)) 326)::(x.2.2.1++x.2.2.2)) (fun x=>pl-x.1)
  (fun x=>x.1≤pl∧Sl 5 1 x.2.1 (cbs (mP (M++(bss.take x.1).flatten)).2) x.2.2.1∧(x.1=0∧x.2.1=rv∧x.2.2.1=Hs∧x.2.2.2=[]∨0<x.1∧Sl 5 1 rv (cbs (mP M).2) x.2.2.2)) (0,rv,Hs,[]) ?_ ?_
 ·refine⟨Nat.zero_le _,?_,.inl ⟨rfl,rfl,rfl,rfl⟩⟩
  simpa using hrv
 rintro⟨i,rvi,Hi,Ho⟩ ⟨hi,hsi,hor⟩
 dsimp only at hi hsi hor ⊢
 by_cases hip:i<pl
 ·obtain⟨bs,hbs⟩:∃ bs,bss[i]?=some bs:=⟨_,aA oQ⟩
  obtain⟨a,len,cap,hvi,hrd⟩:=hvs i bs hbs
  have hfl:=aBG bss (i+1)
  have hA:=aJj (M++(bss.take i).flatten) bs
  rw [aM,← uJ bss hbs] at hA
  have hf2:=uJ bss hbs
  have hAl:=aJk (M++(bss.take i).flatten)
  obtain⟨pb,po,l,T,fz,rfl,hpb,hpk,hpy⟩:=hpr.resolve_left oQ
  have hl:l[po+i]?=some (.slice a len cap):=by
   rw [← hpy,bE,if_pos oQ,bI] at hvi
   exact hvi
  obtain⟨hbsl,hlc⟩:=hrd.len1
  have hNl:((bss.take (i+1)).flatten).length=((bss.take i).flatten).length+len:=by rw [hf2,aB,hbsl]
  have hA0:i=0→mP (M++(bss.take i).flatten)=mP M:=by rintro rfl;simp
  generalize mP (M++(bss.take i).flatten)=A at hsi hA hAl hA0 ⊢
  have hN:n+(bss.take i).flatten.length+len≤1099511627776:=oQ
  have hN1:n+(bss.take (i+1)).flatten.length=n+(bss.take i).flatten.length+len:=oQ
  have hmm:A.2.length≤64:=oQ
  generalize n+(bss.take i).flatten.length=N at hN hN1 ⊢
  obtain⟨S,m⟩:=A
  dsimp only at hsi hA hmm ⊢
  have hsi1:=hsi.isOne
  obtain⟨ra,rl,rc,rfl,hrl⟩:=hsi.form
  haveI:OC (hc tp S (.slice ra rl rc) N):=inferInstance
  refine W.k ?_
  rw [show (hc tp S (Value.slice ra rl rc) (N:Int)).set 10 (.int .i64 ((N:Int)+(len:Int)))=hc tp S (.slice ra rl rc) ((N+len:Nat):Int) from rfl]
  refine aOQ hsi (fun w2 hs=>hrd.srcAt hs) (fun v1 Hv Hf Hr Hoo h1 hr hperm=>?_) (hys:=by simp;omega) (hbytes:=by simp;omega)
  have h11:=h1.isOne
  obtain⟨va,vl,vc,rfl,-⟩:=h1.form
  obtain⟨hvl1,hvc,hva⟩:=h1.lens
  have h1':Sl 5 1 (.slice va vl vc) (cbs (m++bs)) Hv:=by rw [jB];exact h1
  have hM1:(m++bs).length=vl:=by simpa using hvl1
  have hvl4:vl≤1099511627776+64:=by rw [aB] at hM1;omega
  clear h1 hvl1
  generalize m++bs=M1 at h1' hM1 hA
  have hab:Sha.absorb S M1=Sha.absN (M1.length/64) S M1:=rfl
  have hab2:(Sha.absorb S M1).2=M1.drop (64*(M1.length/64)):=by rw [hab,Sha.absN_snd]
  refine W.j ?_
  refine SW.cut [0,9,10,11] [p] (fun _:Unit=>[(6,.int .i64 ((64*(M1.length/64):Nat):Int))]) (fun _=>[(p,cl (hc tp (Sha.absorb S M1).1 (.slice va vl vc) ((N+len:Nat):Int)) 326)]) (fun _=>True) ?_ ?_
  ·refine W.k ?_
   refine cK [0,9,10,11] [p] (fun j:Nat=>[(6,.int .i64 ((64*j:Nat):Int))]) (fun j=>[(p,cl (hc tp (Sha.absN j S M1).1 (.slice va vl vc) ((N+len:Nat):Int)) 326)]) (fun j=>M1.length-j) (fun j=>64*j≤M1.length) 0 oQ ?_
   intro j hj
   by_cases h64:64*j+64≤vl
   ·obtain⟨vb,rfl⟩:=hva.resolve_left oQ
    refine W.k ?_
    refine eJ (aLq (p:=p) (tp:=tp) (Sha.absN j S M1).1 (.slice (some ⟨vb,0,none⟩) vl vc) ((N+len:Nat):Int) (some ⟨vb,64*j,none⟩) (vc-64*j) ((M1.drop (64*j)).take 64) (by simp;omega)) ?_ ?_ (hpre:=fun w2 hs=>?_)
    ·rw [show 64*j+64-64*j=64 by omega]
    ·rintro _ _ ⟨rfl,rfl⟩
     rw [← Sha.absN_fst]
     refine W.k ?_
     rw [show ((64*j:Nat):Int)+64=((64*(j+1):Nat):Int) by omega]
     refine aQ.mk (j+1) ?_
     omega
    ·have h2:=(Rd.ownB [p,tp] h1' hs).sub (64*j) (64*j+64) (vc-64*j) oQ oQ oQ
     rw [show 64*j+64-64*j=64 by omega,fX] at h2
     exact h2
   ·have hje:j=M1.length/64:=oQ
    subst hje
    rw [← hab]
    refine W.k ?_
    refine bT.mk () ?_
    trivial
  rintro _ -
  refine W.k ?_
  refine aOW ?_ hvc
  refine W.k ?_
  refine W.ap (Sl.nil _ _) (fun w2 hs=>h1'.srcFrom oQ hs inferInstance) (fun v3 H3 h3=>?_) (mm:=vl-64*(M1.length/64)) (ys:=(cbs M1).drop (64*(M1.length/64))) (hys:=by rw [bG,aI];omega) (hbytes:=by rw [bG,aI,List.length_nil];omega)
  rw [List.nil_append,aB8,← hab2,← hA] at h3
  rw [← hA]
  have h31:=h3.isOne
  haveI:fA (Hv++Hf) Hr Hoo:=⟨hperm⟩
  refine W.k ?_
  rw [show ∀ S:S8,(hc tp S (Value.slice va vl vc) ((N+len:Nat):Int)).set 9 v3=hc tp S v3 ((N+len:Nat):Int) from fun _=>rfl,← hN1]
  refine W.k ?_
  rcases hor with ⟨h0,hor1,hor2,hor3⟩|⟨h0,hor1⟩
  ·refine aQ.mk (i+1,v3,H3,Hr) ?_
   exact⟨by omega,h3,.inr ⟨by omega,by rw [← hA0 h0,← hor1];exact hr⟩⟩
  ·refine aQ.mk (i+1,v3,H3,Ho) ?_
   exact⟨by omega,h3,.inr ⟨by omega,hor1⟩⟩
 ·have hi2:i=pl:=oQ
  subst hi2
  have hall:bss.take i=bss:=aK oQ
  rw [hall] at hsi ⊢
  refine W.k ?_
  refine Fin.to ((p,cl (hc tp (mP (M++bss.flatten)).1 rvi (n+bss.flatten.length:Nat)) 326)::(tp,cl mV 205)::(Hi++Ho)) ?_
  refine F.f0 ?_
  refine⟨rfl,rvi,Hi,Ho,hsi,?_,rfl⟩
  rcases hor with ⟨h0,h1,h2,h3⟩|⟨h0,h1⟩
  ·exact .inl ⟨bJ oQ,h1,h2,h3⟩
  ·exact .inr ⟨fun h=>by rw [h] at hbl;simp at hbl;omega,h1⟩
theorem F.cH{P:Program}{C:Ctx}{ρ:Fr}{H:Hp}{fn:Func}{R:Value→Hp→Prop}{e:Exit}{t ty n b:Nat}{l:List Value}{T:TypeId}(Hc:Hp){s:Hp}(l2:List Value) [hp:fA H Hc s](hR:R (.agg l2.toArray) Hc)(he:e=.ret∨e=.normal:=by first|exact .inl rfl|exact .inr rfl)(hrs:fn.results=#[.cell t ty]:=by exact rfl)(ht:lk ρ t=some (.pointer (some ⟨b,0,none⟩)):=by exact rfl)(hat:At H b (cl l T):=by infer_instance)(hl:l=l2:=by first|assumption|exact rfl)(iR:fC P ty n:=by infer_instance)(hn:l2.length=n:=by first|assumption|exact rfl):Fin P C fn R e ρ H:=by
 subst hl
 exact Fin.c1 he hrs ht hn Hc hR
def tU(s:S8)(k:Nat):List Value:=cbs ((Sha.outB s).take (4*k)++List.replicate (32-4*k) 0)
theorem aFK(s:S8){k:Nat}(h:k≤8):(tU s k).length=32:=by
 unfold tU;rw [aI,aB,aG,Sha.outB_len,aS];omega
theorem aJ8(s:S8){k:Nat}(h:k<8):(tU s k).take (4*k)++cbs (Sha.beN 4 (s.get k).toNat)++(tU s k).drop (4*k+(cbs (Sha.beN 4 (s.get k).toNat)).length)=tU s (k+1):=by
 rcases lt8 h with rfl|rfl|rfl|rfl|rfl|rfl|rfl|rfl <;> rfl
theorem aJ7(s:S8):tU s 8=cbs (Sha.outB s):=by
 unfold tU
 rw [aK (by rw [Sha.outB_len];exact Nat.le_refl _)]
 simp
instance(s:S8)(k:Nat):OC (tU s k):=by unfold tU;infer_instance
theorem aM1{p tp:Nat}(M:List UInt8){rv:Value}{Hs:Hp}(hrv:Sl 5 1 rv (cbs (mP M).2) Hs)(hn:M.length≤1099511627000) :
  Tri prog 156 [.pointer (some ⟨p,0,none⟩)] ((p,cl (hc tp (mP M).1 rv M.length) 326)::(tp,cl mV 205)::Hs) (fun _=>True)
   (fun v H=>v=.agg (cbs (Sha.sum M)).toArray∧∃ Hs',Sl 5 1 rv (cbs (mP M).2) Hs'∧H=(p,cl (hc tp (mP M).1 rv M.length) 326)::(tp,cl mV 205)::Hs'):=by
 refine Tri.mk func156 rfl ntmps156 rfl fun w hw=>?_
 have hrv1:=hrv.isOne
 obtain⟨ra,rl,rc,rfl,-⟩:=hrv.form
 have hs8:((hc tp (mP M).1 (.slice ra rl rc) M.length).drop 1).take 8=s8c (mP M).1:=rfl
 have hbd:bX (fun i=>[(0,1),(1,8),(9,1),(10,1)][i]?) ([.pointer none]++List.replicate 8 (.int .u32 0)++[.slice none 0 0]++[.int .i64 0]) [(0,.pointer (some ⟨tp,0,none⟩)),(1,.agg (s8c (mP M).1).toArray),(2,.slice ra rl rc)]=some (hc tp (mP M).1 (.slice ra rl rc) ((0:Nat):Int)):=rfl
 have hlen:(hc tp (mP M).1 (.slice ra rl rc) M.length).length=11:=rfl
 refine W.k fun _ b_=>?_
 rename_i b2
 (refine SW.l [13] [0,1,2,3,4,5,6,7,8,9,10,11,12] ?_;refine bO 13 ?_;refine W.i fun b_=>?_;refine SG.l [14,15] ?_)
 rename_i b3
 refine W.j ?_
 refine aF (aOK M.length oQ) ?_
 intro vP HP hP
 have hP1:=hP.isOne
 obtain⟨pa,pl,pc,rfl,-⟩:=hP.form
 have hpl:=Sha.padN_len M.length
 have hpl2:(Sha.padN M.length).length≤73:=by simp [Sha.padN,Sha.beN_len];omega
 have hbl:bX (fun i=>some (i*1,1)) (zs [.slice none 0 0] 1) [(0,.slice pa pl pc)]=some [.slice pa pl pc]:=rfl
 refine W.j fun b_=>?_
 rename_i b4
 refine aF (aG8 (p:=b4) (tp:=tp) M 0 [Sha.padN M.length] hrv (.slice (some ⟨b_,0,none⟩) 1 1) (by simp;omega) (by simp)) ?_ (hpre:=fun w2 hs=>?_)
 ·rintro _ _ ⟨rfl,rv',Hs',Ho,hrv',hor,rfl⟩
  have hfl:[Sha.padN M.length].flatten=Sha.padN M.length:=by simp
  rw [hfl] at hrv' ⊢
  have hsum:Sha.outB (mP (M++Sha.padN M.length)).1=Sha.sum M:=rfl
  have hHo:Sl 5 1 (.slice ra rl rc) (cbs (mP M).2) Ho:=by
   rcases hor with ⟨h,-⟩|⟨-,h⟩
   ·simp at h
   ·exact h
  generalize ((0+(Sha.padN M.length).length:Nat):Int)=N
  generalize (mP (M++Sha.padN M.length)).1=S at hsum ⊢
  have hlen2:(hc tp S rv' N).length=11:=rfl
  have hs82:((hc tp S rv' N).drop 1).take 8=s8c S:=rfl
  refine W.j ?_
  rw [show List.replicate 32 (Value.int .u8 0)=tU S 0 from rfl]
  refine SW.cut [2,3] [b3] (fun _:Unit=>[]) (fun _=>[(b3,cl (tU S 8) 55)]) (fun _=>True) ?_ ?_
  ·refine W.k ?_
   refine cK [2,3,35] [b3] (fun k:Nat=>[(36,.int .i64 (k:Int))]) (fun k=>[(b3,cl (tU S k) 55)]) (fun k=>8-k) (fun k=>k≤8) 0 oQ ?_
   intro k hk
   by_cases hk8:k<8
   ·have h2:=aGS S hk8
    have h3:=aJ8 S hk8
    have hl32:=aFK S hk
    have hy4:(cbs (Sha.beN 4 (S.get k).toNat)).length=4:=by rw [aI,Sha.beN_len]
    generalize tU S k=A at h3 hl32 ⊢
    generalize S.get k=y at h2 h3 hy4
    refine W.k ?_
    (refine SW.l [] [0,1] ?_;refine dZ 2 rfl (aLW rfl rfl rfl oQ) ?_;refine SG.l [3,4] ?_;refine bA 5 ?_)
    refine aF (aCl 4 y.toUInt64 oQ oQ) ?_
    rintro _ _ ⟨b5,rfl,rfl⟩
    rw [UInt32.toNat_toUInt64]
    (refine bC [] ?_;refine bA 6 ?_)
    refine W.cy (ys:=cbs (Sha.beN 4 y.toNat)) (mm:=4) (fun w2 hs=>?_) ?_
    ·exact eU.block (l:=cbs (Sha.beN 4 y.toNat)) hs.at (by rw [bR,aK oQ]) oQ
    rw [h3]
    (refine bC [] ?_;refine SS.dn ?_)
    refine W.k ?_
    refine aQ.mk (k+1) ?_
    omega
   ·have:k=8:=oQ
    subst this
    refine W.k ?_
    refine bT.mk () ?_
    trivial
  rintro _ -
  rw [aJ7,hsum]
  refine W.k ?_
  refine F.cH ((p,cl (hc tp (mP M).1 (.slice ra rl rc) M.length) 326)::(tp,cl mV 205)::Ho) (cbs (Sha.sum M)) ?_
  exact⟨rfl,Ho,hHo,rfl⟩
 ·refine RdS.at (T:=23) (fz:=(0,0)) (Hc:=(b4,cl (hc tp (mP M).1 (.slice ra rl rc) ((0:Nat):Int)) 326)::(tp,cl mV 205)::Hs) (vs:=[.slice pa pl pc]) (bss:=[Sha.padN M.length]) hs rfl (Nat.le_refl _) rfl ?_
  intro i bs hi
  have hi0:i=0:=by
   have:=(aE.1 hi).1
   simp at this;omega
  subst hi0
  simp at hi
  subst hi
  exact⟨_,_,_,rfl,Rd.own (Hc:=(b4,cl (hc tp (mP M).1 (.slice ra rl rc) ((0:Nat):Int)) 326)::(tp,cl mV 205)::Hs) hP hs inferInstance⟩
theorem aNd{tp:Nat}(bss:List (List UInt8))(pv:Value) [hpv:One pv](hn:bss.flatten.length≤1099511627000)(hn2:bss.length≤1099511627776):Tri prog 98 [.pointer (some ⟨tp,0,none⟩),pv] [(tp,cl mV 205)] (fun w=>RdS [tp] w pv bss) (fun v H=>v=.agg (cbs (Sha.sum bss.flatten)).toArray∧H=[(tp,cl mV 205)]):=by
 refine Tri.mk func98 rfl ntmps98 rfl fun w hw=>?_
 refine W.k fun b_=>?_
 refine aF (aOI tp) ?_
 rintro _ _ ⟨p,rfl,rfl⟩
 refine W.k ?_
 rw [show hc tp Sha.ini (.slice none 0 0) 0=hc tp (mP []).1 (.slice none 0 0) ((0:Nat):Int) from rfl]
 refine aF (aG8 (p:=p) (tp:=tp) [] 0 bss (Sl.nil _ _) pv oQ hn2) ?_ (hpre:=fun w2 hs=>?_)
 ·rintro _ _ ⟨rfl,rv',Hs',Ho,hrv',hor,rfl⟩
  rw [List.nil_append] at hrv'
  rw [List.nil_append,fX]
  have h1:=hrv'.isOne
  refine W.k ?_
  refine aF (aM1 (p:=p) (tp:=tp) bss.flatten hrv' hn) ?_
  rintro _ _ ⟨rfl,Hs2,-,rfl⟩
  have hl:(cbs (Sha.sum bss.flatten)).length=32:=by rw [aI,Sha.sum_len]
  refine W.k ?_
  refine F.cH [(tp,cl mV 205)] (cbs (Sha.sum bss.flatten)) ?_
  exact⟨rfl,rfl⟩
 ·exact hw.ro (Hc:=[(p,cl (hc tp (mP []).1 (.slice none 0 0) ((0:Nat):Int)) 326),(tp,cl mV 205)]) hs
theorem bs1(a:Option Addr)(l c:Nat):List.take (0*1) (zs [.slice none 0 0] 1)++vl (.slice a l c)++List.drop (0*1+1) (zs [.slice none 0 0] 1)=[.slice a l c]:=rfl
end
def leN(n:Nat)(v:UInt64):List UInt8:=(List.range n).map (byU v)
theorem eC(n:Nat)(v:UInt64):(leN n v).length=n:=by simp [leN]
theorem aJV{a b:Nat}(ha:a<4294967296)(hb:b<4294967296)(h:leN 4 (UInt64.ofNat a)=leN 4 (UInt64.ofNat b)):a=b:=by
 have hA:(UInt64.ofNat a).toNat=a:=by rw [aW];omega
 have hB:(UInt64.ofNat b).toNat=b:=by rw [aW];omega
 have e:∀ k,k<4→byU (UInt64.ofNat a) k=byU (UInt64.ofNat b) k:=by
  intro k hk
  have:=congrArg (fun l=>l[k]?) h
  simpa [leN,hk] using this
 have f:∀ k,k<4→a/256^k%256=b/256^k%256:=by
  intro k hk
  have:=congrArg UInt8.toNat (e k hk)
  rw [aAR _ oQ,aAR _ oQ,cY,cY,hA,hB] at this
  exact this
 have f0:=f 0 oQ
 have f1:=f 1 oQ
 have f2:=f 2 oQ
 have f3:=f 3 oQ
 simp only [uM,fE,Nat.one_mul,Nat.div_one] at f0 f1 f2 f3
 omega
def dep(n:Nat):Nat:=if n≤1 then 0 else (n-1).log2+1
theorem yT(n:Nat):n≤2^dep n:=by
 unfold dep
 by_cases h:n≤1
 ·rw [if_pos h];simpa using h
 ·rw [if_neg h]
  have:=Nat.lt_log2_self (n:=n-1)
  omega
theorem aJy{n e:Nat}(h:e<dep n):2^e<n:=by
 unfold dep at h
 by_cases h1:n≤1
 ·rw [if_pos h1] at h;omega
 ·rw [if_neg h1] at h
  have h2:=Nat.log2_self_le (n:=n-1) oQ
  have h3:2^e≤2^(n-1).log2:=dE oQ oQ
  omega
theorem aFi{n d:Nat}(h1:n≤2^d)(h2:∀ e,e<d→2^e<n):d=dep n:=by
 rcases sM d (dep n) with h|h|h
 ·have:=aJy h;omega
 ·exact h
 ·have:=h2 _ h;have:=yT n;omega
theorem uR{n k:Nat}(h:n≤2^k):dep n≤k:=by
 rcases mY k (dep n) with h1|h1
 ·have:=aJy h1;omega
 ·exact h1
section
variable {α:Type}{n:Nat}
theorem dI{L:List (List α)}(h:∀ x∈L,x.length=n):L.flatten.length=L.length*n:=by
 induction L with
 | nil=>simp
 | cons a t ih=>
  rw [dK,aB,ih fun x hx=>h x (cX _ hx),h a (iD ..),aX,gF,Nat.add_comm]
theorem aCi{L:List (List α)}(h:∀ x∈L,x.length=n)(i:Nat):L.flatten.take (i*n)=(L.take i).flatten:=by
 induction L generalizing i with
 | nil=>simp
 | cons a t ih=>
  cases i with
  | zero=>simp
  | succ i=>
   have ha:=h a (iD ..)
   rw [dK,qY,dK,iG,ha,aK (by rw [ha,gF];omega),show (i+1)*n-n=i*n by rw [gF];omega,ih fun x hx=>h x (cX _ hx)]
theorem yW{L:List (List α)}(h:∀ x∈L,x.length=n)(i:Nat):L.flatten.drop (i*n)=(L.drop i).flatten:=by
 induction L generalizing i with
 | nil=>simp
 | cons a t ih=>
  cases i with
  | zero=>simp
  | succ i=>
   have ha:=h a (iD ..)
   rw [dK,List.drop_succ_cons,gD,ha,gO (by rw [ha,gF];omega),List.nil_append,show (i+1)*n-n=i*n by rw [gF];omega,ih fun x hx=>h x (cX _ hx)]
theorem tO{L:List (List α)}{x:List α}(h:∀ x∈L,x.length=n){i:Nat}(hi:L[i]?=some x):(L.flatten.drop (i*n)).take n=x:=by
 have hx:=h x (aT hi)
 obtain⟨hl,hv⟩:=aE.1 hi
 rw [yW h,bL hl,dK,hv,iG,hx,dW,cT,aH,aK oQ]
theorem aIm{L:List (List α)}{x:List α}(h:∀ x∈L,x.length=n){i:Nat}(hi:i<L.length):L.flatten.take (i*n)++x++L.flatten.drop (i*n+n)=(L.set i x).flatten:=by
 rw [aCi h,show i*n+n=(i+1)*n by rw [gF],yW h,gC,if_pos hi]
 simp
end
theorem aBC{L:List (List UInt8)}{x:List UInt8}{n:Nat}(h:∀ x∈L,x.length=n){i:Nat}(hi:L[i]?=some x):((cbs L.flatten).drop (i*n)).take n=cbs x:=by
 rw [← tO h hi];simp [cbs,iJ,iB]
theorem aHd{L:List (List UInt8)}{x:List UInt8}{n:Nat}(h:∀ x∈L,x.length=n){i:Nat}(hi:i<L.length):(cbs L.flatten).take (i*n)++cbs x++(cbs L.flatten).drop (i*n+n)=cbs (L.set i x).flatten:=by
 rw [← aIm h hi];simp [cbs,iJ,iB]
theorem aMg{α:Type}{n:Nat}{L:List (List α)}{x:List α}{i:Nat}(h:∀ x∈L,x.length=n)(hx:x.length=n):∀ y∈L.set i x,y.length=n:=by
 intro y hy
 rcases eY hy with h1|rfl
 ·exact h y h1
 ·exact hx
abbrev z32:List UInt8:=List.replicate 32 0
def wM(level i:Nat)(x y:List UInt8):List UInt8:=1::[[UInt8.ofNat level],leN 4 (UInt64.ofNat i),x,y].flatten
def nF(n:Nat)(x:List UInt8):List UInt8:=2::[leN 4 (UInt64.ofNat n),x].flatten
def fJ(k:Nat)(b:List UInt8):List UInt8:=0::[leN 4 (UInt64.ofNat k),b].flatten
def oV(level i:Nat)(x y:List UInt8):List UInt8:=Sha.sum (wM level i x y)
theorem xM(level i:Nat)(x y:List UInt8):(oV level i x y).length=32:=Sha.sum_len _
def atV(l:List (List UInt8)):Nat→Nat→List UInt8
 | 0,i=>l.getD i z32
 | d+1,i=>oV (d+1) i (atV l d (2*i)) (atV l d (2*i+1))
def D32(l:List (List UInt8)):Prop:=∀ x∈l,x.length=32
theorem lO{l:List (List UInt8)}(hl:D32 l)(d i:Nat):(atV l d i).length=32:=by
 cases d with
 | zero=>
  unfold atV
  rw [aC]
  cases h:l[i]? with
  | none=>rfl
  | some x=>exact hl x (aT h)
 | succ d=>exact xM ..
def qW(l:List (List UInt8))(D d:Nat):List (List UInt8):=(List.range (2^(D-d))).map (atV l d)
theorem wS(l:List (List UInt8))(D d:Nat):(qW l D d).length=2^(D-d):=by simp [qW]
theorem aEv{l:List (List UInt8)}(hl:D32 l)(D d:Nat):D32 (qW l D d):=by
 intro x hx
 obtain⟨i,-,rfl⟩:=bH.1 hx
 exact lO hl d i
theorem wR(l:List (List UInt8)){D d i:Nat}(h:i<2^(D-d)):(qW l D d)[i]?=some (atV l d i):=by simp [qW,h]
def aEC(l:List (List UInt8)):List UInt8:=atV l (dep l.length) 0
def fU(l:List (List UInt8)):List UInt8:=Sha.sum (nF l.length (aEC l))
def vE(l:List (List UInt8))(D:Nat):List (List UInt8):=(List.range D).flatMap fun d=>(List.range (2^(D-(d+1)))).map fun i=>wM (d+1) i (atV l d (2*i)) (atV l d (2*i+1))
theorem aDL(l:List (List UInt8)){D d i:Nat}(hd:d<D)(hi:i<2^(D-(d+1))):wM (d+1) i (atV l d (2*i)) (atV l d (2*i+1))∈vE l D:=by
 unfold vE
 exact List.mem_flatMap.2 ⟨d,eP.2 hd,bH.2 ⟨i,eP.2 hi,rfl⟩⟩
theorem aIy{a i a' i':Nat}{x y x' y':List UInt8}(hx:x.length=32)(hx':x'.length=32)(h:wM a i x y=wM a' i' x' y'):x=x'∧y=y':=by
 unfold wM at h
 have h1:=(yC h).2
 simp only [dK,List.flatten_nil,aH,mD] at h1
 obtain⟨-,h2⟩:=vK (yC h1).2 (by rw [eC,eC])
 exact vK h2 oQ
theorem aIO{n m:Nat}{x y:List UInt8}(hn:n<4294967296)(hm:m<4294967296)(h:nF n x=nF m y):n=m∧x=y:=by
 unfold nF at h
 have h1:=(yC h).2
 simp only [dK,List.flatten_nil,aH] at h1
 obtain⟨h2,h3⟩:=vK h1 (by rw [eC,eC])
 exact⟨aJV hn hm h2,h3⟩
theorem apart{l m:List (List UInt8)}(hl:D32 l)(hm:D32 m)(hln:l.length<4294967296)(hmn:m.length<4294967296){ts:List (List UInt8)}
  (h1:∀ t∈vE l (dep l.length),t∈ts) (h2:∀ t∈vE m (dep m.length),t∈ts) (h3:nF l.length (aEC l)∈ts) (h4:nF m.length (aEC m)∈ts)
  (hno:∀ t∈ts,∀ u∈ts,Sha.sum t=Sha.sum u→t=u) (h:fU l=fU m):l=m:=by
 obtain⟨e,hT⟩:=aIO hln hmn (hno _ h3 _ h4 h)
 unfold aEC at hT
 rw [← e] at hT h2
 have key:∀ k d,k+d=dep l.length→∀ i,i<2^(dep l.length-d)→atV l d i=atV m d i:=by
  intro k
  induction k with
  | zero=>
   intro d hd i hi
   have:d=dep l.length:=oQ
   subst this
   rw [dW,uM] at hi
   have:i=0:=oQ
   subst this
   exact hT
  | succ k ih=>
   intro d hd i hi
   have h5:=ih (d+1) oQ (i/2) (by
    have:2^(dep l.length-d)=2*2^(dep l.length-(d+1)):=by rw [show dep l.length-d=dep l.length-(d+1)+1 by omega,fE,lM]
    omega)
   have hi2:i/2<2^(dep l.length-(d+1)):=by
    have:2^(dep l.length-d)=2*2^(dep l.length-(d+1)):=by rw [show dep l.length-d=dep l.length-(d+1)+1 by omega,fE,lM]
    omega
   have h6:=hno _ (h1 _ (aDL l oQ hi2)) _ (h2 _ (aDL m oQ hi2)) h5
   obtain⟨h7,h8⟩:=aIy (lO hl _ _) (lO hm _ _) h6
   rcases Nat.mod_two_eq_zero_or_one i with h9|h9
   ·rwa [show 2*(i/2)=i by omega] at h7
   ·rwa [show 2*(i/2)+1=i by omega] at h8
 apply cB
 intro i
 rcases mY i l.length with hi|hi
 ·have h5:=key (dep l.length) 0 oQ i (by have:=yT l.length;rw [iZ];omega)
  unfold atV at h5
  rw [aC,aC,aA hi,aA (show i<m.length by omega)] at h5
  rw [aA hi,aA (show i<m.length by omega)]
  exact congrArg some h5
 ·rw [bB hi,bB oQ]
section
attribute [local irreducible] SW SL SQ SH SA SS Pu Fin bT aQ
theorem aPu{d X:Nat}(h:d<63)(hX:X=2^d):aGj .i64 1 (d:Int) (X:Int):=⟨by
 have h2:2^d<2^63:=Nat.pow_lt_pow_right oQ h
 rw [← hX] at h2
 refine⟨by omega,?_⟩
 rw [aP,cR (by show d≤64;omega),Int.one_mul,show ((2:Int)^d)=(X:Int) by rw [hX];simp]
 exact w64 oQ⟩
theorem aLz(n:Nat)(hn:n≤1099511627776):Tri prog 276 [.int .i64 (n:Int)] [] (fun _=>True) (fun v H=>v=.int .i64 ((dep n:Nat):Int)∧H=[]):=by
 refine Tri.mk func276 rfl ntmps276 rfl fun w hw=>?_
 have hd40:dep n≤40:=uR (by simpa using hn)
 refine W.j ?_
 refine SW.cut [] [] (fun _:Unit=>[(3,.int .i64 ((dep n:Nat):Int))]) (fun _=>[]) (fun _=>True) ?_ ?_
 ·refine W.k ?_
  refine cK [0] [] (fun d:Nat=>[(3,.int .i64 (d:Int))]) (fun _=>[]) (fun d=>dep n-d) (fun d=>d≤dep n∧∀ e,e<d→2^e<n) 0 ⟨by omega,fun e h=>by omega⟩ ?_
  rintro d ⟨hd,he⟩
  obtain⟨X,hX⟩:∃ X,X=2^d:=⟨_,rfl⟩
  haveI:=aPu (d:=d) oQ hX
  by_cases h:X<n
  ·have hlt:d<dep n:=by
    rcases mY d (dep n) with h1|h1
    ·exact h1
    ·have:=dE (n:=2) oQ h1
     have:=yT n
     omega
   refine W.k ?_
   refine aQ.mk (d+1) ?_
   refine⟨by omega,fun e h1=>?_⟩
   by_cases e1:e=d
   ·subst e1;omega
   ·exact he e oQ
  ·have hd2:d=dep n:=aFi oQ he
   refine W.k ?_
   subst hd2
   refine bT.mk () ?_
   trivial
 rintro _ -
 refine W.k ?_
 exact F.n
theorem aKv(n:Nat)(hn:n≤1099511627776):Tri prog 137 [.int .i64 (n:Int)] [] (fun _=>True) (fun v H=>v=.int .i64 ((dep n:Nat):Int)∧H=[]):=by
 refine Tri.mk func137 rfl ntmps137 rfl fun w hw=>?_
 have hd40:dep n≤40:=uR (by simpa using hn)
 refine W.j ?_
 refine SW.cut [] [] (fun _:Unit=>[(3,.int .i64 ((dep n:Nat):Int))]) (fun _=>[]) (fun _=>True) ?_ ?_
 ·refine W.k ?_
  refine cK [0] [] (fun d:Nat=>[(3,.int .i64 (d:Int)),(4,.int .i64 ((2^d:Nat):Int))]) (fun _=>[]) (fun d=>dep n-d) (fun d=>d≤dep n∧∀ e,e<d→2^e<n) 0 ⟨by omega,fun e h=>by omega⟩ ?_
  rintro d ⟨hd,he⟩
  have hs:2^(d+1)=2*2^d:=by rw [fE,lM]
  have hs2:((2^(d+1):Nat):Int)=2*((2^d:Nat):Int):=by rw [hs];rfl
  obtain⟨X,hX⟩:∃ X,X=2^d:=⟨_,rfl⟩
  have hXs:X≤1099511627776:=by
   have:=dE (n:=2) oQ (show d≤40 by omega)
   omega
  rw [← hX] at hs2 ⊢
  by_cases h:X<n
  ·have hlt:d<dep n:=by
    rcases mY d (dep n) with h1|h1
    ·exact h1
    ·have:=dE (n:=2) oQ h1
     have:=yT n
     omega
   refine W.k ?_
   rw [← hs2]
   refine aQ.mk (d+1) ?_
   refine⟨by omega,fun e h1=>?_⟩
   by_cases e1:e=d
   ·subst e1;omega
   ·exact he e oQ
  ·have hd2:d=dep n:=aFi oQ he
   refine W.k ?_
   subst hd2
   refine bT.mk () ?_
   trivial
 rintro _ -
 refine W.k ?_
 exact F.n
namespace Gm
def up(n k:Nat):Nat:=(n+k-1)/k
def sealed(p:Nat):Nat:=1+up p 16+p
def epochs(p:Nat):Nat:=up (sealed p) 32
def leaves(p:Nat):Nat:=1+epochs p+sealed p
def total(p t:Nat):Nat:=leaves p+(1+t)
def Ok(p t:Nat):Prop:=1≤p∧p≤64∧4≤t∧t≤24
theorem up_le(n k:Nat)(hk:0<k):up n k≤n:=by
 unfold up
 rcases fW n with rfl|hn
 ·rw [fX,tJ oQ];exact Nat.le_refl _
 ·refine Nat.div_le_of_le_mul ?_
  have:=jF hn hk
  have h2:k*n=(k-1)*n+n:=by rw [← gF];congr 1;omega
  have h3:(k-1)*1≤(k-1)*n:=jF (Nat.le_refl _) hn
  omega
theorem sealed_le{p t:Nat}(h:Ok p t):sealed p≤129:=by have:=up_le p 16 dQ;obtain⟨_,h2,_⟩:=h;unfold sealed;omega
theorem epochs_le{p t:Nat}(h:Ok p t):epochs p≤129:=fN (up_le _ 32 dQ) (sealed_le h)
theorem leaves_le{p t:Nat}(h:Ok p t):leaves p≤259:=by have:=sealed_le h;have:=epochs_le h;unfold leaves;omega
theorem total_le{p t:Nat}(h:Ok p t):total p t≤284:=by have:=leaves_le h;obtain⟨_,_,_,h2⟩:=h;unfold total;omega
end Gm
abbrev kF(p t:Nat):Value:=.agg #[.int .i64 (p:Int),.int .i64 (t:Int)]
abbrev yX(p t:Nat):List Value:=[.int .i64 (p:Int),.int .i64 (t:Int)]
theorem qG{p t:Nat}(h:Gm.Ok p t):Tri prog 48 [kF p t] [] (fun _=>True) (fun v H=>v=.int .i64 0∧H=[]):=by
 obtain⟨h1,h2,h3,h4⟩:=h
 refine Tri.mk func48 rfl ntmps48 rfl fun w hw=>?_
 refine W.k fun b_=>?_
 exact F.n
theorem tP{k:Nat}(h:k<65536):Tri prog 34 [.int .i64 (k:Int)] [] (fun _=>True) (fun v H=>v=.int .i64 ((256*k:Nat):Int)∧H=[]):=by
 refine Tri.mk func34 rfl ntmps34 rfl fun w hw=>?_
 rw [show ((256*k:Nat):Int)=256*(k:Int) by omega]
 refine W.k ?_
 exact F.n
theorem aMF(n k:Nat)(hk:0<k)(hn:n≤1000000)(hk2:k≤1000000):Tri prog 142 [.int .i64 (n:Int),.int .i64 (k:Int)] [] (fun _=>True) (fun v H=>v=.int .i64 (Gm.up n k:Nat)∧H=[]):=by
 refine Tri.mk func142 rfl ntmps142 rfl fun w hw=>?_
 have e:((Gm.up n k:Nat):Int)=((n:Int)+(k:Int)-1)/(k:Int):=by
  unfold Gm.up
  rw [show (n:Int)+(k:Int)-1=((n+k-1:Nat):Int) by omega]
  simp
 rw [e]
 refine W.k ?_
 exact F.n
theorem aDq(p t:Nat):Tri prog 218 [kF p t] [] (fun _=>True) (fun v H=>v=.int .i64 ((1:Nat):Int)∧H=[]):=by
 refine Tri.mk func218 rfl ntmps218 rfl fun w hw=>?_
 refine W.k fun b_=>?_
 exact F.n
theorem aHn{p t:Nat}(h:Gm.Ok p t):Tri prog 108 [kF p t] [] (fun _=>True) (fun v H=>v=.int .i64 ((1+t:Nat):Int)∧H=[]):=by
 obtain⟨h1,h2,h3,h4⟩:=h
 refine Tri.mk func108 rfl ntmps108 rfl fun w hw=>?_
 rw [show ((1+t:Nat):Int)=1+(t:Int) by omega]
 refine W.k fun b_=>?_
 exact F.n
theorem tQ{p t:Nat}(h:Gm.Ok p t):Tri prog 83 [kF p t] [] (fun _=>True) (fun v H=>v=.int .i64 (Gm.sealed p:Nat)∧H=[]):=by
 have hu:=Gm.up_le p 16 dQ
 obtain⟨h1,h2,h3,h4⟩:=h
 refine Tri.mk func83 rfl ntmps83 rfl fun w hw=>?_
 have hc:=aMF p 16 dQ oQ dQ
 rw [show ((Gm.sealed p:Nat):Int)=1+((Gm.up p 16:Nat):Int)+(p:Int) by unfold Gm.sealed;omega]
 generalize Gm.up p 16=u at *
 refine W.k fun b_=>?_
 (refine SW.l [] [0,1,4,5] ?_;refine bA 2 ?_)
 refine W.cq hc ?_
 (refine SL.l [3,6,7,8] ?_)
 refine W.k ?_
 exact F.n
theorem xF{p t:Nat}(h:Gm.Ok p t):Tri prog 164 [kF p t] [] (fun _=>True) (fun v H=>v=.int .i64 (Gm.epochs p:Nat)∧H=[]):=by
 refine Tri.mk func164 rfl ntmps164 rfl fun w hw=>?_
 have hs:=Gm.sealed_le h
 have hc:=tQ h
 have hc2:=aMF (Gm.sealed p) 32 dQ oQ dQ
 unfold Gm.epochs
 refine W.k fun b_=>?_
 refine W.cw hc ?_
 refine W.cw hc2 ?_
 exact F.n
theorem aFr:Tri prog 161 [] [] (fun _=>True) (fun v H=>v=.agg #[.func (.func 218) #[] #[],.func (.func 164) #[] #[],.func (.func 83) #[] #[],.func (.func 108) #[] #[]]∧H=[]):=by
 refine Tri.mk func161 rfl ntmps161 rfl fun w hw=>?_
 have hb:bX (fun i=>some (i*1,1)) [.nilFunc,.nilFunc,.nilFunc,.nilFunc] [(0,.func (.func 218) #[] #[]),(1,.func (.func 164) #[] #[]),(2,.func (.func 83) #[] #[]),(3,.func (.func 108) #[] #[])]=some [.func (.func 218) #[] #[],.func (.func 164) #[] #[],.func (.func 83) #[] #[],.func (.func 108) #[] #[]]:=rfl
 refine W.k fun b_=>?_
 exact F.cH [] [.func (.func 218) #[] #[],.func (.func 164) #[] #[],.func (.func 83) #[] #[],.func (.func 108) #[] #[]] ⟨rfl,rfl⟩
def Gm.sumK(p t:Nat):Nat→Nat
 | 0=>0
 | 1=>1
 | 2=>1+Gm.epochs p
 | _=>1+Gm.epochs p+Gm.sealed p
theorem aFq{p t:Nat}(h:Gm.Ok p t):Tri prog 107 [kF p t,.int .i64 4] [] (fun _=>True) (fun v H=>v=.int .i64 (Gm.leaves p:Nat)∧H=[]):=by
 refine Tri.mk func107 rfl ntmps107 rfl fun w hw=>?_
 have c0:=aDq p t
 have c1:=xF h
 have c2:=tQ h
 have hs:=Gm.sealed_le h
 have he:=Gm.epochs_le h
 have s0:Gm.sumK p t 0=0:=rfl
 have s1:Gm.sumK p t 1=1:=rfl
 have s2:Gm.sumK p t 2=1+Gm.epochs p:=rfl
 have s3:Gm.sumK p t 3=1+Gm.epochs p+Gm.sealed p:=rfl
 refine W.j fun b_=>?_
 refine W.cq aFr ?_
 refine W.j ?_
 refine SW.cut [] [] (fun _:Unit=>[(5,.int .i64 (Gm.leaves p:Nat))]) (fun _=>[]) (fun _=>True) ?_ ?_
 ·refine W.k ?_
  refine bF [1,2,8] (fun k:Nat=>[(5,.int .i64 (Gm.sumK p t k:Nat)),(9,.int .i64 (k:Int))]) (fun k=>[(b_,cl (yX p t) 173)]) (fun k=>4-k) (fun k=>k≤4) 0 (Nat.zero_le _) ?_
  intro k hk
  by_cases h4:k<4
  ·rcases (by omega:k=0∨k=1∨k=2∨k=3) with rfl|rfl|rfl|rfl
   ·refine W.k ?_
    refine dV [] rfl rfl rfl rfl rfl rfl c0 (fun _ _=>trivial) ?_
    rintro _ _ ⟨rfl,rfl⟩
    refine W.k ?_
    rw [show ((Gm.sumK p t 0:Nat):Int)+(1:Nat)=((Gm.sumK p t 1:Nat):Int) by omega]
    refine aQ.mk 1 ?_
    decide
   ·refine W.k ?_
    refine dV [] rfl rfl rfl rfl rfl rfl c1 (fun _ _=>trivial) ?_
    rintro _ _ ⟨rfl,rfl⟩
    refine W.k ?_
    rw [show ((Gm.sumK p t 1:Nat):Int)+(Gm.epochs p:Nat)=((Gm.sumK p t 2:Nat):Int) by omega]
    refine aQ.mk 2 ?_
    decide
   ·refine W.k ?_
    refine dV [] rfl rfl rfl rfl rfl rfl c2 (fun _ _=>trivial) ?_
    rintro _ _ ⟨rfl,rfl⟩
    refine W.k ?_
    rw [show ((Gm.sumK p t 2:Nat):Int)+(Gm.sealed p:Nat)=((Gm.sumK p t 3:Nat):Int) by omega]
    refine aQ.mk 3 ?_
    decide
   ·refine W.k ?_
    rw [show Gm.sumK p t 3=Gm.sumK p t 4 from rfl]
    refine aQ.mk 4 ?_
    decide
  ·have:k=4:=oQ
   subst this
   rw [show Gm.sumK p t 4=Gm.leaves p from rfl]
   refine W.k ?_
   refine bT.mk () ?_
   trivial
 rintro _ -
 refine W.k ?_
 exact F.n
theorem aGx{p t:Nat}(h:Gm.Ok p t):Tri prog 109 [kF p t] [] (fun _=>True) (fun v H=>v=.int .i64 (Gm.leaves p:Nat)∧H=[]):=by
 refine Tri.mk func109 rfl ntmps109 rfl fun w hw=>?_
 have hc:=aFq h
 refine W.k fun b_=>?_
 refine W.cw hc ?_
 exact F.n
theorem aIr{p t:Nat}(h:Gm.Ok p t):Tri prog 106 [kF p t] [] (fun _=>True) (fun v H=>v=.int .i64 (Gm.total p t:Nat)∧H=[]):=by
 refine Tri.mk func106 rfl ntmps106 rfl fun w hw=>?_
 have hc:=aFq h
 have hc2:=aHn h
 have hl:=Gm.leaves_le h
 have hl2:=Gm.total_le h
 rw [show ((Gm.total p t:Nat):Int)=((Gm.leaves p:Nat):Int)+((1+t:Nat):Int) by unfold Gm.total;omega]
 have hl3:(1+t)≤25:=by obtain⟨_,_,_,h4⟩:=h;omega
 refine W.k fun b_=>?_
 (refine SW.l [3] [0,2] ?_;refine bA 1 ?_)
 refine W.cq hc ?_
 (refine bC [] ?_;refine bO 3 ?_)
 refine W.cq hc2 ?_
 (refine SL.l [4,5,6] ?_)
 refine W.k ?_
 exact F.n
theorem wH{p t:Nat}(h:Gm.Ok p t){f:FuncId} [bD prog f]{r:Value} [One r](hc:Tri prog f [kF p t] [] (fun _=>True) (fun v H=>v=r∧H=[])):Tri prog 105 [kF p t,.func (.func f) #[] #[]] [] (fun _=>True) (fun v H=>v=r∧H=[]):=by
 refine Tri.mk func105 rfl ntmps105 rfl fun w hw=>?_
 have hk:=qG h
 refine W.k fun b_=>?_
 refine W.cw hk ?_
 refine dV [] rfl rfl rfl rfl rfl rfl hc (fun _ _=>trivial) ?_
 rintro _ _ ⟨rfl,rfl⟩
 refine W.k ?_
 exact F.n
theorem aFs{p t:Nat}(h:Gm.Ok p t):Tri prog 50 [kF p t] [] (fun _=>True) (fun v H=>v=.int .i64 (Gm.total p t:Nat)∧H=[]):=by
 refine Tri.mk func50 rfl ntmps50 rfl fun w hw=>?_
 have hc:=wH h (aIr h)
 refine W.k fun b_=>?_
 refine W.cw hc ?_
 exact F.n
theorem aDp{p t:Nat}(h:Gm.Ok p t):Tri prog 53 [kF p t] [] (fun _=>True) (fun v H=>v=.int .i64 (Gm.leaves p:Nat)∧H=[]):=by
 refine Tri.mk func53 rfl ntmps53 rfl fun w hw=>?_
 have hc:=wH h (aGx h)
 refine W.k fun b_=>?_
 refine W.cw hc ?_
 exact F.n
namespace Aes
def S(x:UInt8):UInt8:=Gf.subL.getD x.toNat 0
def subW(w:List UInt8):List UInt8:=w.map S
def subN(w:List UInt8)(k:Nat):List UInt8:=subW (w.take k)++w.drop k
def xor4(a b:List UInt8):List UInt8:=List.zipWith (· ^^^ ·) a b
def xorN(a b:List UInt8)(k:Nat):List UInt8:=xor4 (a.take k) (b.take k)++a.drop k
theorem step_set{α:Type}(f:List α→List α)(w:List α)(v:α){k:Nat}{x:α}(hx:w[k]?=some x)(hl:(f (w.take k)).length=k)(hs:f (w.take (k+1))=f (w.take k)++[v]):(f (w.take k)++w.drop k).set k v=f (w.take (k+1))++w.drop (k+1):=by
 rw [bY _ _ oQ,hl,dW,hs]
 have:w.drop k=x::w.drop (k+1):=by
  obtain⟨hk,e⟩:=aE.1 hx
  rw [bL hk,e]
 rw [this]
 simp
theorem subN_set{w:List UInt8}{k:Nat}{x:UInt8}(hx:w[k]?=some x):(subN w k).set k (S x)=subN w (k+1):=by
 have hk:=(aE.1 hx).1
 refine step_set subW w (S x) hx (by unfold subW;simp;omega) ?_
 unfold subW
 rw [aZ,hx]
 simp
theorem subN_at{w:List UInt8}{k:Nat}{x:UInt8}(hx:w[k]?=some x):(subN w k)[k]?=some x:=by
 have hk:=(aE.1 hx).1
 have hl:(subW (w.take k)).length=k:=by unfold subW;simp;omega
 unfold subN
 rw [aY oQ,hl,dW,bI]
 simpa using hx
theorem subN_len(w:List UInt8)(k:Nat):(subN w k).length=w.length:=by unfold subN subW;simp;omega
theorem subW_len(w:List UInt8):(subW w).length=w.length:=by unfold subW;simp
theorem xor4_len{a b:List UInt8}(h:a.length=b.length):(xor4 a b).length=a.length:=by unfold xor4;simp;omega
theorem xorN_set{a b:List UInt8}{k:Nat}{x y:UInt8}(hl:a.length=b.length)(hx:a[k]?=some x)(hy:b[k]?=some y):(xorN a b k).set k (x ^^^ y)=xorN a b (k+1):=by
 have hk:=(aE.1 hx).1
 have h1:(xor4 (a.take k) (b.take k)).length=k:=by unfold xor4;simp;omega
 unfold xorN
 rw [bY _ _ oQ,h1,dW]
 have:a.drop k=x::a.drop (k+1):=by
  obtain⟨hk,e⟩:=aE.1 hx
  rw [bL hk,e]
 rw [this,aZ,aZ,hx,hy]
 unfold xor4
 rw [dJ,dJ,List.zipWith_append (by simp;omega)]
 simp
theorem xorN_at{a b:List UInt8}{k:Nat}{x:UInt8}(hl:a.length=b.length)(hx:a[k]?=some x):(xorN a b k)[k]?=some x:=by
 have hk:=(aE.1 hx).1
 have h1:(xor4 (a.take k) (b.take k)).length=k:=by unfold xor4;simp;omega
 unfold xorN
 rw [aY oQ,h1,dW,bI]
 simpa using hx
theorem xorN_len{a b:List UInt8}(hl:a.length=b.length)(k:Nat):(xorN a b k).length=a.length:=by unfold xorN xor4;simp;omega
end Aes
theorem aGn{xs:List UInt8}{i:Nat}{x:UInt8}(h:xs[i]?=some x):(cbs xs)[i]?=some (u8v x):=by unfold cbs;rw [aJ,h];rfl
theorem aJt(xs:List UInt8)(i:Nat)(v:UInt8):(cbs xs).set i (u8v v)=cbs (xs.set i v):=by unfold cbs;rw [gE]
theorem aJo{xs:List UInt8}{k n:Nat}(hl:xs.length=n)(h:k<n):∃ x,xs[k]?=some x:=⟨_,aA oQ⟩
abbrev gU:Obj:=cl (cbs Gf.subL++cbs (Gf.backN 256)) 198
theorem Gf.subL_len:Gf.subL.length=256:=by unfold Gf.subL;simp
abbrev qC(b:Nat)(ws r:Value):Obj:=cl [.pointer (some ⟨b,0,none⟩),ws,r] 189
theorem aNj{c b:Nat}{ws r:Value}(x:List UInt8)(hx4:x.length=4):Tri prog 150 [.pointer (some ⟨c,0,none⟩),.agg (cbs x).toArray] [(c,qC b ws r),(b,gU)] (fun _=>True)
  (fun v H=>v=.agg (cbs (Aes.subW x)).toArray∧H=[(c,qC b ws r),(b,gU)]):=by
 refine Tri.mk func150 rfl ntmps150 rfl fun w hw=>?_
 have hw0:Aes.subN x 0=x:=by unfold Aes.subN Aes.subW;simp
 have hw5:Aes.subN x 4=Aes.subW x:=by unfold Aes.subN;rw [aK oQ,gO oQ,aH]
 refine W.j fun _ b_=>?_
 rename_i b3
 refine bQ [0,3,4] [(b3,cl (cbs x) 193),(c,qC b ws r),(b,gU)] (fun _:Unit=>[]) (fun _=>[(b3,cl (cbs (Aes.subW x)) 193),(c,qC b ws r),(b,gU)]) (fun _=>True) ?_ ?_
 ·refine W.k ?_
  rw [show cl (cbs x) 193=cl (cbs (Aes.subN x 0)) 193 by rw [hw0]]
  refine bF [0,3,4] (fun n:Nat=>[(6,.int .i64 (n:Int))]) (fun n=>[(b3,cl (cbs (Aes.subN x n)) 193),(c,qC b ws r),(b,gU)]) (fun n=>4-n) (fun n=>n≤4) 0 (Nat.zero_le _) ?_
  intro n hn
  by_cases h:n<4
  ·obtain⟨y,hy⟩:=aJo hx4 h
   have hv:=aGn (Aes.subN_at hy)
   have hs:=aJt (Aes.subN x n) n (Aes.S y)
   rw [Aes.subN_set hy] at hs
   have hlt:n<(cbs (Aes.subN x n)).length:=by unfold cbs;rw [aD,Aes.subN_len];omega
   refine W.k ?_
   (refine SW.l [8,10] [0,1,2,3,4,5,6,7] ?_;refine bO 8 ?_)
   refine W.cq (aJQ (m:=Gf.backN 256) Gf.subL_len y) ?_
   (refine SL.l [9] ?_;refine bO 10 ?_;refine W.i ?_;refine SS.dn ?_)
   rw [show u8v (Gf.subL.getD y.toNat 0)=u8v (Aes.S y) from rfl,hs]
   refine W.k ?_
   refine aQ.mk (n+1) ?_
   omega
  ·have:n=4:=oQ
   subst this
   rw [hw5]
   refine W.k ?_
   refine bT.mk () ?_
   trivial
 rintro _ -
 have hL:(cbs (Aes.subW x)).length=4:=by unfold cbs;rw [aD,Aes.subW_len,hx4]
 refine W.k ?_
 exact F.cH [(c,qC b ws r),(b,gU)] _ ⟨rfl,rfl⟩
theorem aNk(x z:List UInt8)(hx4:x.length=4)(hz4:z.length=4):Tri prog 92 [.agg (cbs x).toArray,.agg (cbs z).toArray] [] (fun _=>True) (fun v H=>v=.agg (cbs (Aes.xor4 x z)).toArray∧H=[]):=by
 refine Tri.mk func92 rfl ntmps92 rfl fun w hw=>?_
 have hxz:x.length=z.length:=oQ
 have hw0:Aes.xorN x z 0=x:=by unfold Aes.xorN Aes.xor4;simp
 have hw5:Aes.xorN x z 4=Aes.xor4 x z:=by unfold Aes.xorN;rw [aK oQ,aK oQ,gO oQ,aH]
 have hL:(cbs (Aes.xor4 x z)).length=4:=by unfold cbs;rw [aD,Aes.xor4_len hxz,hx4]
 refine W.j fun _ _ b_=>?_
 rename_i b2 b3
 refine bQ [2,3,4] [(b2,cl (cbs x) 193),(b3,cl (cbs z) 193)] (fun _:Unit=>[]) (fun _=>[(b2,cl (cbs (Aes.xor4 x z)) 193),(b3,cl (cbs z) 193)]) (fun _=>True) ?_ ?_
 ·refine W.k ?_
  rw [show cl (cbs x) 193=cl (cbs (Aes.xorN x z 0)) 193 by rw [hw0]]
  refine bF [2,3,4] (fun n:Nat=>[(6,.int .i64 (n:Int))]) (fun n=>[(b2,cl (cbs (Aes.xorN x z n)) 193),(b3,cl (cbs z) 193)]) (fun n=>4-n) (fun n=>n≤4) 0 (Nat.zero_le _) ?_
  intro n hn
  by_cases h:n<4
  ·obtain⟨y,hy⟩:=aJo hx4 h
   obtain⟨u,hu⟩:=aJo hz4 h
   have hv:=aGn (Aes.xorN_at hxz hy)
   have hv2:=aGn hu
   have hs:=aJt (Aes.xorN x z n) n (y ^^^ u)
   rw [Aes.xorN_set hxz hy hu] at hs
   have hlt:n<(cbs (Aes.xorN x z n)).length:=by unfold cbs;rw [aD,Aes.xorN_len hxz];omega
   refine W.k ?_
   (refine SW.l [8] [0,1,2,3,4,5,6,7] ?_;refine bO 8 ?_;refine W.i ?_;refine SS.dn ?_)
   rw [hs]
   refine W.k ?_
   refine aQ.mk (n+1) ?_
   omega
  ·have:n=4:=oQ
   subst this
   rw [hw5]
   refine W.k ?_
   refine bT.mk () ?_
   trivial
 rintro _ -
 refine W.k ?_
 exact F.cH [] _ ⟨rfl,rfl⟩
end
end Go.Proofs.YtnhnpjokpelkbaaGreat
