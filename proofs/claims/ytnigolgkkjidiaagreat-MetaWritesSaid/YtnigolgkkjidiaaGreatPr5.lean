/- Turns, a block's schedule. A block is summed. Numbers as bytes. Sums that grow. Bytes are written into a sum. What a sum is; a table's words. A table's sums; the law's helpers. -/
import Derived.Test.YtnigolgkkjidiaaGreatPr3
import Derived.Test.YtnigolgkkjidiaaGreatPr4
set_option linter.unusedVariables false
set_option linter.unusedSimpArgs false
set_option linter.unusedSectionVars false
set_option maxHeartbeats 4000000
namespace Go.Proofs.YtnigolgkkjidiaaGreat
open Go Go.Proofs.Tryz
section
attribute [local irreducible] SW SL SQ SH SA SS Pu Fin bZ aT
theorem aCv:∀ k,k<32→0<k→(UInt64.ofNat (18446744073709551616-k) &&& 31).toNat=32-k∧(UInt32.ofNat (32-k)).toNat=32-k∧(32:UInt32)-UInt32.ofNat k=UInt32.ofNat (32-k):=by decide +kernel
theorem aOS(x:UInt32)(k:Nat)(hk:k<32)(h0:0<k):Tri prog 301 [fG x,.int .i64 (-(k:Int))] [] (fun _=>True) (fun v H=>v=fG (Sha.rotr x (UInt32.ofNat k))∧H=[]):=by
 refine Tri.mk func301 rfl ntmps301 rfl fun w hw=>?_
 obtain⟨f1,f2,f3⟩:=aCv k hk h0
 haveI i1:Cv .u64 (-(k:Int)) ((UInt64.ofNat (18446744073709551616-k)).toNat:Int):=⟨by
  rw [kS,bC]
  omega⟩
 haveI i2:U64 31 31:=⟨rfl⟩
 haveI i3:aBr ((UInt64.ofNat (18446744073709551616-k) &&& 31).toNat:Int) (UInt32.ofNat (32-k)):=⟨by rw [f1,f2],by rw [f2];omega⟩
 haveI i4:UAr .sub .u64 32 ((UInt64.ofNat (18446744073709551616-k) &&& 31).toNat:Int) (k:Int):=⟨fun P w t=>by
  have h:IntKind.u64.wrap (32-((32-k:Nat):Int))=k:=by rw [kS];omega
  rw [f1]
  simp [binOp,Op.intArith,h]⟩
 haveI i5:aBr (k:Int) (UInt32.ofNat k):=⟨by rw [nG];omega,by rw [nG];omega⟩
 refine W.k ?_
 refine F.f1 ?_
 refine⟨?_,rfl⟩
 unfold Sha.rotr fG
 rw [f3,UInt32.or_comm]
theorem r_p(x:UInt32)(k:Nat)(hk:k<32)(h0:0<k):Tri prog 294 [fG x,.int .i64 (k:Int)] [] (fun _=>True) (fun v H=>v=fG (Sha.rotr x (UInt32.ofNat k))∧H=[]):=by
 refine Tri.mk func294 rfl ntmps294 rfl fun w hw=>?_
 refine W.k ?_
 refine W.cw (aOS x k hk h0) ?_
 refine F.f1 ?_
 exact⟨rfl,rfl⟩
theorem aKd(x:UInt32):Tri prog 293 [fG x] [] (fun _=>True) (fun v H=>v=fG (Sha.s0 x)∧H=[]):=by
 refine Tri.mk func293 rfl ntmps293 rfl fun w hw=>?_
 refine W.k ?_
 refine W.cw (r_p x 7 dc dc) ?_
 refine W.cw (r_p x 18 dc dc) ?_
 refine F.f1 ?_
 exact⟨rfl,rfl⟩
theorem aKe(x:UInt32):Tri prog 292 [fG x] [] (fun _=>True) (fun v H=>v=fG (Sha.s1 x)∧H=[]):=by
 refine Tri.mk func292 rfl ntmps292 rfl fun w hw=>?_
 refine W.k ?_
 refine W.cw (r_p x 17 dc dc) ?_
 refine W.cw (r_p x 19 dc dc) ?_
 refine F.f1 ?_
 exact⟨rfl,rfl⟩
theorem aIZ(x:UInt32):Tri prog 270 [fG x] [] (fun _=>True) (fun v H=>v=fG (Sha.S0 x)∧H=[]):=by
 refine Tri.mk func270 rfl ntmps270 rfl fun w hw=>?_
 refine W.k ?_
 refine W.cw (r_p x 2 dc dc) ?_
 refine W.cw (r_p x 13 dc dc) ?_
 refine W.cw (r_p x 22 dc dc) ?_
 refine F.f1 ?_
 exact⟨rfl,rfl⟩
theorem aI0(x:UInt32):Tri prog 269 [fG x] [] (fun _=>True) (fun v H=>v=fG (Sha.S1 x)∧H=[]):=by
 refine Tri.mk func269 rfl ntmps269 rfl fun w hw=>?_
 refine W.k ?_
 refine W.cw (r_p x 6 dc dc) ?_
 refine W.cw (r_p x 11 dc dc) ?_
 refine W.cw (r_p x 25 dc dc) ?_
 refine F.f1 ?_
 exact⟨rfl,rfl⟩
theorem aKT(bs:List UInt8)(j:Nat)(c:UInt8)(h:bs[j]?=some c):Sha.be (bs.take (j+1))=(Sha.be (bs.take j) <<< 8) ||| c.toUInt32:=by
 unfold Sha.be
 rw [aO,h,eQ,kN];rfl
theorem aM6(v:Value)(bs:List UInt8)(h4:bs.length≤4):Tri prog 291 [v] [] (fun w=>Rd [] w 1 v (cbs bs)) (fun v' H=>v'=fG (Sha.be bs)∧H=[]):=by
 refine Tri.mk func291 rfl ntmps291 rfl fun w hw=>?_
 obtain⟨a,len,cap,rfl,hl,hc,hr⟩:=hw.get
 rw [aE,Nat.mul_one] at hl
 refine W.j ?_
 refine SW.cut [] [] (fun _:Unit=>[(3,fG (Sha.be bs))]) (fun _=>[]) (fun _=>True) ?_ ?_
 ·refine W.k ?_
  refine bV [6,7] [] (fun j:Nat=>[(3,fG (Sha.be (bs.take j))),(8,.int .i64 (j:Int))]) (fun _=>[]) (fun j=>len-j) (fun j=>j≤len) 0 om ?_
  intro j hj
  by_cases hjl:j<len
  ·obtain⟨blk,ob,l,T,fz,rfl,hb,hbk,hys⟩:=hr om
   obtain⟨c,hc⟩:∃ c,bs[j]?=some c:=⟨_,aA om⟩
   have hlc:l[ob+j]?=some (.int .u8 (c.toNat:Int)):=aCu hys (by rw [aH,hc];rfl)
   have e:=aKT bs j c hc
   refine W.k ?_
   rw [← e]
   refine aT.mk (j+1) ?_
   exact hjl
  ·have:j=len:=om
   subst this
   rw [aB om]
   refine W.k ?_
   refine bZ.mk () ?_
   trivial
 rintro _ -
 refine W.k ?_
 refine F.f1 ?_
 exact⟨rfl,rfl⟩
theorem aKb(bs:List UInt8){t:Nat}(h:t<16):Sha.sch bs (t+1)=Sha.sch bs t++[Sha.be ((bs.drop (4*t)).take 4)]:=by
 show Sha.sch bs t++[if t<16 then _ else _]=_
 rw [if_pos h]
theorem aKa(bs:List UInt8){t:Nat}(h:¬ t<16):Sha.sch bs (t+1)=Sha.sch bs t++[Sha.s1 ((Sha.sch bs t).getD (t-2) 0)+(Sha.sch bs t).getD (t-7) 0+Sha.s0 ((Sha.sch bs t).getD (t-15) 0)+(Sha.sch bs t).getD (t-16) 0]:=by
 show Sha.sch bs t++[if t<16 then _ else _]=_
 rw [if_neg h]
def mC(bs:List UInt8)(t:Nat):List Value:=(Sha.sch bs t).map fG++List.replicate (64-t) (fG 0)
theorem wM(bs:List UInt8){t:Nat}(h:t≤64):(mC bs t).length=64:=by simp [mC,Sha.sch_len];omega
instance(bs:List UInt8)(t:Nat):OC (mC bs t):=by unfold mC;infer_instance
theorem aAf(bs:List UInt8){t:Nat}(h:t<64){x:UInt32}(hx:Sha.sch bs (t+1)=Sha.sch bs t++[x]):(mC bs t).set t (fG x)=mC bs (t+1):=by
 unfold mC
 rw [hx,bX _ _ (by simp [Sha.sch_len]),aE,Sha.sch_len,dM,show 64-t=(64-(t+1))+1 by omega,fF,dE]
 simp
theorem pF(bs:List UInt8){t j:Nat}(h:j<t):(mC bs t)[j]?=some (fG ((Sha.sch bs t).getD j 0)):=by
 have hl:=Sha.sch_len bs t
 unfold mC
 rw [aN (by simp [hl];exact h),aH,List.getD,aA om];rfl
theorem aGm(a:Option Addr)(cap:Nat)(bs:List UInt8)(hb:bs.length=64):Tri prog 268 [.slice a 64 cap] [] (fun w=>Rd [] w 1 (.slice a 64 cap) (cbs bs)) (fun v' H=>v'=.agg (mC bs 64).toArray∧H=[]):=by
 refine Tri.mk func268 rfl ntmps268 rfl fun w hw=>?_
 have hw2:=hw
 obtain⟨a',len,cap',e,hl,hc,hr⟩:=hw.get
 cases e
 obtain⟨blk,ob,l,T,fz,rfl,hb2,hbk,hys⟩:=hr om
 refine W.j fun _ b_=>?_
 rename_i b2
 rw [show List.replicate 64 (Value.int .u32 0)=mC bs 0 from rfl]
 refine cN [2,3] [(b2,cl (mC bs 0) 397),(b_,cl (mC bs 0) 397)] (fun _=>[]) (fun _:Unit=>[(b2,cl (mC bs 0) 397),(b_,cl (mC bs 64) 397)]) (fun _=>True) ?_ ?_
 ·refine W.k ?_
  refine bV [0,2,3] [b_] (fun t:Nat=>[(5,.int .i64 (t:Int))]) (fun t=>[(b_,cl (mC bs t) 397)]) (fun t=>64-t) (fun t=>t≤64) 0 om ?_
  intro t ht
  by_cases ht64:t<64
  ·have hlen:t<(mC bs t).length:=by rw [wM bs ht];exact ht64
   by_cases h16:t<16
   ·refine W.k ?_
    have hsub:=hw2.sub (4*t) (4*t+4) (cap-4*t) om om om
    rw [show 4*t+4-4*t=4 by omega] at hsub ⊢
    refine W.cw (aM6 _ ((bs.drop (4*t)).take 4) (by simp;omega)) ?_ rfl (fun w2 hs=>hsub.ro (Hc:=[]) hs)
    rw [aAf bs ht64 (aKb bs h16)]
    refine aT.mk (t+1) ?_
    omega
   ·have g2:=pF bs (show t-2<t by omega)
    have g7:=pF bs (show t-7<t by omega)
    have g15:=pF bs (show t-15<t by omega)
    have g16:=pF bs (show t-16<t by omega)
    haveI n2:eG ((t:Int)-2) (t-2):=⟨by omega⟩
    haveI n7:eG ((t:Int)-7) (t-7):=⟨by omega⟩
    haveI n15:eG ((t:Int)-15) (t-15):=⟨by omega⟩
    haveI n16:eG ((t:Int)-16) (t-16):=⟨by omega⟩
    have hs:=aAf bs ht64 (aKa bs h16)
    generalize (Sha.sch bs t).getD (t-2) 0=x2 at g2 hs
    generalize (Sha.sch bs t).getD (t-7) 0=x7 at g7 hs
    generalize (Sha.sch bs t).getD (t-15) 0=x15 at g15 hs
    generalize (Sha.sch bs t).getD (t-16) 0=x16 at g16 hs
    refine W.k ?_
    (refine SW.l [23] [0,1,2,3,4,6,7,8,9,11,12,13,14,17,18,19,20] ?_;refine aX 5 ?_)
    refine W.cq (aKe _) ?_
    (refine SL.l [10] ?_;refine aX 15 ?_)
    refine W.cq (aKd _) ?_
    (refine SL.l [16,21,22] ?_;refine cB 23 ?_;refine W.i ?_;refine eI ?_)
    rw [hs]
    refine W.k ?_
    refine aT.mk (t+1) ?_
    omega
  ·have:t=64:=om
   subst this
   refine W.k ?_
   refine bZ.mk () ?_
   trivial
 rintro _ -
 have hl64:(mC bs 64).length=64:=wM bs om
 have hoc:OC (mC bs 64):=inferInstance
 generalize mC bs 64=Z at hl64 hoc ⊢
 refine W.k ?_
 refine F.c0 Z ?_
 exact⟨rfl,rfl⟩
def s8c(s:S8):List Value:=[fG s.a,fG s.b,fG s.c,fG s.d,fG s.e,fG s.f,fG s.g,fG s.h]
instance(s:S8):OC (s8c s):=by unfold s8c;infer_instance
def hc(tp:Nat)(s:S8)(rv:Value)(n:Int):List Value:=[.pointer (some ⟨tp,0,none⟩),fG s.a,fG s.b,fG s.c,fG s.d,fG s.e,fG s.f,fG s.g,fG s.h,rv,.int .i64 n]
instance(tp:Nat)(s:S8)(rv:Value)(n:Int) [One rv]:OC (hc tp s rv n):=by unfold hc;infer_instance
def S8.get(s:S8):Nat→UInt32
 | 0=>s.a
 | 1=>s.b
 | 2=>s.c
 | 3=>s.d
 | 4=>s.e
 | 5=>s.f
 | 6=>s.g
 | _=>s.h
def stk(s r:S8)(k:Nat):S8:=⟨if 0<k then s.a+r.a else s.a,if 1<k then s.b+r.b else s.b,if 2<k then s.c+r.c else s.c,if 3<k then s.d+r.d else s.d,if 4<k then s.e+r.e else s.e,if 5<k then s.f+r.f else s.f,if 6<k then s.g+r.g else s.g,if 7<k then s.h+r.h else s.h⟩
theorem lt8{k:Nat}(h:k<8):k=0∨k=1∨k=2∨k=3∨k=4∨k=5∨k=6∨k=7:=by omega
theorem aGl(s:S8){k:Nat}(h:k<8):(s8c s)[k]?=some (fG (s.get k)):=by
 rcases lt8 h with rfl|rfl|rfl|rfl|rfl|rfl|rfl|rfl <;> rfl
theorem aOx(tp:Nat)(s:S8)(rv:Value)(n:Int){k:Nat}(h:k<8):(hc tp s rv n)[1+k]?=some (fG (s.get k)):=by
 rcases lt8 h with rfl|rfl|rfl|rfl|rfl|rfl|rfl|rfl <;> rfl
theorem aM4(tp:Nat)(s r:S8)(rv:Value)(n:Int){k:Nat}(h:k<8):(hc tp (stk s r k) rv n).set (1+k) (fG ((stk s r k).get k+r.get k))=hc tp (stk s r (k+1)) rv n:=by
 rcases lt8 h with rfl|rfl|rfl|rfl|rfl|rfl|rfl|rfl <;> rfl
theorem aOW(s r:S8):stk s r 8=Sha.plus s r:=rfl
theorem aLR{t:Nat}(h:t<64):mU[t]?=some (fG (Sha.tabK.getD t 0)):=by
 unfold mU
 rw [aN (by rw [pR];exact h),aHh h]
theorem aKW{p tp:Nat}(s:S8)(rv:Value) [hrv:One rv](n:Int)(a:Option Addr)(cap:Nat)(bs:List UInt8)(hb:bs.length=64) :
  Tri prog 224 [.pointer (some ⟨p,0,none⟩),.slice a 64 cap] [(p,cl (hc tp s rv n) 365),(tp,cl mU 239)] (fun w=>Rd [p,tp] w 1 (.slice a 64 cap) (cbs bs))
   (fun v H=>v=.tuple #[]∧H=[(p,cl (hc tp (Sha.blk s bs) rv n) 365),(tp,cl mU 239)]):=by
 refine Tri.mk func224 rfl ntmps224 rfl fun w hw=>?_
 have hlen:(hc tp s rv n).length=11:=rfl
 have hs8:((hc tp s rv n).drop 1).take 8=s8c s:=rfl
 have htab:∀ t,t<64→mU[t]?=some (fG (Sha.tabK.getD t 0)):=fun t h=>aLR h
 generalize mU=TC at htab ⊢
 refine W.j ?_
 refine W.cq (aGm a cap bs hb) ?_ rfl (fun w2 hs=>hw.ro (Hc:=[]) hs)
 have hZ:∀ t,t<64→(mC bs 64)[t]?=some (fG ((Sha.sch bs 64).getD t 0)):=fun t h=>pF bs h
 have hZl:(mC bs 64).length=64:=wM bs om
 have hZo:OC (mC bs 64):=inferInstance
 generalize mC bs 64=Z at hZ hZl hZo ⊢
 refine W.j fun _ b_=>?_
 rename_i b4
 have hzz:Sha.rnds s bs 0=s:=rfl
 rw [show s8c s=s8c (Sha.rnds s bs 0) from rfl]
 refine SW.cut [0,5] [b_] (fun _:Unit=>[]) (fun _=>[(b_,cl (s8c (Sha.rnds s bs 64)) 363)]) (fun _=>True) ?_ ?_
 ·refine W.k ?_
  refine bV [0,4,5] [b_] (fun t:Nat=>[(18,.int .i64 (t:Int))]) (fun t=>[(b_,cl (s8c (Sha.rnds s bs t)) 363)]) (fun t=>64-t) (fun t=>t≤64) 0 om ?_
  intro t ht
  by_cases ht64:t<64
  ·have hT:=htab t ht64
   have hW:=hZ t ht64
   have hstep:Sha.rnds s bs (t+1)=Sha.rnd (Sha.rnds s bs t) (Sha.tabK.getD t 0) ((Sha.sch bs 64).getD t 0):=rfl
   generalize Sha.rnds s bs t=S at hstep ⊢
   generalize Sha.tabK.getD t 0=K at hT hstep
   generalize (Sha.sch bs 64).getD t 0=wt at hW hstep
   have htl:t<TC.length:=(aG.1 hT).1
   have hzl:t<Z.length:=om
   have hbd:bQ (fun i=>some (i*1,1)) (List.replicate 8 (.int .u32 0)) [(0,fG (Sha.t1 S K wt+Sha.t2 S)),(1,fG S.a),(2,fG S.b),(3,fG S.c),(4,fG (S.d+Sha.t1 S K wt)),(5,fG S.e),(6,fG S.f),(7,fG S.g)]=some (s8c (Sha.rnd S K wt)):=rfl
   refine W.k ?_
   refine aGx [0,4,5,6,7,8,18] ?_
   rw [show (S.e &&& S.f ^^^ ~~~S.e &&& S.g)=Sha.ch S.e S.f S.g from rfl,show (S.a &&& S.b ^^^ S.a &&& S.c ^^^ S.b &&& S.c)=Sha.maj S.a S.b S.c from rfl]
   (refine SW.l [] [0,1,2,3,6,8,9,10,11,12,13,14,15,16,18,19,20] ?_;refine aX 4 ?_)
   refine W.cq (aI0 _) ?_
   (refine SL.l [5,7,17,21,22,23] ?_)
   refine aGx [0,4,5,8,9,18] ?_
   rw [show S.h+Sha.S1 S.e+Sha.ch S.e S.f S.g+K+wt=Sha.t1 S K wt from rfl]
   refine W.k ?_
   refine W.cw (aIZ _) ?_
   rw [← hstep]
   refine aT.mk (t+1) ?_
   omega
  ·have:t=64:=om
   subst this
   refine W.k ?_
   refine bZ.mk () ?_
   trivial
 rintro _ -
 have hfin:Sha.blk s bs=Sha.plus s (Sha.rnds s bs 64):=rfl
 rw [hfin]
 clear hfin
 generalize Sha.rnds s bs 64=S
 have hzz2:stk s S 0=s:=rfl
 rw [show hc tp s rv n=hc tp (stk s S 0) rv n from rfl]
 refine W.k ?_
 refine bV [0,5] [p] (fun k:Nat=>[(98,.int .i64 (k:Int))]) (fun k=>[(p,cl (hc tp (stk s S k) rv n) 365)]) (fun k=>8-k) (fun k=>k≤8) 0 om ?_
 intro k hk
 by_cases hk8:k<8
 ·have h1:=aOx tp (stk s S k) rv n hk8
  have h2:=aGl S hk8
  have h3:=aM4 tp s S rv n hk8
  have hl1:1+k<(hc tp (stk s S k) rv n).length:=by show _<11;omega
  have hAo:OC (hc tp (stk s S k) rv n):=inferInstance
  generalize hc tp (stk s S k) rv n=A at h1 h3 hl1 hAo ⊢
  generalize (stk s S k).get k=x at h1 h3
  generalize S.get k=y at h2 h3
  refine W.k ?_
  (refine SW.l [13] [0,1,2,3,4,5,6,7,8,9,10,11,12] ?_;refine cB 13 ?_;refine W.i ?_;refine eI ?_)
  rw [h3]
  refine W.k ?_
  refine aT.mk (k+1) ?_
  omega
 ·have:k=8:=om
  subst this
  rw [aOW]
  refine W.k ?_
  refine Fin.to [(p,cl (hc tp (Sha.plus s S) rv n) 365),(tp,cl TC 239)] ?_
  refine F.f0 ?_
  exact⟨rfl,rfl⟩
def byU(v:UInt64)(k:Nat):UInt8:=(v >>> UInt64.ofNat (8*k)).toUInt8
theorem yF(v:UInt64){k:Nat}(hk:k<8):byU v k=UInt8.ofNat (v.toNat/256^k):=by
 have h1:(UInt64.ofNat (8*k)).toNat=8*k:=by rw [bC];omega
 apply fA.1
 unfold byU
 rw [UInt64.toNat_toUInt8,lF,h1,cR,dU,dC (show 8*k<64 by omega),Nat.pow_mul]
theorem aMP(v:UInt64){n:Nat}(hn:n≤8):Sha.beN n v.toNat=(List.range n).map fun k=>byU v (n-1-k):=by
 unfold Sha.beN
 apply eX
 intro k hk
 rw [yF v (by have:=fC.1 hk;omega)]
abbrev aJu(n:Nat)(v:UInt64):Value:=.agg [(.int .i64 (n:Int):Value),eK v].toArray
theorem aOY(n:Nat)(v:UInt64)(k:Nat)(hk:k<8):Tri prog 209 [aJu n v,.int .i64 (k:Int)] [] (fun _=>True) (fun r H=>r=.int .u8 ((byU v k).toNat:Int)∧H=[]):=by
 refine Tri.mk func209 rfl ntmps209 rfl fun w hw=>?_
 haveI i1:aEm (8*(k:Int)) (UInt64.ofNat (8*k)):=⟨by rw [bC];omega,by rw [bC];omega⟩
 refine W.k fun b_=>?_
 refine Fin.to [] ?_
 refine F.f1 ?_
 exact⟨rfl,rfl⟩
theorem aMW(n:Nat)(v:UInt64)(k:Nat)(hn:n≤8)(hk:k<n):Tri prog 271 [aJu n v,.int .i64 (k:Int)] [] (fun _=>True) (fun r H=>r=.int .u8 ((byU v (n-1-k)).toNat:Int)∧H=[]):=by
 refine Tri.mk func271 rfl ntmps271 rfl fun w hw=>?_
 refine W.k fun b_=>?_
 refine dV (aOY n v (n-1-k) om) ?_ ?_
 ·rw [show ((n:Int)-1-(k:Int))=((n-1-k:Nat):Int) by omega]
 rintro _ _ ⟨rfl,rfl⟩
 refine W.k ?_
 refine Fin.to [] ?_
 refine F.f1 ?_
 exact⟨rfl,rfl⟩
def oG(g:Nat→UInt8)(n k:Nat):List UInt8:=(List.range k).map g++List.replicate (n-k) 0
theorem aCZ(g:Nat→UInt8){n k:Nat}(h:k≤n):(oG g n k).length=n:=by simp [oG];omega
theorem aC0(g:Nat→UInt8){n k:Nat}(h:k<n):(cbs (oG g n k)).set k (.int .u8 ((g k).toNat:Int))=cbs (oG g n (k+1)):=by
 unfold oG
 unfold cbs
 rw [bB,bX _ _ (by simp),aE,aE,cZ,dM,show n-k=(n-(k+1))+1 by omega,fF,dO,dE,bS]
 simp
theorem aCY(g:Nat→UInt8)(n:Nat):oG g n n=(List.range n).map g:=by simp [oG]
theorem aGI(n:Nat)(v:UInt64)(g:Nat→UInt8)(f:FuncId) [aZ prog f](us:List Value)(hn:1≤n)(hn8:n≤8)(hg:∀ k,k<n→Tri prog f (us++[.int .i64 (k:Int)]++[]) [] (fun _=>True) (fun r H=>r=.int .u8 ((g k).toNat:Int)∧H=[])) :
  Tri prog 208 [aJu n v,.func (.func f) us.toArray #[]] [] (fun _=>True) (fun r H=>∃ b,r=.slice (some ⟨b,0,none⟩) n n∧H=[(b,cl (cbs ((List.range n).map g)) 5)]):=by
 refine Tri.mk func208 rfl ntmps208 rfl fun w hw=>?_
 refine W.j fun _ b_=>?_
 rw [show zs [.int .u8 0] n=cbs (oG g n 0) by rw [lK];simp [oG]]
 refine SW.cut [5] [b_] (fun _:Unit=>[]) (fun _=>[(b_,cl (cbs (oG g n n)) 5)]) (fun _=>True) ?_ ?_
 ·refine W.k ?_
  refine bV [1,5,19] [b_] (fun k:Nat=>[(20,.int .i64 (k:Int))]) (fun k=>[(b_,cl (cbs (oG g n k)) 5)]) (fun k=>n-k) (fun k=>k≤n) 0 om ?_
  intro k hk
  by_cases hkn:k<n
  ·have hlen:k<(cbs (oG g n k)).length:=by rw [aE,aCZ g hk];exact hkn
   refine W.k ?_
   refine dH [] rfl rfl rfl rfl rfl rfl (hg k hkn) (fun _ _=>trivial) ?_
   rintro _ _ ⟨rfl,rfl⟩
   refine W.k ?_
   rw [aC0 g hkn]
   refine aT.mk (k+1) ?_
   omega
  ·have:k=n:=om
   subst this
   refine W.k ?_
   refine bZ.mk () ?_
   trivial
 rintro _ -
 refine W.k ?_
 rw [aCY]
 refine Fin.to [(b_,cl (cbs ((List.range n).map g)) 5)] ?_
 refine F.f1 ?_
 exact⟨b_,rfl,rfl⟩
theorem aBS(n:Nat)(v:UInt64)(hn:1≤n)(hn8:n≤8):Tri prog 226 [.int .i64 (n:Int),eK v] [] (fun _=>True) (fun r H=>∃ b,r=.slice (some ⟨b,0,none⟩) n n∧H=[(b,cl (cbs (Sha.beN n v.toNat)) 5)]):=by
 refine Tri.mk func226 rfl ntmps226 rfl fun w hw=>?_
 refine W.k fun b_=>?_
 refine aL (aGI n v (fun k=>byU v (n-1-k)) 271 [aJu n v] hn hn8 (fun k hk=>aMW n v k hn8 hk)) ?_
 rintro _ _ ⟨b,rfl,rfl⟩
 refine W.k ?_
 rw [← aMP v hn8]
 refine Fin.to [(b,cl (cbs (Sha.beN n v.toNat)) 5)] ?_
 refine F.f1 ?_
 exact⟨b,rfl,rfl⟩
theorem aOg(n:Nat)(hn:n≤1099511627776):Tri prog 225 [.int .i64 (n:Int)] [] (fun _=>True) (fun r H=>Sl 5 1 r (cbs (Sha.padN n)) H):=by
 refine Tri.mk func225 rfl ntmps225 rfl fun w hw=>?_
 haveI i1:eG ((119-(n:Int)%64)%64) ((119-n%64)%64):=⟨by omega⟩
 have hv8:(8*UInt64.ofNat n).toNat=8*n:=by
  have e8:(8:UInt64).toNat=8:=rfl
  rw [oV,bC,e8];omega
 refine W.k fun b_=>?_
 have h1:Sl 5 1 (.slice (some ⟨b_,0,none⟩) 1 1) [.int .u8 128] [(b_,cl (([.int .u8 128]:List Value)++[]) 5)]:=Sl.mk (len:=1) (cap:=1) rfl rfl (Nat.le_refl _)
 refine aL5 h1 ?_ (bytes:=1) (hp:=fI.self _) (hbytes:=by simp only [aW,dA];omega)
 intro v1 H1 h2
 have hV:=h2.isOne
 obtain⟨a,len,cap,rfl,hl⟩:=h2.form
 refine W.k ?_
 refine dV (aBS 8 (8*UInt64.ofNat n) om om) rfl ?_
 rintro _ _ ⟨b2,rfl,rfl⟩
 rw [hv8]
 refine W.ap (ys:=cbs (Sha.beN 8 (8*n))) (mm:=8) h2 (fun w hs=>?_) ?_ (hys:=by simp [Sha.beN_len]) (hbytes:=by simp [Sha.beN_len];omega)
 ·exact eR.block hs.at (by rw [bH,aB (by simp [Sha.beN_len])]) (by simp [Sha.beN_len])
 intro v3 H3 h3
 have:=h3.isOne
 refine W.k ?_
 refine Fin.to H3 ?_
 refine F.f1 ?_
 have e:cbs (Sha.padN n)=[.int .u8 128]++List.replicate ((119-n%64)%64) (.int .u8 0)++cbs (Sha.beN 8 (8*n)):=by simp [Sha.padN]
 rw [e]
 exact h3
namespace Sha
theorem absN_snd:∀ (j:Nat) (s:S8) (m:List UInt8),(absN j s m).2=m.drop (64*j)
 | 0,s,m=>by simp [absN]
 | j+1,s,m=>by
  rw [absN,absN_snd j,bR]
  congr 1
  omega
theorem absN_fst:∀ (j:Nat) (s:S8) (m:List UInt8),(absN (j+1) s m).1=blk (absN j s m).1 ((m.drop (64*j)).take 64)
 | 0,s,m=>by simp [absN]
 | j+1,s,m=>by
  rw [absN,absN_fst j,absN,bR]
  congr 3
  omega
end Sha
def aCB(k:Nat):S8:=⟨if 0<k then Sha.ini.a else 0,if 1<k then Sha.ini.b else 0,if 2<k then Sha.ini.c else 0,if 3<k then Sha.ini.d else 0,if 4<k then Sha.ini.e else 0,if 5<k then Sha.ini.f else 0,if 6<k then Sha.ini.g else 0,if 7<k then Sha.ini.h else 0⟩
theorem aJa(tp:Nat)(rv:Value)(n:Int){k:Nat}(h:k<8):(hc tp (aCB k) rv n).set (1+k) (fG (Sha.tabH.getD k 0))=hc tp (aCB (k+1)) rv n:=by
 rcases lt8 h with rfl|rfl|rfl|rfl|rfl|rfl|rfl|rfl <;> rfl
theorem aOf(tp:Nat):Tri prog 172 [.pointer (some ⟨tp,0,none⟩)] [(tp,cl mU 239)] (fun _=>True)
  (fun v H=>∃ p,v=.pointer (some ⟨p,0,none⟩)∧H=[(p,cl (hc tp Sha.ini (.slice none 0 0) 0) 365),(tp,cl mU 239)]):=by
 refine Tri.mk func172 rfl ntmps172 rfl fun w hw=>?_
 have hT:(mU.drop 64).take 8=mI 8 Sha.tabH 8:=by
  unfold mU
  rw [gS (pR _ _ _),aB (by rw [pR];exact Nat.le_refl _)]
 generalize mU=TC at hT ⊢
 refine W.j fun b_=>?_
 rw [show (List.take 0 ([Value.pointer none]++List.replicate 8 (Value.int .u32 0)++[Value.slice none 0 0]++[Value.int .i64 0])++vl (.pointer (some ⟨tp,0,none⟩))++List.drop (0+1) ([Value.pointer none]++List.replicate 8 (Value.int .u32 0)++[Value.slice none 0 0]++[Value.int .i64 0]))=hc tp (aCB 0) (.slice none 0 0) 0 from rfl]
 refine cN [3] [(b_,cl (hc tp (aCB 0) (.slice none 0 0) 0) 365)] (fun _:Unit=>[]) (fun _=>[(b_,cl (hc tp (aCB 8) (.slice none 0 0) 0) 365)]) (fun _=>True) ?_ ?_
 ·refine W.k ?_
  refine bN [3,14] (fun k:Nat=>[(15,.int .i64 (k:Int))]) (fun k=>[(b_,cl (hc tp (aCB k) (.slice none 0 0) 0) 365)]) (fun k=>8-k) (fun k=>k≤8) 0 om ?_
  intro k hk
  by_cases hk8:k<8
  ·have h1:(mI 8 Sha.tabH 8)[k]?=some (fG (Sha.tabH.getD k 0)):=aHh hk8
   have h3:=aJa tp (.slice none 0 0) 0 hk8
   have hl1:1+k<(hc tp (aCB k) (.slice none 0 0) 0).length:=by show _<11;omega
   have hAo:OC (hc tp (aCB k) (.slice none 0 0) 0):=inferInstance
   generalize hc tp (aCB k) (.slice none 0 0) 0=A at h3 hl1 hAo ⊢
   generalize Sha.tabH.getD k 0=y at h1 h3
   refine W.k ?_
   rw [h3]
   refine aT.mk (k+1) ?_
   omega
  ·have:k=8:=om
   subst this
   refine W.k ?_
   refine bZ.mk () ?_
   trivial
 rintro _ -
 rw [show aCB 8=Sha.ini from rfl]
 refine W.k ?_
 refine F.f1 ?_
 exact⟨b_,rfl,rfl⟩
abbrev mO(M:List UInt8):S8×List UInt8:=Sha.absorb Sha.ini M
theorem aIA(M k:List UInt8):mO (M++k)=Sha.absorb (mO M).1 ((mO M).2++k):=Sha.absorb_app k _ _ _ (Nat.le_refl _)
theorem aIB(M:List UInt8):(mO M).2.length=M.length%64:=Sha.absorb_len _ _ _ (Nat.le_refl _)
theorem tX(bss:List (List UInt8)){i:Nat}{bs:List UInt8}(h:bss[i]?=some bs):(bss.take (i+1)).flatten=(bss.take i).flatten++bs:=by
 rw [aO,h,eQ,eW];simp
theorem aBd(bss:List (List UInt8))(i:Nat):(bss.take i).flatten.length≤bss.flatten.length:=by
 have:bss.flatten=(bss.take i).flatten++(bss.drop i).flatten:=by rw [← eW,bY]
 rw [this,aC];omega
theorem aGA{p tp:Nat}(M:List UInt8)(n:Nat)(bss:List (List UInt8)){rv:Value}{Hs:Hp}(hrv:Sl 5 1 rv (cbs (mO M).2) Hs)(pv:Value)(hn:n+bss.flatten.length≤1099511627776)(hn2:bss.length≤1099511627776) :
  Tri prog 173 [.pointer (some ⟨p,0,none⟩),pv] ((p,cl (hc tp (mO M).1 rv n) 365)::(tp,cl mU 239)::Hs) (fun w=>RdS (p::tp::Hs.map Prod.fst) w pv bss)
   (fun v H=>v=.tuple #[]∧∃ rv' Hs' Ho,Sl 5 1 rv' (cbs (mO (M++bss.flatten)).2) Hs'∧(bss=[]∧rv'=rv∧Hs'=Hs∧Ho=[]∨bss≠[]∧Sl 5 1 rv (cbs (mO M).2) Ho) ∧
    H=(p,cl (hc tp (mO (M++bss.flatten)).1 rv' (n+bss.flatten.length:Nat)) 365)::(tp,cl mU 239)::(Hs'++Ho)):=by
 refine Tri.mk func173 rfl ntmps173 rfl fun w hw=>?_
 have hrv1:=hrv.isOne
 obtain⟨vs,hR,hvl,hvs⟩:=hw
 obtain⟨pa,pl,pc,rfl,hpl,hpc,hpr⟩:=hR
 rw [Nat.mul_one] at hpl
 have hbl:bss.length=pl:=om
 have e0:hc tp (mO M).1 rv n=hc tp (mO (M++(bss.take 0).flatten)).1 rv (n+(bss.take 0).flatten.length:Nat):=by simp
 refine W.k ?_
 rw [e0]
 refine bN (hp:=by dsimp only;infer_instance) [0,9,10] (fun x:Nat×Value×Hp×Hp=>[(11,.int .i64 (x.1:Int))])
  (fun x=>(p,cl (hc tp (mO (M++(bss.take x.1).flatten)).1 x.2.1 (n+(bss.take x.1).flatten.length:Nat)) 365)::(x.2.2.1++x.2.2.2)) (fun x=>pl-x.1)
  (fun x=>x.1≤pl∧Sl 5 1 x.2.1 (cbs (mO (M++(bss.take x.1).flatten)).2) x.2.2.1∧(x.1=0∧x.2.1=rv∧x.2.2.1=Hs∧x.2.2.2=[]∨0<x.1∧Sl 5 1 rv (cbs (mO M).2) x.2.2.2)) (0,rv,Hs,[]) ?_ ?_
 ·refine⟨Nat.zero_le _,?_,.inl ⟨rfl,rfl,rfl,rfl⟩⟩
  simpa using hrv
 rintro⟨i,rvi,Hi,Ho⟩ ⟨hi,hsi,hor⟩
 dsimp only at hi hsi hor ⊢
 by_cases hip:i<pl
 ·obtain⟨bs,hbs⟩:∃ bs,bss[i]?=some bs:=⟨_,aA om⟩
  obtain⟨a,len,cap,hvi,hrd⟩:=hvs i bs hbs
  have hfl:=aBd bss (i+1)
  have hA:=aIA (M++(bss.take i).flatten) bs
  rw [bE,← tX bss hbs] at hA
  have hf2:=tX bss hbs
  have hAl:=aIB (M++(bss.take i).flatten)
  obtain⟨pb,po,l,T,fz,rfl,hpb,hpk,hpy⟩:=hpr.resolve_left om
  have hl:l[po+i]?=some (.slice a len cap):=by
   rw [← hpy,bI,if_pos om,bD] at hvi
   exact hvi
  obtain⟨hbsl,hlc⟩:=hrd.len1
  have hNl:((bss.take (i+1)).flatten).length=((bss.take i).flatten).length+len:=by rw [hf2,aC,hbsl]
  have hA0:i=0→mO (M++(bss.take i).flatten)=mO M:=by rintro rfl;simp
  generalize mO (M++(bss.take i).flatten)=A at hsi hA hAl hA0 ⊢
  have hN:n+(bss.take i).flatten.length+len≤1099511627776:=om
  have hN1:n+(bss.take (i+1)).flatten.length=n+(bss.take i).flatten.length+len:=om
  have hmm:A.2.length≤64:=om
  generalize n+(bss.take i).flatten.length=N at hN hN1 ⊢
  obtain⟨S,m⟩:=A
  dsimp only at hsi hA hmm ⊢
  have hsi1:=hsi.isOne
  obtain⟨ra,rl,rc,rfl,hrl⟩:=hsi.form
  haveI:OC (hc tp S (.slice ra rl rc) N):=inferInstance
  refine W.k ?_
  rw [show (hc tp S (Value.slice ra rl rc) (N:Int)).set 10 (.int .i64 ((N:Int)+(len:Int)))=hc tp S (.slice ra rl rc) ((N+len:Nat):Int) from rfl]
  refine aOj hsi (fun w2 hs=>hrd.srcAt hs) (fun v1 Hv Hf Hr Hoo h1 hr hperm=>?_) (hys:=by simp;omega) (hbytes:=by simp;omega)
  have h11:=h1.isOne
  obtain⟨va,vl,vc,rfl,-⟩:=h1.form
  obtain⟨hvl1,hvc,hva⟩:=h1.lens
  have h1':Sl 5 1 (.slice va vl vc) (cbs (m++bs)) Hv:=by rw [gT];exact h1
  have hM1:(m++bs).length=vl:=by simpa using hvl1
  have hvl4:vl≤1099511627776+64:=by rw [aC] at hM1;omega
  clear h1 hvl1
  generalize m++bs=M1 at h1' hM1 hA
  have hab:Sha.absorb S M1=Sha.absN (M1.length/64) S M1:=rfl
  have hab2:(Sha.absorb S M1).2=M1.drop (64*(M1.length/64)):=by rw [hab,Sha.absN_snd]
  refine W.j ?_
  refine SW.cut [0,9,10,11] [p] (fun _:Unit=>[(6,.int .i64 ((64*(M1.length/64):Nat):Int))]) (fun _=>[(p,cl (hc tp (Sha.absorb S M1).1 (.slice va vl vc) ((N+len:Nat):Int)) 365)]) (fun _=>True) ?_ ?_
  ·refine W.k ?_
   refine bV [0,9,10,11] [p] (fun j:Nat=>[(6,.int .i64 ((64*j:Nat):Int))]) (fun j=>[(p,cl (hc tp (Sha.absN j S M1).1 (.slice va vl vc) ((N+len:Nat):Int)) 365)]) (fun j=>M1.length-j) (fun j=>64*j≤M1.length) 0 om ?_
   intro j hj
   by_cases h64:64*j+64≤vl
   ·obtain⟨vb,rfl⟩:=hva.resolve_left om
    refine W.k ?_
    refine dV (aKW (p:=p) (tp:=tp) (Sha.absN j S M1).1 (.slice (some ⟨vb,0,none⟩) vl vc) ((N+len:Nat):Int) (some ⟨vb,64*j,none⟩) (vc-64*j) ((M1.drop (64*j)).take 64) (by simp;omega)) ?_ ?_ (hpre:=fun w2 hs=>?_)
    ·rw [show 64*j+64-64*j=64 by omega]
    ·rintro _ _ ⟨rfl,rfl⟩
     rw [← Sha.absN_fst]
     refine W.k ?_
     rw [show ((64*j:Nat):Int)+64=((64*(j+1):Nat):Int) by omega]
     refine aT.mk (j+1) ?_
     omega
    ·have h2:=(Rd.ownB [p,tp] h1' hs).sub (64*j) (64*j+64) (vc-64*j) om om om
     rw [show 64*j+64-64*j=64 by omega,fP] at h2
     exact h2
   ·have hje:j=M1.length/64:=om
    subst hje
    rw [← hab]
    refine W.k ?_
    refine bZ.mk () ?_
    trivial
  rintro _ -
  refine W.k ?_
  refine aOp ?_ hvc
  refine W.k ?_
  refine W.ap (Sl.nil _ _) (fun w2 hs=>h1'.srcFrom om hs inferInstance) (fun v3 H3 h3=>?_) (mm:=vl-64*(M1.length/64)) (ys:=(cbs M1).drop (64*(M1.length/64))) (hys:=by rw [aK,aI];omega) (hbytes:=by rw [aK,aI,dA];omega)
  rw [List.nil_append,aBE,← hab2,← hA] at h3
  rw [← hA]
  have h31:=h3.isOne
  haveI:fI (Hv++Hf) Hr Hoo:=⟨hperm⟩
  refine W.k ?_
  rw [show ∀ S:S8,(hc tp S (Value.slice va vl vc) ((N+len:Nat):Int)).set 9 v3=hc tp S v3 ((N+len:Nat):Int) from fun _=>rfl,← hN1]
  refine W.k ?_
  rcases hor with ⟨h0,hor1,hor2,hor3⟩|⟨h0,hor1⟩
  ·refine aT.mk (i+1,v3,H3,Hr) ?_
   exact⟨by omega,h3,.inr ⟨by omega,by rw [← hA0 h0,← hor1];exact hr⟩⟩
  ·refine aT.mk (i+1,v3,H3,Ho) ?_
   exact⟨by omega,h3,.inr ⟨by omega,hor1⟩⟩
 ·have hi2:i=pl:=om
  subst hi2
  have hall:bss.take i=bss:=aB om
  rw [hall] at hsi ⊢
  refine W.k ?_
  refine Fin.to ((p,cl (hc tp (mO (M++bss.flatten)).1 rvi (n+bss.flatten.length:Nat)) 365)::(tp,cl mU 239)::(Hi++Ho)) ?_
  refine F.f0 ?_
  refine⟨rfl,rvi,Hi,Ho,hsi,?_,rfl⟩
  rcases hor with ⟨h0,h1,h2,h3⟩|⟨h0,h1⟩
  ·exact .inl ⟨cE om,h1,h2,h3⟩
  ·exact .inr ⟨fun h=>by rw [h] at hbl;simp at hbl;omega,h1⟩
theorem F.cH{P:Program}{C:Ctx}{ρ:Fr}{H:Hp}{fn:Func}{R:Value→Hp→Prop}{e:Exit}{t ty n b:Nat}{l:List Value}{T:TypeId}(Hc:Hp){s:Hp}(l2:List Value) [hp:fI H Hc s](hR:R (.agg l2.toArray) Hc)(he:e=.ret∨e=.normal:=by first|exact .inl rfl|exact .inr rfl)(hrs:fn.results=#[.cell t ty]:=by exact rfl)(ht:lk ρ t=some (.pointer (some ⟨b,0,none⟩)):=by exact rfl)(hat:At H b (cl l T):=by infer_instance)(hl:l=l2:=by first|assumption|exact rfl)(iR:eN P ty n:=by infer_instance)(hn:l2.length=n:=by first|assumption|exact rfl):Fin P C fn R e ρ H:=by
 subst hl
 exact Fin.c1 he hrs ht hn Hc hR
def tN(s:S8)(k:Nat):List Value:=cbs ((Sha.outB s).take (4*k)++List.replicate (32-4*k) 0)
theorem aFc(s:S8){k:Nat}(h:k≤8):(tN s k).length=32:=by
 unfold tN;rw [aI,aC,aD,Sha.outB_len,aM];omega
theorem aJA(s:S8){k:Nat}(h:k<8):(tN s k).take (4*k)++cbs (Sha.beN 4 (s.get k).toNat)++(tN s k).drop (4*k+(cbs (Sha.beN 4 (s.get k).toNat)).length)=tN s (k+1):=by
 rcases lt8 h with rfl|rfl|rfl|rfl|rfl|rfl|rfl|rfl <;> rfl
theorem aJz(s:S8):tN s 8=cbs (Sha.outB s):=by
 unfold tN
 rw [aB (by rw [Sha.outB_len];exact Nat.le_refl _)]
 simp
instance(s:S8)(k:Nat):OC (tN s k):=by unfold tN;infer_instance
theorem aMu{p tp:Nat}(M:List UInt8){rv:Value}{Hs:Hp}(hrv:Sl 5 1 rv (cbs (mO M).2) Hs)(hn:M.length≤1099511627000) :
  Tri prog 174 [.pointer (some ⟨p,0,none⟩)] ((p,cl (hc tp (mO M).1 rv M.length) 365)::(tp,cl mU 239)::Hs) (fun _=>True)
   (fun v H=>v=.agg (cbs (Sha.sum M)).toArray∧∃ Hs',Sl 5 1 rv (cbs (mO M).2) Hs'∧H=(p,cl (hc tp (mO M).1 rv M.length) 365)::(tp,cl mU 239)::Hs'):=by
 refine Tri.mk func174 rfl ntmps174 rfl fun w hw=>?_
 have hrv1:=hrv.isOne
 obtain⟨ra,rl,rc,rfl,-⟩:=hrv.form
 have hs8:((hc tp (mO M).1 (.slice ra rl rc) M.length).drop 1).take 8=s8c (mO M).1:=rfl
 have hbd:bQ (fun i=>[(0,1),(1,8),(9,1),(10,1)][i]?) ([.pointer none]++List.replicate 8 (.int .u32 0)++[.slice none 0 0]++[.int .i64 0]) [(0,.pointer (some ⟨tp,0,none⟩)),(1,.agg (s8c (mO M).1).toArray),(2,.slice ra rl rc)]=some (hc tp (mO M).1 (.slice ra rl rc) ((0:Nat):Int)):=rfl
 have hlen:(hc tp (mO M).1 (.slice ra rl rc) M.length).length=11:=rfl
 refine W.k fun _ b_=>?_
 rename_i b2
 (refine SW.l [13] [0,1,2,3,4,5,6,7,8,9,10,11,12] ?_;refine cB 13 ?_;refine W.i fun b_=>?_;refine SG.l [14,15] ?_)
 rename_i b3
 refine W.j ?_
 refine aL (aOg M.length om) ?_
 intro vP HP hP
 have hP1:=hP.isOne
 obtain⟨pa,pl,pc,rfl,-⟩:=hP.form
 have hpl:=Sha.padN_len M.length
 have hpl2:(Sha.padN M.length).length≤73:=by simp [Sha.padN,Sha.beN_len];omega
 have hbl:bQ (fun i=>some (i*1,1)) (zs [.slice none 0 0] 1) [(0,.slice pa pl pc)]=some [.slice pa pl pc]:=rfl
 refine W.j fun b_=>?_
 rename_i b4
 refine aL (aGA (p:=b4) (tp:=tp) M 0 [Sha.padN M.length] hrv (.slice (some ⟨b_,0,none⟩) 1 1) (by simp;omega) (by simp)) ?_ (hpre:=fun w2 hs=>?_)
 ·rintro _ _ ⟨rfl,rv',Hs',Ho,hrv',hor,rfl⟩
  have hfl:[Sha.padN M.length].flatten=Sha.padN M.length:=by simp
  rw [hfl] at hrv' ⊢
  have hsum:Sha.outB (mO (M++Sha.padN M.length)).1=Sha.sum M:=rfl
  have hHo:Sl 5 1 (.slice ra rl rc) (cbs (mO M).2) Ho:=by
   rcases hor with ⟨h,-⟩|⟨-,h⟩
   ·simp at h
   ·exact h
  generalize ((0+(Sha.padN M.length).length:Nat):Int)=N
  generalize (mO (M++Sha.padN M.length)).1=S at hsum ⊢
  have hlen2:(hc tp S rv' N).length=11:=rfl
  have hs82:((hc tp S rv' N).drop 1).take 8=s8c S:=rfl
  refine W.j ?_
  rw [show List.replicate 32 (Value.int .u8 0)=tN S 0 from rfl]
  refine SW.cut [2,3] [b3] (fun _:Unit=>[]) (fun _=>[(b3,cl (tN S 8) 119)]) (fun _=>True) ?_ ?_
  ·refine W.k ?_
   refine bV [2,3,35] [b3] (fun k:Nat=>[(36,.int .i64 (k:Int))]) (fun k=>[(b3,cl (tN S k) 119)]) (fun k=>8-k) (fun k=>k≤8) 0 om ?_
   intro k hk
   by_cases hk8:k<8
   ·have h2:=aGl S hk8
    have h3:=aJA S hk8
    have hl32:=aFc S hk
    have hy4:(cbs (Sha.beN 4 (S.get k).toNat)).length=4:=by rw [aI,Sha.beN_len]
    generalize tN S k=A at h3 hl32 ⊢
    generalize S.get k=y at h2 h3 hy4
    refine W.k ?_
    (refine SW.l [] [0,1] ?_;refine dL 2 rfl (aLt rfl rfl rfl om) ?_;refine SG.l [3,4] ?_;refine aX 5 ?_)
    refine aL (aBS 4 y.toUInt64 om om) ?_
    rintro _ _ ⟨b5,rfl,rfl⟩
    rw [UInt32.toNat_toUInt64]
    (refine bO [] ?_;refine aX 6 ?_)
    refine W.cy (ys:=cbs (Sha.beN 4 y.toNat)) (mm:=4) (fun w2 hs=>?_) ?_
    ·exact eR.block (l:=cbs (Sha.beN 4 y.toNat)) hs.at (by rw [bH,aB om]) om
    rw [h3]
    (refine bO [] ?_;refine eI ?_)
    refine W.k ?_
    refine aT.mk (k+1) ?_
    omega
   ·have:k=8:=om
    subst this
    refine W.k ?_
    refine bZ.mk () ?_
    trivial
  rintro _ -
  rw [aJz,hsum]
  refine W.k ?_
  refine F.cH ((p,cl (hc tp (mO M).1 (.slice ra rl rc) M.length) 365)::(tp,cl mU 239)::Ho) (cbs (Sha.sum M)) ?_
  exact⟨rfl,Ho,hHo,rfl⟩
 ·refine RdS.at (T:=50) (fz:=(0,0)) (Hc:=(b4,cl (hc tp (mO M).1 (.slice ra rl rc) ((0:Nat):Int)) 365)::(tp,cl mU 239)::Hs) (vs:=[.slice pa pl pc]) (bss:=[Sha.padN M.length]) hs rfl (Nat.le_refl _) rfl ?_
  intro i bs hi
  have hi0:i=0:=by
   have:=(aG.1 hi).1
   simp at this;omega
  subst hi0
  simp at hi
  subst hi
  exact⟨_,_,_,rfl,Rd.own (Hc:=(b4,cl (hc tp (mO M).1 (.slice ra rl rc) ((0:Nat):Int)) 365)::(tp,cl mU 239)::Hs) hP hs inferInstance⟩
theorem aME{tp:Nat}(bss:List (List UInt8))(pv:Value) [hpv:One pv](hn:bss.flatten.length≤1099511627000)(hn2:bss.length≤1099511627776):Tri prog 109 [.pointer (some ⟨tp,0,none⟩),pv] [(tp,cl mU 239)] (fun w=>RdS [tp] w pv bss) (fun v H=>v=.agg (cbs (Sha.sum bss.flatten)).toArray∧H=[(tp,cl mU 239)]):=by
 refine Tri.mk func109 rfl ntmps109 rfl fun w hw=>?_
 refine W.k fun b_=>?_
 refine aL (aOf tp) ?_
 rintro _ _ ⟨p,rfl,rfl⟩
 refine W.k ?_
 rw [show hc tp Sha.ini (.slice none 0 0) 0=hc tp (mO []).1 (.slice none 0 0) ((0:Nat):Int) from rfl]
 refine aL (aGA (p:=p) (tp:=tp) [] 0 bss (Sl.nil _ _) pv om hn2) ?_ (hpre:=fun w2 hs=>?_)
 ·rintro _ _ ⟨rfl,rv',Hs',Ho,hrv',hor,rfl⟩
  rw [List.nil_append] at hrv'
  rw [List.nil_append,fP]
  have h1:=hrv'.isOne
  refine W.k ?_
  refine aL (aMu (p:=p) (tp:=tp) bss.flatten hrv' hn) ?_
  rintro _ _ ⟨rfl,Hs2,-,rfl⟩
  have hl:(cbs (Sha.sum bss.flatten)).length=32:=by rw [aI,Sha.sum_len]
  refine W.k ?_
  refine F.cH [(tp,cl mU 239)] (cbs (Sha.sum bss.flatten)) ?_
  exact⟨rfl,rfl⟩
 ·exact hw.ro (Hc:=[(p,cl (hc tp (mO []).1 (.slice none 0 0) ((0:Nat):Int)) 365),(tp,cl mU 239)]) hs
theorem bs1(a:Option Addr)(l c:Nat):List.take (0*1) (zs [.slice none 0 0] 1)++vl (.slice a l c)++List.drop (0*1+1) (zs [.slice none 0 0] 1)=[.slice a l c]:=rfl
end
def leN(n:Nat)(v:UInt64):List UInt8:=(List.range n).map (byU v)
theorem cJ(n:Nat)(v:UInt64):(leN n v).length=n:=by simp [leN]
theorem aJc{a b:Nat}(ha:a<4294967296)(hb:b<4294967296)(h:leN 4 (UInt64.ofNat a)=leN 4 (UInt64.ofNat b)):a=b:=by
 have hA:(UInt64.ofNat a).toNat=a:=by rw [bC];omega
 have hB:(UInt64.ofNat b).toNat=b:=by rw [bC];omega
 have e:∀ k,k<4→byU (UInt64.ofNat a) k=byU (UInt64.ofNat b) k:=by
  intro k hk
  have:=congrArg (fun l=>l[k]?) h
  simpa [leN,hk] using this
 have f:∀ k,k<4→a/256^k%256=b/256^k%256:=by
  intro k hk
  have:=congrArg UInt8.toNat (e k hk)
  rw [yF _ om,yF _ om,cR,cR,hA,hB] at this
  exact this
 have f0:=f 0 om
 have f1:=f 1 om
 have f2:=f 2 om
 have f3:=f 3 om
 simp only [uA,gG,Nat.one_mul,Nat.div_one] at f0 f1 f2 f3
 omega
def dep(n:Nat):Nat:=if n≤1 then 0 else (n-1).log2+1
theorem aAu(n:Nat):n≤2^dep n:=by
 unfold dep
 by_cases h:n≤1
 ·rw [if_pos h];simpa using h
 ·rw [if_neg h]
  have:=Nat.lt_log2_self (n:=n-1)
  omega
theorem aIT{n e:Nat}(h:e<dep n):2^e<n:=by
 unfold dep at h
 by_cases h1:n≤1
 ·rw [if_pos h1] at h;omega
 ·rw [if_neg h1] at h
  have h2:=Nat.log2_self_le (n:=n-1) om
  have h3:2^e≤2^(n-1).log2:=cV om om
  omega
theorem aEN{n d:Nat}(h1:n≤2^d)(h2:∀ e,e<d→2^e<n):d=dep n:=by
 rcases Nat.lt_trichotomy d (dep n) with h|h|h
 ·have:=aIT h;omega
 ·exact h
 ·have:=h2 _ h;have:=aAu n;omega
theorem wR{n k:Nat}(h:n≤2^k):dep n≤k:=by
 rcases mW k (dep n) with h1|h1
 ·have:=aIT h1;omega
 ·exact h1
section
variable {α:Type}{n:Nat}
theorem eD{L:List (List α)}(h:∀ x∈L,x.length=n):L.flatten.length=L.length*n:=by
 induction L with
 | nil=>simp
 | cons a t ih=>
  rw [dG,aC,ih fun x hx=>h x (cW _ hx),h a (jY ..),aW,gH,qJ]
theorem yI{L:List (List α)}(h:∀ x∈L,x.length=n)(i:Nat):L.flatten.take (i*n)=(L.take i).flatten:=by
 induction L generalizing i with
 | nil=>simp
 | cons a t ih=>
  cases i with
  | zero=>simp
  | succ i=>
   have ha:=h a (jY ..)
   rw [dG,jN,dG,jA,ha,aB (by rw [ha,gH];omega),show (i+1)*n-n=i*n by rw [gH];omega,ih fun x hx=>h x (cW _ hx)]
theorem uG{L:List (List α)}(h:∀ x∈L,x.length=n)(i:Nat):L.flatten.drop (i*n)=(L.drop i).flatten:=by
 induction L generalizing i with
 | nil=>simp
 | cons a t ih=>
  cases i with
  | zero=>simp
  | succ i=>
   have ha:=h a (jY ..)
   rw [dG,List.drop_succ_cons,eZ,ha,eB (by rw [ha,gH];omega),List.nil_append,show (i+1)*n-n=i*n by rw [gH];omega,ih fun x hx=>h x (cW _ hx)]
theorem nB{L:List (List α)}{x:List α}(h:∀ x∈L,x.length=n){i:Nat}(hi:L[i]?=some x):(L.flatten.drop (i*n)).take n=x:=by
 have hx:=h x (aP hi)
 obtain⟨hl,hv⟩:=aG.1 hi
 rw [uG h,bM hl,dG,hv,jA,hx,dM,cQ,aJ,aB om]
theorem aHC{L:List (List α)}{x:List α}(h:∀ x∈L,x.length=n){i:Nat}(hi:i<L.length):L.flatten.take (i*n)++x++L.flatten.drop (i*n+n)=(L.set i x).flatten:=by
 rw [yI h,show i*n+n=(i+1)*n by rw [gH],uG h,kE,if_pos hi]
 simp
end
theorem aBa{L:List (List UInt8)}{x:List UInt8}{n:Nat}(h:∀ x∈L,x.length=n){i:Nat}(hi:L[i]?=some x):((cbs L.flatten).drop (i*n)).take n=cbs x:=by
 rw [← nB h hi];simp [cbs,jQ,jR]
theorem aKZ{L:List (List UInt8)}{x:List UInt8}{n:Nat}(h:∀ x∈L,x.length=n){i:Nat}(hi:i<L.length):(cbs L.flatten).take (i*n)++cbs x++(cbs L.flatten).drop (i*n+n)=cbs (L.set i x).flatten:=by
 rw [← aHC h hi];simp [cbs,jQ,jR]
abbrev z32:List UInt8:=List.replicate 32 0
def xO(level i:Nat)(x y:List UInt8):List UInt8:=1::[[UInt8.ofNat level],leN 4 (UInt64.ofNat i),x,y].flatten
def nE(n:Nat)(x:List UInt8):List UInt8:=2::[leN 4 (UInt64.ofNat n),x].flatten
def kR(k:Nat)(b:List UInt8):List UInt8:=0::[leN 4 (UInt64.ofNat k),b].flatten
def vB(level i:Nat)(x y:List UInt8):List UInt8:=Sha.sum (xO level i x y)
theorem aAC(level i:Nat)(x y:List UInt8):(vB level i x y).length=32:=Sha.sum_len _
def atV(l:List (List UInt8)):Nat→Nat→List UInt8
 | 0,i=>l.getD i z32
 | d+1,i=>vB (d+1) i (atV l d (2*i)) (atV l d (2*i+1))
def D32(l:List (List UInt8)):Prop:=∀ x∈l,x.length=32
theorem mY{l:List (List UInt8)}(hl:D32 l)(d i:Nat):(atV l d i).length=32:=by
 cases d with
 | zero=>
  unfold atV
  rw [aF]
  cases h:l[i]? with
  | none=>rfl
  | some x=>exact hl x (aP h)
 | succ d=>exact aAC ..
def qN(l:List (List UInt8))(D d:Nat):List (List UInt8):=(List.range (2^(D-d))).map (atV l d)
theorem wI(l:List (List UInt8))(D d:Nat):(qN l D d).length=2^(D-d):=by simp [qN]
theorem aEb{l:List (List UInt8)}(hl:D32 l)(D d:Nat):D32 (qN l D d):=by
 intro x hx
 obtain⟨i,-,rfl⟩:=bG.1 hx
 exact mY hl d i
theorem wH(l:List (List UInt8)){D d i:Nat}(h:i<2^(D-d)):(qN l D d)[i]?=some (atV l d i):=by simp [qN,h]
def aEi(l:List (List UInt8)):List UInt8:=atV l (dep l.length) 0
def xT(l:List (List UInt8)):List UInt8:=Sha.sum (nE l.length (aEi l))
def uR(l:List (List UInt8))(D:Nat):List (List UInt8):=(List.range D).flatMap fun d=>(List.range (2^(D-(d+1)))).map fun i=>xO (d+1) i (atV l d (2*i)) (atV l d (2*i+1))
theorem aDo(l:List (List UInt8)){D d i:Nat}(hd:d<D)(hi:i<2^(D-(d+1))):xO (d+1) i (atV l d (2*i)) (atV l d (2*i+1))∈uR l D:=by
 unfold uR
 exact List.mem_flatMap.2 ⟨d,fC.2 hd,bG.2 ⟨i,fC.2 hi,rfl⟩⟩
theorem aHS{a i a' i':Nat}{x y x' y':List UInt8}(hx:x.length=32)(hx':x'.length=32)(h:xO a i x y=xO a' i' x' y'):x=x'∧y=y':=by
 unfold xO at h
 have h1:=(xI h).2
 simp only [dG,iZ,aJ,oR] at h1
 obtain⟨-,h2⟩:=uV (xI h1).2 (by rw [cJ,cJ])
 exact uV h2 om
theorem aIa{n m:Nat}{x y:List UInt8}(hn:n<4294967296)(hm:m<4294967296)(h:nE n x=nE m y):n=m∧x=y:=by
 unfold nE at h
 have h1:=(xI h).2
 simp only [dG,iZ,aJ] at h1
 obtain⟨h2,h3⟩:=uV h1 (by rw [cJ,cJ])
 exact⟨aJc hn hm h2,h3⟩
theorem zG{l m:List (List UInt8)}(hl:D32 l)(hm:D32 m)(hln:l.length<4294967296)(hmn:m.length<4294967296){ts:List (List UInt8)}
  (h1:∀ t∈uR l (dep l.length),t∈ts) (h2:∀ t∈uR m (dep m.length),t∈ts) (h3:nE l.length (aEi l)∈ts) (h4:nE m.length (aEi m)∈ts)
  (hno:∀ t∈ts,∀ u∈ts,Sha.sum t=Sha.sum u→t=u) (h:xT l=xT m):l=m:=by
 obtain⟨e,hT⟩:=aIa hln hmn (hno _ h3 _ h4 h)
 unfold aEi at hT
 rw [← e] at hT h2
 have key:∀ k d,k+d=dep l.length→∀ i,i<2^(dep l.length-d)→atV l d i=atV m d i:=by
  intro k
  induction k with
  | zero=>
   intro d hd i hi
   have:d=dep l.length:=om
   subst this
   rw [dM,uA] at hi
   have:i=0:=om
   subst this
   exact hT
  | succ k ih=>
   intro d hd i hi
   have h5:=ih (d+1) om (i/2) (by
    have:2^(dep l.length-d)=2*2^(dep l.length-(d+1)):=by rw [show dep l.length-d=dep l.length-(d+1)+1 by omega,gG,kO]
    omega)
   have hi2:i/2<2^(dep l.length-(d+1)):=by
    have:2^(dep l.length-d)=2*2^(dep l.length-(d+1)):=by rw [show dep l.length-d=dep l.length-(d+1)+1 by omega,gG,kO]
    omega
   have h6:=hno _ (h1 _ (aDo l om hi2)) _ (h2 _ (aDo m om hi2)) h5
   obtain⟨h7,h8⟩:=aHS (mY hl _ _) (mY hm _ _) h6
   rcases Nat.mod_two_eq_zero_or_one i with h9|h9
   ·rwa [show 2*(i/2)=i by omega] at h7
   ·rwa [show 2*(i/2)+1=i by omega] at h8
 apply cM
 intro i
 rcases mW i l.length with hi|hi
 ·have h5:=key (dep l.length) 0 om i (by have:=aAu l.length;rw [lP];omega)
  unfold atV at h5
  rw [aF,aF,aA hi,aA (show i<m.length by omega)] at h5
  rw [aA hi,aA (show i<m.length by omega)]
  exact congrArg some h5
 ·rw [aY hi,aY om]
section
attribute [local irreducible] SW SL SQ SH SA SS Pu Fin bZ aT
theorem aOT{d X:Nat}(h:d<63)(hX:X=2^d):aFJ .i64 1 (d:Int) (X:Int):=⟨by
 have h2:2^d<2^63:=Nat.pow_lt_pow_right om h
 rw [← hX] at h2
 refine⟨by omega,?_⟩
 rw [bK,dB (by show d≤64;omega),Int.one_mul,show ((2:Int)^d)=(X:Int) by rw [hX];simp]
 exact w64 om⟩
theorem aK7(n:Nat)(hn:n≤1099511627776):Tri prog 239 [.int .i64 (n:Int)] [] (fun _=>True) (fun v H=>v=.int .i64 ((dep n:Nat):Int)∧H=[]):=by
 refine Tri.mk func239 rfl ntmps239 rfl fun w hw=>?_
 have hd40:dep n≤40:=wR (by simpa using hn)
 refine W.j ?_
 refine SW.cut [] [] (fun _:Unit=>[(3,.int .i64 ((dep n:Nat):Int))]) (fun _=>[]) (fun _=>True) ?_ ?_
 ·refine W.k ?_
  refine bV [0] [] (fun d:Nat=>[(3,.int .i64 (d:Int))]) (fun _=>[]) (fun d=>dep n-d) (fun d=>d≤dep n∧∀ e,e<d→2^e<n) 0 ⟨by omega,fun e h=>by omega⟩ ?_
  rintro d ⟨hd,he⟩
  obtain⟨X,hX⟩:∃ X,X=2^d:=⟨_,rfl⟩
  haveI:=aOT (d:=d) om hX
  by_cases h:X<n
  ·have hlt:d<dep n:=by
    rcases mW d (dep n) with h1|h1
    ·exact h1
    ·have:=cV (n:=2) om h1
     have:=aAu n
     omega
   refine W.k ?_
   refine aT.mk (d+1) ?_
   refine⟨by omega,fun e h1=>?_⟩
   by_cases e1:e=d
   ·subst e1;omega
   ·exact he e om
  ·have hd2:d=dep n:=aEN om he
   refine W.k ?_
   subst hd2
   refine bZ.mk () ?_
   trivial
 rintro _ -
 refine W.k ?_
 exact F.n
theorem aJY(n:Nat)(hn:n≤1099511627776):Tri prog 252 [.int .i64 (n:Int)] [] (fun _=>True) (fun v H=>v=.int .i64 ((dep n:Nat):Int)∧H=[]):=by
 refine Tri.mk func252 rfl ntmps252 rfl fun w hw=>?_
 have hd40:dep n≤40:=wR (by simpa using hn)
 refine W.j ?_
 refine SW.cut [] [] (fun _:Unit=>[(3,.int .i64 ((dep n:Nat):Int))]) (fun _=>[]) (fun _=>True) ?_ ?_
 ·refine W.k ?_
  refine bV [0] [] (fun d:Nat=>[(3,.int .i64 (d:Int)),(4,.int .i64 ((2^d:Nat):Int))]) (fun _=>[]) (fun d=>dep n-d) (fun d=>d≤dep n∧∀ e,e<d→2^e<n) 0 ⟨by omega,fun e h=>by omega⟩ ?_
  rintro d ⟨hd,he⟩
  have hs:2^(d+1)=2*2^d:=by rw [gG,kO]
  have hs2:((2^(d+1):Nat):Int)=2*((2^d:Nat):Int):=by rw [hs];rfl
  obtain⟨X,hX⟩:∃ X,X=2^d:=⟨_,rfl⟩
  have hXs:X≤1099511627776:=by
   have:=cV (n:=2) om (show d≤40 by omega)
   omega
  rw [← hX] at hs2 ⊢
  by_cases h:X<n
  ·have hlt:d<dep n:=by
    rcases mW d (dep n) with h1|h1
    ·exact h1
    ·have:=cV (n:=2) om h1
     have:=aAu n
     omega
   refine W.k ?_
   rw [← hs2]
   refine aT.mk (d+1) ?_
   refine⟨by omega,fun e h1=>?_⟩
   by_cases e1:e=d
   ·subst e1;omega
   ·exact he e om
  ·have hd2:d=dep n:=aEN om he
   refine W.k ?_
   subst hd2
   refine bZ.mk () ?_
   trivial
 rintro _ -
 refine W.k ?_
 exact F.n
end
def aff(ks:List Nat)(d i:Nat):Prop:=∃ k∈ks,k/2^d=i
abbrev Pl:=Nat×Nat
section
variable {ks:List Nat}{D:Nat}{w:List (List UInt8)}{Q Q':Pl→Prop}{last p:Pl}{done:List Pl}{cur:Nat→Nat→List UInt8}
end
section
open Go.ChangeShapes Go.WideShapes Go.ChangeAt Go.RowKit
section
variable {H:Type}{enc:TypeId×Value→H}{P:Program}{W:World}{sp:Nat→Bool}{hl:Bool}
theorem aO9{n:Nat}(ys:List Value)(f:Nat→List UInt8)(len:Nat)(hy:ys.length=len*n)(h:∀ i,i<len→(ys.drop (i*n)).take n=cbs (f i)):ys=cbs ((List.range len).map f).flatten:=by
 have key:∀ m,m≤len→ys.take (m*n)=cbs ((List.range m).map f).flatten:=by
  intro m
  induction m with
  | zero=>intro _;simp
  | succ m ih=>
   intro hm
   rw [gH,List.take_add,ih om,h m om,bS]
   simp
 have:=key len (Nat.le_refl _)
 rwa [← hy,bT] at this
end
end
end Go.Proofs.YtnigolgkkjidiaaGreat
