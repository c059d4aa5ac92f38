/- Turns, a block's schedule. A block is summed. Numbers as bytes. Sums that grow. Bytes are written into a sum. What a sum is; a table's words. A table's sums; the law's helpers. -/
import Derived.Test.YtnigolgkkjidiaaGreatPm3
import Derived.Test.YtnigolgkkjidiaaGreatPm4
set_option linter.unusedVariables false
set_option linter.unusedSimpArgs false
set_option linter.unusedSectionVars false
set_option maxHeartbeats 4000000
namespace Go.Proofs.YtnigolgkkjidiaaGreat
open Go
attribute [local irreducible] SW SL SQ SH SA SS Pu Fin CutF HandF
theorem turn_facts:∀ k,k<32→0<k→(UInt64.ofNat (18446744073709551616-k) &&& 31).toNat=32-k∧(UInt32.ofNat (32-k)).toNat=32-k∧(32:UInt32)-UInt32.ofNat k=UInt32.ofNat (32-k):=by decide +kernel
theorem rot_p(x:UInt32)(k:Nat)(hk:k<32)(h0:0<k):Tri Tryz.prog 301 [u32v x,.int .i64 (-(k:Int))] [] (fun _=>True) (fun v H=>v=u32v (Sha.rotr x (UInt32.ofNat k))∧H=[]):=by
 refine Tri.mk Tryz.func301 rfl Tryz.ntmps301 rfl fun w hw=>?_
 obtain⟨f1,f2,f3⟩:=turn_facts k hk h0
 haveI i1:Cv .u64 (-(k:Int)) ((UInt64.ofNat (18446744073709551616-k)).toNat:Int):=⟨by
  rw [wrapu64,UInt64.toNat_ofNat']
  omega⟩
 haveI i2:U64 31 31:=⟨rfl⟩
 haveI i3:Lt32 ((UInt64.ofNat (18446744073709551616-k) &&& 31).toNat:Int) (UInt32.ofNat (32-k)):=⟨by rw [f1,f2],by rw [f2];omega⟩
 haveI i4:UAr .sub .u64 32 ((UInt64.ofNat (18446744073709551616-k) &&& 31).toNat:Int) (k:Int):=⟨fun P w t=>by
  have h:IntKind.u64.wrap (32-((32-k:Nat):Int))=k:=by rw [wrapu64];omega
  rw [f1]
  simp [binOp,Op.intArith,h]⟩
 haveI i5:Lt32 (k:Int) (UInt32.ofNat k):=⟨by rw [UInt32.toNat_ofNat'];omega,by rw [UInt32.toNat_ofNat'];omega⟩
 repeat' (refine W.go ?_;try intro b_)
 refine F.f1 ?_
 refine⟨?_,rfl⟩
 unfold Sha.rotr u32v
 rw [f3,UInt32.or_comm]
theorem r_p(x:UInt32)(k:Nat)(hk:k<32)(h0:0<k):Tri Tryz.prog 294 [u32v x,.int .i64 (k:Int)] [] (fun _=>True) (fun v H=>v=u32v (Sha.rotr x (UInt32.ofNat k))∧H=[]):=by
 refine Tri.mk Tryz.func294 rfl Tryz.ntmps294 rfl fun w hw=>?_
 repeat' (refine W.go ?_;try intro b_)
 refine W.call (rot_p x k hk h0) ?_
 rintro _ _ ⟨rfl,rfl⟩
 repeat' (refine W.go ?_;try intro b_)
 refine F.f1 ?_
 exact⟨rfl,rfl⟩
theorem small0_p(x:UInt32):Tri Tryz.prog 293 [u32v x] [] (fun _=>True) (fun v H=>v=u32v (Sha.s0 x)∧H=[]):=by
 refine Tri.mk Tryz.func293 rfl Tryz.ntmps293 rfl fun w hw=>?_
 repeat' (refine W.go ?_;try intro b_)
 refine W.call (r_p x 7 (by decide) (by decide)) ?_
 rintro _ _ ⟨rfl,rfl⟩
 repeat' (refine W.go ?_;try intro b_)
 refine W.call (r_p x 18 (by decide) (by decide)) ?_
 rintro _ _ ⟨rfl,rfl⟩
 repeat' (refine W.go ?_;try intro b_)
 refine F.f1 ?_
 exact⟨rfl,rfl⟩
theorem small1_p(x:UInt32):Tri Tryz.prog 292 [u32v x] [] (fun _=>True) (fun v H=>v=u32v (Sha.s1 x)∧H=[]):=by
 refine Tri.mk Tryz.func292 rfl Tryz.ntmps292 rfl fun w hw=>?_
 repeat' (refine W.go ?_;try intro b_)
 refine W.call (r_p x 17 (by decide) (by decide)) ?_
 rintro _ _ ⟨rfl,rfl⟩
 repeat' (refine W.go ?_;try intro b_)
 refine W.call (r_p x 19 (by decide) (by decide)) ?_
 rintro _ _ ⟨rfl,rfl⟩
 repeat' (refine W.go ?_;try intro b_)
 refine F.f1 ?_
 exact⟨rfl,rfl⟩
theorem great0_p(x:UInt32):Tri Tryz.prog 270 [u32v x] [] (fun _=>True) (fun v H=>v=u32v (Sha.S0 x)∧H=[]):=by
 refine Tri.mk Tryz.func270 rfl Tryz.ntmps270 rfl fun w hw=>?_
 repeat' (refine W.go ?_;try intro b_)
 refine W.call (r_p x 2 (by decide) (by decide)) ?_
 rintro _ _ ⟨rfl,rfl⟩
 repeat' (refine W.go ?_;try intro b_)
 refine W.call (r_p x 13 (by decide) (by decide)) ?_
 rintro _ _ ⟨rfl,rfl⟩
 repeat' (refine W.go ?_;try intro b_)
 refine W.call (r_p x 22 (by decide) (by decide)) ?_
 rintro _ _ ⟨rfl,rfl⟩
 repeat' (refine W.go ?_;try intro b_)
 refine F.f1 ?_
 exact⟨rfl,rfl⟩
theorem great1_p(x:UInt32):Tri Tryz.prog 269 [u32v x] [] (fun _=>True) (fun v H=>v=u32v (Sha.S1 x)∧H=[]):=by
 refine Tri.mk Tryz.func269 rfl Tryz.ntmps269 rfl fun w hw=>?_
 repeat' (refine W.go ?_;try intro b_)
 refine W.call (r_p x 6 (by decide) (by decide)) ?_
 rintro _ _ ⟨rfl,rfl⟩
 repeat' (refine W.go ?_;try intro b_)
 refine W.call (r_p x 11 (by decide) (by decide)) ?_
 rintro _ _ ⟨rfl,rfl⟩
 repeat' (refine W.go ?_;try intro b_)
 refine W.call (r_p x 25 (by decide) (by decide)) ?_
 rintro _ _ ⟨rfl,rfl⟩
 repeat' (refine W.go ?_;try intro b_)
 refine F.f1 ?_
 exact⟨rfl,rfl⟩
theorem be_step(bs:List UInt8)(j:Nat)(c:UInt8)(h:bs[j]?=some c):Sha.be (bs.take (j+1))=(Sha.be (bs.take j) <<< 8) ||| c.toUInt32:=by
 unfold Sha.be
 rw [List.take_add_one,h,Option.toList_some,List.foldl_append];rfl
theorem high_p(v:Value)(bs:List UInt8)(h4:bs.length≤4):Tri Tryz.prog 291 [v] [] (fun w=>Rd [] w 1 v (cbs bs)) (fun v' H=>v'=u32v (Sha.be bs)∧H=[]):=by
 refine Tri.mk Tryz.func291 rfl Tryz.ntmps291 rfl fun w hw=>?_
 obtain⟨a,len,cap,rfl,hl,hc,hr⟩:=hw.get
 rw [List.length_map,Nat.mul_one] at hl
 repeat' (refine W.gb ?_;try intro b_)
 refine SW.cut [] [] (fun _:Unit=>[(3,u32v (Sha.be bs))]) (fun _=>[]) (fun _=>True) ?_ ?_
 ·repeat' (refine W.go ?_;try intro b_)
  refine SW.loopG [6,7] [] (fun j:Nat=>[(3,u32v (Sha.be (bs.take j))),(8,.int .i64 (j:Int))]) (fun _=>[]) (fun j=>len-j) (fun j=>j≤len) 0 (by omega) ?_
  intro j hj
  by_cases hjl:j<len
  ·obtain⟨blk,ob,l,T,fz,rfl,hb,hbk,hys⟩:=hr (by omega)
   obtain⟨c,hc⟩:∃ c,bs[j]?=some c:=⟨_,List.getElem?_eq_getElem (by omega)⟩
   have hlc:l[ob+j]?=some (.int .u8 (c.toNat:Int)):=take_get hys (by rw [List.getElem?_map,hc];rfl)
   have e:=be_step bs j c hc
   repeat' (refine W.go ?_;try intro b_)
   rw [← e]
   refine HandF.mk (j+1) ?_
   exact hjl
  ·have:j=len:=by omega
   subst this
   rw [List.take_of_length_le (by omega)]
   repeat' (refine W.go ?_;try intro b_)
   refine CutF.mk () ?_
   trivial
 rintro _ -
 repeat' (refine W.go ?_;try intro b_)
 refine F.f1 ?_
 exact⟨rfl,rfl⟩
theorem sch_lo(bs:List UInt8){t:Nat}(h:t<16):Sha.sch bs (t+1)=Sha.sch bs t++[Sha.be ((bs.drop (4*t)).take 4)]:=by
 show Sha.sch bs t++[if t<16 then _ else _]=_
 rw [if_pos h]
theorem sch_hi(bs:List UInt8){t:Nat}(h:¬ t<16):Sha.sch bs (t+1)=Sha.sch bs t++[Sha.s1 ((Sha.sch bs t).getD (t-2) 0)+(Sha.sch bs t).getD (t-7) 0+Sha.s0 ((Sha.sch bs t).getD (t-15) 0)+(Sha.sch bs t).getD (t-16) 0]:=by
 show Sha.sch bs t++[if t<16 then _ else _]=_
 rw [if_neg h]
def schC(bs:List UInt8)(t:Nat):List Value:=(Sha.sch bs t).map u32v++List.replicate (64-t) (u32v 0)
theorem schC_len(bs:List UInt8){t:Nat}(h:t≤64):(schC bs t).length=64:=by simp [schC,Sha.sch_len];omega
instance(bs:List UInt8)(t:Nat):OC (schC bs t):=by unfold schC;infer_instance
theorem schC_set(bs:List UInt8){t:Nat}(h:t<64){x:UInt32}(hx:Sha.sch bs (t+1)=Sha.sch bs t++[x]):(schC bs t).set t (u32v x)=schC bs (t+1):=by
 unfold schC
 rw [hx,List.set_append_right _ _ (by simp [Sha.sch_len]),List.length_map,Sha.sch_len,Nat.sub_self,show 64-t=(64-(t+1))+1 by omega,List.replicate_succ,List.set_cons_zero]
 simp
theorem schC_at(bs:List UInt8){t j:Nat}(h:j<t):(schC bs t)[j]?=some (u32v ((Sha.sch bs t).getD j 0)):=by
 have hl:=Sha.sch_len bs t
 unfold schC
 rw [List.getElem?_append_left (by simp [hl];exact h),List.getElem?_map,List.getD,List.getElem?_eq_getElem (by omega)];rfl
theorem schedule_p(a:Option Addr)(cap:Nat)(bs:List UInt8)(hb:bs.length=64):Tri Tryz.prog 268 [.slice a 64 cap] [] (fun w=>Rd [] w 1 (.slice a 64 cap) (cbs bs)) (fun v' H=>v'=.agg (schC bs 64).toArray∧H=[]):=by
 refine Tri.mk Tryz.func268 rfl Tryz.ntmps268 rfl fun w hw=>?_
 have hw2:=hw
 obtain⟨a',len,cap',e,hl,hc,hr⟩:=hw.get
 cases e
 obtain⟨blk,ob,l,T,fz,rfl,hb2,hbk,hys⟩:=hr (by omega)
 repeat' (refine W.gb ?_;try intro b_)
 rename_i b2
 rw [show List.replicate 64 (Value.int .u32 0)=schC bs 0 from rfl]
 refine SW.cutH [2,3] [(b2,cl (schC bs 0) 397),(b_,cl (schC bs 0) 397)] (fun _=>[]) (fun _:Unit=>[(b2,cl (schC bs 0) 397),(b_,cl (schC bs 64) 397)]) (fun _=>True) ?_ ?_
 ·repeat' (refine W.go ?_;try intro b_)
  refine SW.loopG [0,2,3] [b_] (fun t:Nat=>[(5,.int .i64 (t:Int))]) (fun t=>[(b_,cl (schC bs t) 397)]) (fun t=>64-t) (fun t=>t≤64) 0 (by omega) ?_
  intro t ht
  by_cases ht64:t<64
  ·have hlen:t<(schC bs t).length:=by rw [schC_len bs ht];exact ht64
   by_cases h16:t<16
   ·repeat' (refine W.go ?_;try intro b_)
    have hsub:=hw2.sub (4*t) (4*t+4) (cap-4*t) (by omega) (by omega) (by omega)
    rw [show 4*t+4-4*t=4 by omega] at hsub ⊢
    refine W.call (high_p _ ((bs.drop (4*t)).take 4) (by simp;omega)) ?_ rfl (fun w2 hs=>hsub.ro (Hc:=[]) hs)
    rintro _ _ ⟨rfl,rfl⟩
    repeat' (refine W.go ?_;try intro b_)
    rw [schC_set bs ht64 (sch_lo bs h16)]
    refine HandF.mk (t+1) ?_
    omega
   ·have g2:=schC_at bs (show t-2<t by omega)
    have g7:=schC_at bs (show t-7<t by omega)
    have g15:=schC_at bs (show t-15<t by omega)
    have g16:=schC_at bs (show t-16<t by omega)
    haveI n2:NatI ((t:Int)-2) (t-2):=⟨by omega⟩
    haveI n7:NatI ((t:Int)-7) (t-7):=⟨by omega⟩
    haveI n15:NatI ((t:Int)-15) (t-15):=⟨by omega⟩
    haveI n16:NatI ((t:Int)-16) (t-16):=⟨by omega⟩
    have hs:=schC_set bs ht64 (sch_hi bs h16)
    generalize (Sha.sch bs t).getD (t-2) 0=x2 at g2 hs
    generalize (Sha.sch bs t).getD (t-7) 0=x7 at g7 hs
    generalize (Sha.sch bs t).getD (t-15) 0=x15 at g15 hs
    generalize (Sha.sch bs t).getD (t-16) 0=x16 at g16 hs
    repeat' (refine W.go ?_;try intro b_)
    (refine SW.regionS [23] ?_ (by kernel_rfl);refine SS.T 0 rfl ?_;refine SS.T 1 rfl ?_;refine SS.T 2 rfl ?_;refine SS.T 3 rfl ?_;(first|refine SS.ls 4 [23] rfl ?_|refine SS.sR 4 rfl ?_);refine SS.T 6 rfl ?_;refine SS.T 7 rfl ?_;refine SS.T 8 rfl ?_;(first|refine SS.ls 9 [23] rfl ?_|refine SS.sR 9 rfl ?_);refine SS.T 11 rfl ?_;refine SS.T 12 rfl ?_;refine SS.T 13 rfl ?_;(first|refine SS.ls 14 [23] rfl ?_|refine SS.sR 14 rfl ?_);refine SS.T 17 rfl ?_;refine SS.T 18 rfl ?_;refine SS.T 19 rfl ?_;(first|refine SS.ls 20 [23] rfl ?_|refine SS.sR 20 rfl ?_);refine SS.effK 5 ?_ rfl (by kernel_rfl))
    refine W.call (small1_p _) ?_
    rintro _ _ ⟨rfl,rfl⟩
    (refine SL.nilB ?_;refine SS.T 10 rfl ?_;refine SS.effK 15 ?_ rfl (by kernel_rfl))
    refine W.call (small0_p _) ?_
    rintro _ _ ⟨rfl,rfl⟩
    (refine SL.nilB ?_;refine SS.T 16 rfl ?_;refine SS.T 21 rfl ?_;refine SS.T 22 rfl ?_;refine SS.effB 23 ?_ rfl (by kernel_rfl);(repeat' (refine W.g1 ?_;try intro b_));refine SS.done ?_ (by kernel_rfl))
    rw [hs]
    repeat' (refine W.go ?_;try intro b_)
    refine HandF.mk (t+1) ?_
    omega
  ·have:t=64:=by omega
   subst this
   repeat' (refine W.go ?_;try intro b_)
   refine CutF.mk () ?_
   trivial
 rintro _ -
 have hl64:(schC bs 64).length=64:=schC_len bs (by omega)
 have hoc:OC (schC bs 64):=inferInstance
 generalize schC bs 64=Z at hl64 hoc ⊢
 repeat' (refine W.go ?_;try intro b_)
 refine F.c0 Z ?_
 exact⟨rfl,rfl⟩
end Go.Proofs.YtnigolgkkjidiaaGreat
namespace Go.Proofs.YtnigolgkkjidiaaGreat
open Go
attribute [local irreducible] SW SL SQ SH SA SS Pu Fin CutF HandF
def s8c(s:S8):List Value:=[u32v s.a,u32v s.b,u32v s.c,u32v s.d,u32v s.e,u32v s.f,u32v s.g,u32v s.h]
instance(s:S8):OC (s8c s):=by unfold s8c;infer_instance
def hc(tp:Nat)(s:S8)(rv:Value)(n:Int):List Value:=[.pointer (some ⟨tp,0,none⟩),u32v s.a,u32v s.b,u32v s.c,u32v s.d,u32v s.e,u32v s.f,u32v s.g,u32v s.h,rv,.int .i64 n]
instance(tp:Nat)(s:S8)(rv:Value)(n:Int) [One rv]:OC (hc tp s rv n):=by unfold hc;infer_instance
def S8.get(s:S8):Nat→UInt32
 | 0=>s.a
 | 1=>s.b
 | 2=>s.c
 | 3=>s.d
 | 4=>s.e
 | 5=>s.f
 | 6=>s.g
 | _=>s.h
def stk(s r:S8)(k:Nat):S8:=⟨if 0<k then s.a+r.a else s.a,if 1<k then s.b+r.b else s.b,if 2<k then s.c+r.c else s.c,if 3<k then s.d+r.d else s.d,if 4<k then s.e+r.e else s.e,if 5<k then s.f+r.f else s.f,if 6<k then s.g+r.g else s.g,if 7<k then s.h+r.h else s.h⟩
theorem lt8{k:Nat}(h:k<8):k=0∨k=1∨k=2∨k=3∨k=4∨k=5∨k=6∨k=7:=by omega
theorem s8c_at(s:S8){k:Nat}(h:k<8):(s8c s)[k]?=some (u32v (s.get k)):=by
 rcases lt8 h with rfl|rfl|rfl|rfl|rfl|rfl|rfl|rfl <;> rfl
theorem hc_at(tp:Nat)(s:S8)(rv:Value)(n:Int){k:Nat}(h:k<8):(hc tp s rv n)[1+k]?=some (u32v (s.get k)):=by
 rcases lt8 h with rfl|rfl|rfl|rfl|rfl|rfl|rfl|rfl <;> rfl
theorem hc_set(tp:Nat)(s r:S8)(rv:Value)(n:Int){k:Nat}(h:k<8):(hc tp (stk s r k) rv n).set (1+k) (u32v ((stk s r k).get k+r.get k))=hc tp (stk s r (k+1)) rv n:=by
 rcases lt8 h with rfl|rfl|rfl|rfl|rfl|rfl|rfl|rfl <;> rfl
theorem stk_8(s r:S8):stk s r 8=Sha.plus s r:=rfl
theorem tabC_at{t:Nat}(h:t<64):tabC[t]?=some (u32v (Sha.tabK.getD t 0)):=by
 unfold tabC
 rw [List.getElem?_append_left (by rw [rowT_len];exact h),rowT_at h]
theorem block_p{p tp:Nat}(s:S8)(rv:Value) [hrv:One rv](n:Int)(a:Option Addr)(cap:Nat)(bs:List UInt8)(hb:bs.length=64) :
  Tri Tryz.prog 224 [.pointer (some ⟨p,0,none⟩),.slice a 64 cap] [(p,cl (hc tp s rv n) 365),(tp,cl tabC 239)] (fun w=>Rd [p,tp] w 1 (.slice a 64 cap) (cbs bs))
   (fun v H=>v=.tuple #[]∧H=[(p,cl (hc tp (Sha.blk s bs) rv n) 365),(tp,cl tabC 239)]):=by
 refine Tri.mk Tryz.func224 rfl Tryz.ntmps224 rfl fun w hw=>?_
 have hlen:(hc tp s rv n).length=11:=rfl
 have hs8:((hc tp s rv n).drop 1).take 8=s8c s:=rfl
 have htab:∀ t,t<64→tabC[t]?=some (u32v (Sha.tabK.getD t 0)):=fun t h=>tabC_at h
 generalize tabC=TC at htab ⊢
 repeat' (refine W.gb ?_;try intro b_)
 refine W.call (schedule_p a cap bs hb) ?_ rfl (fun w2 hs=>hw.ro (Hc:=[]) hs)
 rintro _ _ ⟨rfl,rfl⟩
 have hZ:∀ t,t<64→(schC bs 64)[t]?=some (u32v ((Sha.sch bs 64).getD t 0)):=fun t h=>schC_at bs h
 have hZl:(schC bs 64).length=64:=schC_len bs (by omega)
 have hZo:OC (schC bs 64):=inferInstance
 generalize schC bs 64=Z at hZ hZl hZo ⊢
 repeat' (refine W.gb ?_;try intro b_)
 rename_i b4
 have hzz:Sha.rnds s bs 0=s:=rfl
 rw [show s8c s=s8c (Sha.rnds s bs 0) from rfl]
 refine SW.cut [0,5] [b_] (fun _:Unit=>[]) (fun _=>[(b_,cl (s8c (Sha.rnds s bs 64)) 363)]) (fun _=>True) ?_ ?_
 ·repeat' (refine W.go ?_;try intro b_)
  refine SW.loopG [0,4,5] [b_] (fun t:Nat=>[(18,.int .i64 (t:Int))]) (fun t=>[(b_,cl (s8c (Sha.rnds s bs t)) 363)]) (fun t=>64-t) (fun t=>t≤64) 0 (by omega) ?_
  intro t ht
  by_cases ht64:t<64
  ·have hT:=htab t ht64
   have hW:=hZ t ht64
   have hstep:Sha.rnds s bs (t+1)=Sha.rnd (Sha.rnds s bs t) (Sha.tabK.getD t 0) ((Sha.sch bs 64).getD t 0):=rfl
   generalize Sha.rnds s bs t=S at hstep ⊢
   generalize Sha.tabK.getD t 0=K at hT hstep
   generalize (Sha.sch bs 64).getD t 0=wt at hW hstep
   have htl:t<TC.length:=(List.getElem?_eq_some_iff.1 hT).1
   have hzl:t<Z.length:=by omega
   have hbd:bfill (fun i=>some (i*1,1)) (List.replicate 8 (.int .u32 0)) [(0,u32v (Sha.t1 S K wt+Sha.t2 S)),(1,u32v S.a),(2,u32v S.b),(3,u32v S.c),(4,u32v (S.d+Sha.t1 S K wt)),(5,u32v S.e),(6,u32v S.f),(7,u32v S.g)]=some (s8c (Sha.rnd S K wt)):=rfl
   repeat' (refine W.go ?_;try intro b_)
   refine SW.fr [0,4,5,6,7,8,18] ?_
   rw [show (S.e &&& S.f ^^^ ~~~S.e &&& S.g)=Sha.ch S.e S.f S.g from rfl,show (S.a &&& S.b ^^^ S.a &&& S.c ^^^ S.b &&& S.c)=Sha.maj S.a S.b S.c from rfl]
   (refine SW.regionS [] ?_ (by kernel_rfl);refine SS.T 0 rfl ?_;(first|refine SS.ls 1 [] rfl ?_|refine SS.sR 1 rfl ?_);refine SS.T 2 rfl ?_;(first|refine SS.ls 3 [] rfl ?_|refine SS.sR 3 rfl ?_);refine SS.T 6 rfl ?_;refine SS.T 8 rfl ?_;refine SS.T 9 rfl ?_;refine SS.T 10 rfl ?_;(first|refine SS.ls 11 [] rfl ?_|refine SS.sR 11 rfl ?_);refine SS.T 12 rfl ?_;refine SS.T 13 rfl ?_;refine SS.T 14 rfl ?_;refine SS.T 15 rfl ?_;(first|refine SS.ls 16 [] rfl ?_|refine SS.sR 16 rfl ?_);refine SS.T 18 rfl ?_;refine SS.T 19 rfl ?_;(first|refine SS.ls 20 [] rfl ?_|refine SS.sR 20 rfl ?_);refine SS.effK 4 ?_ rfl (by kernel_rfl))
   refine W.call (great1_p _) ?_
   rintro _ _ ⟨rfl,rfl⟩
   (refine SL.nilB ?_;refine SS.T 5 rfl ?_;refine SS.T 7 rfl ?_;refine SS.T 17 rfl ?_;refine SS.T 21 rfl ?_;refine SS.T 22 rfl ?_;refine SS.done ?_ (by kernel_rfl))
   refine SW.fr [0,4,5,8,9,18] ?_
   rw [show S.h+Sha.S1 S.e+Sha.ch S.e S.f S.g+K+wt=Sha.t1 S K wt from rfl]
   repeat' (refine W.go ?_;try intro b_)
   refine W.call (great0_p _) ?_
   rintro _ _ ⟨rfl,rfl⟩
   repeat' (refine W.go ?_;try intro b_)
   rw [← hstep]
   refine HandF.mk (t+1) ?_
   omega
  ·have:t=64:=by omega
   subst this
   repeat' (refine W.go ?_;try intro b_)
   refine CutF.mk () ?_
   trivial
 rintro _ -
 have hfin:Sha.blk s bs=Sha.plus s (Sha.rnds s bs 64):=rfl
 rw [hfin]
 clear hfin
 generalize Sha.rnds s bs 64=S
 have hzz2:stk s S 0=s:=rfl
 rw [show hc tp s rv n=hc tp (stk s S 0) rv n from rfl]
 repeat' (refine W.go ?_;try intro b_)
 refine SW.loopG [0,5] [p] (fun k:Nat=>[(98,.int .i64 (k:Int))]) (fun k=>[(p,cl (hc tp (stk s S k) rv n) 365)]) (fun k=>8-k) (fun k=>k≤8) 0 (by omega) ?_
 intro k hk
 by_cases hk8:k<8
 ·have h1:=hc_at tp (stk s S k) rv n hk8
  have h2:=s8c_at S hk8
  have h3:=hc_set tp s S rv n hk8
  have hl1:1+k<(hc tp (stk s S k) rv n).length:=by show _<11;omega
  have hAo:OC (hc tp (stk s S k) rv n):=inferInstance
  generalize hc tp (stk s S k) rv n=A at h1 h3 hl1 hAo ⊢
  generalize (stk s S k).get k=x at h1 h3
  generalize S.get k=y at h2 h3
  repeat' (refine W.go ?_;try intro b_)
  (refine SW.regionS [13] ?_ (by kernel_rfl);refine SS.T 0 rfl ?_;refine SS.T 1 rfl ?_;refine SS.T 2 rfl ?_;refine SS.T 3 rfl ?_;refine SS.T 4 rfl ?_;(first|refine SS.ls 5 [13] rfl ?_|refine SS.sR 5 rfl ?_);refine SS.T 6 rfl ?_;refine SS.T 7 rfl ?_;(first|refine SS.ls 8 [13] rfl ?_|refine SS.sR 8 rfl ?_);refine SS.T 9 rfl ?_;refine SS.T 10 rfl ?_;refine SS.T 11 rfl ?_;refine SS.T 12 rfl ?_;refine SS.effB 13 ?_ rfl (by kernel_rfl);(repeat' (refine W.g1 ?_;try intro b_));refine SS.done ?_ (by kernel_rfl))
  rw [h3]
  repeat' (refine W.go ?_;try intro b_)
  refine HandF.mk (k+1) ?_
  omega
 ·have:k=8:=by omega
  subst this
  rw [stk_8]
  repeat' (refine W.go ?_;try intro b_)
  refine Fin.to [(p,cl (hc tp (Sha.plus s S) rv n) 365),(tp,cl TC 239)] ?_
  refine F.f0 ?_
  exact⟨rfl,rfl⟩
end Go.Proofs.YtnigolgkkjidiaaGreat
namespace Go.Proofs.YtnigolgkkjidiaaGreat
open Go
attribute [local irreducible] SW SL SQ SH SA SS Pu Fin CutF HandF
def byU(v:UInt64)(k:Nat):UInt8:=(v >>> UInt64.ofNat (8*k)).toUInt8
theorem byU_eq(v:UInt64){k:Nat}(hk:k<8):byU v k=UInt8.ofNat (v.toNat/256^k):=by
 have h1:(UInt64.ofNat (8*k)).toNat=8*k:=by rw [UInt64.toNat_ofNat'];omega
 apply UInt8.toNat_inj.1
 unfold byU
 rw [UInt64.toNat_toUInt8,UInt64.toNat_shiftRight,h1,UInt8.toNat_ofNat',Nat.shiftRight_eq_div_pow,Nat.mod_eq_of_lt (show 8*k<64 by omega),Nat.pow_mul]
theorem beN_by(v:UInt64){n:Nat}(hn:n≤8):Sha.beN n v.toNat=(List.range n).map fun k=>byU v (n-1-k):=by
 unfold Sha.beN
 apply List.map_congr_left
 intro k hk
 rw [byU_eq v (by have:=List.mem_range.1 hk;omega)]
abbrev numV(n:Nat)(v:UInt64):Value:=.agg [(.int .i64 (n:Int):Value),u64v v].toArray
theorem up_p(n:Nat)(v:UInt64)(k:Nat)(hk:k<8):Tri Tryz.prog 209 [numV n v,.int .i64 (k:Int)] [] (fun _=>True) (fun r H=>r=.int .u8 ((byU v k).toNat:Int)∧H=[]):=by
 refine Tri.mk Tryz.func209 rfl Tryz.ntmps209 rfl fun w hw=>?_
 haveI i1:Lt64 (8*(k:Int)) (UInt64.ofNat (8*k)):=⟨by rw [UInt64.toNat_ofNat'];omega,by rw [UInt64.toNat_ofNat'];omega⟩
 repeat' (refine W.go ?_;try intro b_)
 refine Fin.to [] ?_
 refine F.f1 ?_
 exact⟨rfl,rfl⟩
theorem down_p(n:Nat)(v:UInt64)(k:Nat)(hn:n≤8)(hk:k<n):Tri Tryz.prog 271 [numV n v,.int .i64 (k:Int)] [] (fun _=>True) (fun r H=>r=.int .u8 ((byU v (n-1-k)).toNat:Int)∧H=[]):=by
 refine Tri.mk Tryz.func271 rfl Tryz.ntmps271 rfl fun w hw=>?_
 repeat' (refine W.go ?_;try intro b_)
 refine W.callE (up_p n v (n-1-k) (by omega)) ?_ ?_
 ·rw [show ((n:Int)-1-(k:Int))=((n-1-k:Nat):Int) by omega]
 rintro _ _ ⟨rfl,rfl⟩
 repeat' (refine W.go ?_;try intro b_)
 refine Fin.to [] ?_
 refine F.f1 ?_
 exact⟨rfl,rfl⟩
def fillB(g:Nat→UInt8)(n k:Nat):List UInt8:=(List.range k).map g++List.replicate (n-k) 0
theorem fillB_len(g:Nat→UInt8){n k:Nat}(h:k≤n):(fillB g n k).length=n:=by simp [fillB];omega
theorem fillB_set(g:Nat→UInt8){n k:Nat}(h:k<n):(cbs (fillB g n k)).set k (.int .u8 ((g k).toNat:Int))=cbs (fillB g n (k+1)):=by
 unfold fillB
 unfold cbs
 rw [List.map_append,List.set_append_right _ _ (by simp),List.length_map,List.length_map,List.length_range,Nat.sub_self,show n-k=(n-(k+1))+1 by omega,List.replicate_succ,List.map_cons,List.set_cons_zero,List.range_succ]
 simp
theorem fillB_all(g:Nat→UInt8)(n:Nat):fillB g n n=(List.range n).map g:=by simp [fillB]
theorem bytes_p(n:Nat)(v:UInt64)(g:Nat→UInt8)(f:FuncId) [IsFn Tryz.prog f](us:List Value)(hn:1≤n)(hn8:n≤8)(hg:∀ k,k<n→Tri Tryz.prog f (us++[.int .i64 (k:Int)]++[]) [] (fun _=>True) (fun r H=>r=.int .u8 ((g k).toNat:Int)∧H=[])) :
  Tri Tryz.prog 208 [numV n v,.func (.func f) us.toArray #[]] [] (fun _=>True) (fun r H=>∃ b,r=.slice (some ⟨b,0,none⟩) n n∧H=[(b,cl (cbs ((List.range n).map g)) 5)]):=by
 refine Tri.mk Tryz.func208 rfl Tryz.ntmps208 rfl fun w hw=>?_
 repeat' (refine W.gb ?_;try intro b_)
 rw [show zs [.int .u8 0] n=cbs (fillB g n 0) by rw [zs_one];simp [fillB]]
 refine SW.cut [5] [b_] (fun _:Unit=>[]) (fun _=>[(b_,cl (cbs (fillB g n n)) 5)]) (fun _=>True) ?_ ?_
 ·repeat' (refine W.go ?_;try intro b_)
  refine SW.loopG [1,5,19] [b_] (fun k:Nat=>[(20,.int .i64 (k:Int))]) (fun k=>[(b_,cl (cbs (fillB g n k)) 5)]) (fun k=>n-k) (fun k=>k≤n) 0 (by omega) ?_
  intro k hk
  by_cases hkn:k<n
  ·have hlen:k<(cbs (fillB g n k)).length:=by rw [List.length_map,fillB_len g hk];exact hkn
   repeat' (refine W.go ?_;try intro b_)
   refine SL.callv [] rfl rfl rfl rfl rfl rfl (hg k hkn) (fun _ _=>trivial) ?_
   rintro _ _ ⟨rfl,rfl⟩
   repeat' (refine W.go ?_;try intro b_)
   rw [fillB_set g hkn]
   refine HandF.mk (k+1) ?_
   omega
  ·have:k=n:=by omega
   subst this
   repeat' (refine W.go ?_;try intro b_)
   refine CutF.mk () ?_
   trivial
 rintro _ -
 repeat' (refine W.go ?_;try intro b_)
 rw [fillB_all]
 refine Fin.to [(b_,cl (cbs ((List.range n).map g)) 5)] ?_
 refine F.f1 ?_
 exact⟨b_,rfl,rfl⟩
theorem high_n(n:Nat)(v:UInt64)(hn:1≤n)(hn8:n≤8):Tri Tryz.prog 226 [.int .i64 (n:Int),u64v v] [] (fun _=>True) (fun r H=>∃ b,r=.slice (some ⟨b,0,none⟩) n n∧H=[(b,cl (cbs (Sha.beN n v.toNat)) 5)]):=by
 refine Tri.mk Tryz.func226 rfl Tryz.ntmps226 rfl fun w hw=>?_
 repeat' (refine W.go ?_;try intro b_)
 refine W.call (bytes_p n v (fun k=>byU v (n-1-k)) 271 [numV n v] hn hn8 (fun k hk=>down_p n v k hn8 hk)) ?_
 rintro _ _ ⟨b,rfl,rfl⟩
 repeat' (refine W.go ?_;try intro b_)
 rw [← beN_by v hn8]
 refine Fin.to [(b,cl (cbs (Sha.beN n v.toNat)) 5)] ?_
 refine F.f1 ?_
 exact⟨b,rfl,rfl⟩
theorem Pad_p(n:Nat)(hn:n≤1099511627776):Tri Tryz.prog 225 [.int .i64 (n:Int)] [] (fun _=>True) (fun r H=>Sl 5 1 r (cbs (Sha.padN n)) H):=by
 refine Tri.mk Tryz.func225 rfl Tryz.ntmps225 rfl fun w hw=>?_
 haveI i1:NatI ((119-(n:Int)%64)%64) ((119-n%64)%64):=⟨by omega⟩
 have hv8:(8*UInt64.ofNat n).toNat=8*n:=by
  have e8:(8:UInt64).toNat=8:=rfl
  rw [UInt64.toNat_mul,UInt64.toNat_ofNat',e8];omega
 repeat' (refine W.go ?_;try intro b_)
 have h1:Sl 5 1 (.slice (some ⟨b_,0,none⟩) 1 1) [.int .u8 128] [(b_,cl (([.int .u8 128]:List Value)++[]) 5)]:=Sl.mk (len:=1) (cap:=1) rfl rfl (Nat.le_refl _)
 refine W.apz h1 ?_ (bytes:=1) (hp:=Part.self _) (hbytes:=by simp only [List.length_cons,List.length_nil];omega)
 intro v1 H1 h2
 have hV:=h2.isOne
 obtain⟨a,len,cap,rfl,hl⟩:=h2.form
 repeat' (refine W.go ?_;try intro b_)
 refine W.callE (high_n 8 (8*UInt64.ofNat n) (by omega) (by omega)) rfl ?_
 rintro _ _ ⟨b2,rfl,rfl⟩
 rw [hv8]
 refine W.ap (ys:=cbs (Sha.beN 8 (8*n))) (mm:=8) h2 (fun w hs=>?_) ?_ (hys:=by simp [Sha.beN_len]) (hbytes:=by simp [Sha.beN_len];omega)
 ·exact SrcOf.block hs.at (by rw [List.drop_zero,List.take_of_length_le (by simp [Sha.beN_len])]) (by simp [Sha.beN_len])
 intro v3 H3 h3
 have:=h3.isOne
 repeat' (refine W.go ?_;try intro b_)
 refine Fin.to H3 ?_
 refine F.f1 ?_
 have e:cbs (Sha.padN n)=[.int .u8 128]++List.replicate ((119-n%64)%64) (.int .u8 0)++cbs (Sha.beN 8 (8*n)):=by simp [Sha.padN]
 rw [e]
 exact h3
end Go.Proofs.YtnigolgkkjidiaaGreat
namespace Go.Proofs.YtnigolgkkjidiaaGreat
open Go
attribute [local irreducible] SW SL SQ SH SA SS Pu Fin CutF HandF
namespace Sha
theorem absN_snd:∀ (j:Nat) (s:S8) (m:List UInt8),(absN j s m).2=m.drop (64*j)
 | 0,s,m=>by simp [absN]
 | j+1,s,m=>by
  rw [absN,absN_snd j,List.drop_drop]
  congr 1
  omega
theorem absN_fst:∀ (j:Nat) (s:S8) (m:List UInt8),(absN (j+1) s m).1=blk (absN j s m).1 ((m.drop (64*j)).take 64)
 | 0,s,m=>by simp [absN]
 | j+1,s,m=>by
  rw [absN,absN_fst j,absN,List.drop_drop]
  congr 3
  omega
end Sha
def iniK(k:Nat):S8:=⟨if 0<k then Sha.ini.a else 0,if 1<k then Sha.ini.b else 0,if 2<k then Sha.ini.c else 0,if 3<k then Sha.ini.d else 0,if 4<k then Sha.ini.e else 0,if 5<k then Sha.ini.f else 0,if 6<k then Sha.ini.g else 0,if 7<k then Sha.ini.h else 0⟩
theorem iniK_set(tp:Nat)(rv:Value)(n:Int){k:Nat}(h:k<8):(hc tp (iniK k) rv n).set (1+k) (u32v (Sha.tabH.getD k 0))=hc tp (iniK (k+1)) rv n:=by
 rcases lt8 h with rfl|rfl|rfl|rfl|rfl|rfl|rfl|rfl <;> rfl
theorem New_p(tp:Nat):Tri Tryz.prog 172 [.pointer (some ⟨tp,0,none⟩)] [(tp,cl tabC 239)] (fun _=>True)
  (fun v H=>∃ p,v=.pointer (some ⟨p,0,none⟩)∧H=[(p,cl (hc tp Sha.ini (.slice none 0 0) 0) 365),(tp,cl tabC 239)]):=by
 refine Tri.mk Tryz.func172 rfl Tryz.ntmps172 rfl fun w hw=>?_
 have hT:(tabC.drop 64).take 8=rowT 8 Sha.tabH 8:=by
  unfold tabC
  rw [List.drop_left' (rowT_len _ _ _),List.take_of_length_le (by rw [rowT_len];exact Nat.le_refl _)]
 generalize tabC=TC at hT ⊢
 repeat' (refine W.gb ?_;try intro b_)
 rw [show (List.take 0 ([Value.pointer none]++List.replicate 8 (Value.int .u32 0)++[Value.slice none 0 0]++[Value.int .i64 0])++vl (.pointer (some ⟨tp,0,none⟩))++List.drop (0+1) ([Value.pointer none]++List.replicate 8 (Value.int .u32 0)++[Value.slice none 0 0]++[Value.int .i64 0]))=hc tp (iniK 0) (.slice none 0 0) 0 from rfl]
 refine SW.cutH [3] [(b_,cl (hc tp (iniK 0) (.slice none 0 0) 0) 365)] (fun _:Unit=>[]) (fun _=>[(b_,cl (hc tp (iniK 8) (.slice none 0 0) 0) 365)]) (fun _=>True) ?_ ?_
 ·repeat' (refine W.go ?_;try intro b_)
  refine SW.loopF [3,14] (fun k:Nat=>[(15,.int .i64 (k:Int))]) (fun k=>[(b_,cl (hc tp (iniK k) (.slice none 0 0) 0) 365)]) (fun k=>8-k) (fun k=>k≤8) 0 (by omega) ?_
  intro k hk
  by_cases hk8:k<8
  ·have h1:(rowT 8 Sha.tabH 8)[k]?=some (u32v (Sha.tabH.getD k 0)):=rowT_at hk8
   have h3:=iniK_set tp (.slice none 0 0) 0 hk8
   have hl1:1+k<(hc tp (iniK k) (.slice none 0 0) 0).length:=by show _<11;omega
   have hAo:OC (hc tp (iniK k) (.slice none 0 0) 0):=inferInstance
   generalize hc tp (iniK k) (.slice none 0 0) 0=A at h3 hl1 hAo ⊢
   generalize Sha.tabH.getD k 0=y at h1 h3
   repeat' (refine W.go ?_;try intro b_)
   rw [h3]
   refine HandF.mk (k+1) ?_
   omega
  ·have:k=8:=by omega
   subst this
   repeat' (refine W.go ?_;try intro b_)
   refine CutF.mk () ?_
   trivial
 rintro _ -
 rw [show iniK 8=Sha.ini from rfl]
 repeat' (refine W.go ?_;try intro b_)
 refine F.f1 ?_
 exact⟨b_,rfl,rfl⟩
end Go.Proofs.YtnigolgkkjidiaaGreat
namespace Go.Proofs.YtnigolgkkjidiaaGreat
open Go
attribute [local irreducible] SW SL SQ SH SA SS Pu Fin CutF HandF
abbrev absI(M:List UInt8):S8×List UInt8:=Sha.absorb Sha.ini M
theorem absI_app(M k:List UInt8):absI (M++k)=Sha.absorb (absI M).1 ((absI M).2++k):=Sha.absorb_app k _ _ _ (Nat.le_refl _)
theorem absI_len(M:List UInt8):(absI M).2.length=M.length%64:=Sha.absorb_len _ _ _ (Nat.le_refl _)
theorem take_flat(bss:List (List UInt8)){i:Nat}{bs:List UInt8}(h:bss[i]?=some bs):(bss.take (i+1)).flatten=(bss.take i).flatten++bs:=by
 rw [List.take_add_one,h,Option.toList_some,List.flatten_append];simp
theorem flat_le(bss:List (List UInt8))(i:Nat):(bss.take i).flatten.length≤bss.flatten.length:=by
 have:bss.flatten=(bss.take i).flatten++(bss.drop i).flatten:=by rw [← List.flatten_append,List.take_append_drop]
 rw [this,List.length_append];omega
theorem Write_p{p tp:Nat}(M:List UInt8)(n:Nat)(bss:List (List UInt8)){rv:Value}{Hs:Hp}(hrv:Sl 5 1 rv (cbs (absI M).2) Hs)(pv:Value)(hn:n+bss.flatten.length≤1099511627776)(hn2:bss.length≤1099511627776) :
  Tri Tryz.prog 173 [.pointer (some ⟨p,0,none⟩),pv] ((p,cl (hc tp (absI M).1 rv n) 365)::(tp,cl tabC 239)::Hs) (fun w=>RdS (p::tp::Hs.map Prod.fst) w pv bss)
   (fun v H=>v=.tuple #[]∧∃ rv' Hs' Ho,Sl 5 1 rv' (cbs (absI (M++bss.flatten)).2) Hs'∧(bss=[]∧rv'=rv∧Hs'=Hs∧Ho=[]∨bss≠[]∧Sl 5 1 rv (cbs (absI M).2) Ho) ∧
    H=(p,cl (hc tp (absI (M++bss.flatten)).1 rv' (n+bss.flatten.length:Nat)) 365)::(tp,cl tabC 239)::(Hs'++Ho)):=by
 refine Tri.mk Tryz.func173 rfl Tryz.ntmps173 rfl fun w hw=>?_
 have hrv1:=hrv.isOne
 obtain⟨vs,hR,hvl,hvs⟩:=hw
 obtain⟨pa,pl,pc,rfl,hpl,hpc,hpr⟩:=hR
 rw [Nat.mul_one] at hpl
 have hbl:bss.length=pl:=by omega
 have e0:hc tp (absI M).1 rv n=hc tp (absI (M++(bss.take 0).flatten)).1 rv (n+(bss.take 0).flatten.length:Nat):=by simp
 repeat' (refine W.go ?_;try intro b_)
 rw [e0]
 refine SW.loopF (hp:=by dsimp only;infer_instance) [0,9,10] (fun x:Nat×Value×Hp×Hp=>[(11,.int .i64 (x.1:Int))])
  (fun x=>(p,cl (hc tp (absI (M++(bss.take x.1).flatten)).1 x.2.1 (n+(bss.take x.1).flatten.length:Nat)) 365)::(x.2.2.1++x.2.2.2)) (fun x=>pl-x.1)
  (fun x=>x.1≤pl∧Sl 5 1 x.2.1 (cbs (absI (M++(bss.take x.1).flatten)).2) x.2.2.1∧(x.1=0∧x.2.1=rv∧x.2.2.1=Hs∧x.2.2.2=[]∨0<x.1∧Sl 5 1 rv (cbs (absI M).2) x.2.2.2)) (0,rv,Hs,[]) ?_ ?_
 ·refine⟨Nat.zero_le _,?_,.inl ⟨rfl,rfl,rfl,rfl⟩⟩
  simpa using hrv
 rintro⟨i,rvi,Hi,Ho⟩ ⟨hi,hsi,hor⟩
 dsimp only at hi hsi hor ⊢
 by_cases hip:i<pl
 ·obtain⟨bs,hbs⟩:∃ bs,bss[i]?=some bs:=⟨_,List.getElem?_eq_getElem (by omega)⟩
  obtain⟨a,len,cap,hvi,hrd⟩:=hvs i bs hbs
  have hfl:=flat_le bss (i+1)
  have hA:=absI_app (M++(bss.take i).flatten) bs
  rw [List.append_assoc,← take_flat bss hbs] at hA
  have hf2:=take_flat bss hbs
  have hAl:=absI_len (M++(bss.take i).flatten)
  obtain⟨pb,po,l,T,fz,rfl,hpb,hpk,hpy⟩:=hpr.resolve_left (by omega)
  have hl:l[po+i]?=some (.slice a len cap):=by
   rw [← hpy,List.getElem?_take,if_pos (by omega),List.getElem?_drop] at hvi
   exact hvi
  obtain⟨hbsl,hlc⟩:=hrd.len1
  have hNl:((bss.take (i+1)).flatten).length=((bss.take i).flatten).length+len:=by rw [hf2,List.length_append,hbsl]
  have hA0:i=0→absI (M++(bss.take i).flatten)=absI M:=by rintro rfl;simp
  generalize absI (M++(bss.take i).flatten)=A at hsi hA hAl hA0 ⊢
  have hN:n+(bss.take i).flatten.length+len≤1099511627776:=by omega
  have hN1:n+(bss.take (i+1)).flatten.length=n+(bss.take i).flatten.length+len:=by omega
  have hmm:A.2.length≤64:=by omega
  generalize n+(bss.take i).flatten.length=N at hN hN1 ⊢
  obtain⟨S,m⟩:=A
  dsimp only at hsi hA hmm ⊢
  have hsi1:=hsi.isOne
  obtain⟨ra,rl,rc,rfl,hrl⟩:=hsi.form
  haveI:OC (hc tp S (.slice ra rl rc) N):=inferInstance
  repeat' (refine W.go ?_;try intro b_)
  rw [show (hc tp S (Value.slice ra rl rc) (N:Int)).set 10 (.int .i64 ((N:Int)+(len:Int)))=hc tp S (.slice ra rl rc) ((N+len:Nat):Int) from rfl]
  refine W.apk hsi (fun w2 hs=>hrd.srcAt hs) (fun v1 Hv Hf Hr Hoo h1 hr hperm=>?_) (hys:=by simp;omega) (hbytes:=by simp;omega)
  have h11:=h1.isOne
  obtain⟨va,vl,vc,rfl,-⟩:=h1.form
  obtain⟨hvl1,hvc,hva⟩:=h1.lens
  have h1':Sl 5 1 (.slice va vl vc) (cbs (m++bs)) Hv:=by rw [cbs_app];exact h1
  have hM1:(m++bs).length=vl:=by simpa using hvl1
  have hvl4:vl≤1099511627776+64:=by rw [List.length_append] at hM1;omega
  clear h1 hvl1
  generalize m++bs=M1 at h1' hM1 hA
  have hab:Sha.absorb S M1=Sha.absN (M1.length/64) S M1:=rfl
  have hab2:(Sha.absorb S M1).2=M1.drop (64*(M1.length/64)):=by rw [hab,Sha.absN_snd]
  repeat' (refine W.gb ?_;try intro b_)
  refine SW.cut [0,9,10,11] [p] (fun _:Unit=>[(6,.int .i64 ((64*(M1.length/64):Nat):Int))]) (fun _=>[(p,cl (hc tp (Sha.absorb S M1).1 (.slice va vl vc) ((N+len:Nat):Int)) 365)]) (fun _=>True) ?_ ?_
  ·repeat' (refine W.go ?_;try intro b_)
   refine SW.loopG [0,9,10,11] [p] (fun j:Nat=>[(6,.int .i64 ((64*j:Nat):Int))]) (fun j=>[(p,cl (hc tp (Sha.absN j S M1).1 (.slice va vl vc) ((N+len:Nat):Int)) 365)]) (fun j=>M1.length-j) (fun j=>64*j≤M1.length) 0 (by omega) ?_
   intro j hj
   by_cases h64:64*j+64≤vl
   ·obtain⟨vb,rfl⟩:=hva.resolve_left (by omega)
    repeat' (refine W.go ?_;try intro b_)
    refine W.callE (block_p (p:=p) (tp:=tp) (Sha.absN j S M1).1 (.slice (some ⟨vb,0,none⟩) vl vc) ((N+len:Nat):Int) (some ⟨vb,64*j,none⟩) (vc-64*j) ((M1.drop (64*j)).take 64) (by simp;omega)) ?_ ?_ (hpre:=fun w2 hs=>?_)
    ·rw [show 64*j+64-64*j=64 by omega]
    ·rintro _ _ ⟨rfl,rfl⟩
     rw [← Sha.absN_fst]
     repeat' (refine W.go ?_;try intro b_)
     rw [show ((64*j:Nat):Int)+64=((64*(j+1):Nat):Int) by omega]
     refine HandF.mk (j+1) ?_
     omega
    ·have h2:=(Rd.ownB [p,tp] h1' hs).sub (64*j) (64*j+64) (vc-64*j) (by omega) (by omega) (by omega)
     rw [show 64*j+64-64*j=64 by omega,Nat.zero_add] at h2
     exact h2
   ·have hje:j=M1.length/64:=by omega
    subst hje
    rw [← hab]
    repeat' (refine W.go ?_;try intro b_)
    refine CutF.mk () ?_
    trivial
  rintro _ -
  repeat' (refine W.go ?_;try intro b_)
  refine W.s1g ?_ hvc
  repeat' (refine W.go ?_;try intro b_)
  refine W.ap (Sl.nil _ _) (fun w2 hs=>h1'.srcFrom (by omega) hs inferInstance) (fun v3 H3 h3=>?_) (mm:=vl-64*(M1.length/64)) (ys:=(cbs M1).drop (64*(M1.length/64))) (hys:=by rw [List.length_drop,cbs_len];omega) (hbytes:=by rw [List.length_drop,cbs_len,List.length_nil];omega)
  rw [List.nil_append,cbs_drop,← hab2,← hA] at h3
  rw [← hA]
  have h31:=h3.isOne
  haveI:Part (Hv++Hf) Hr Hoo:=⟨hperm⟩
  repeat' (refine W.go ?_;try intro b_)
  rw [show ∀ S:S8,(hc tp S (Value.slice va vl vc) ((N+len:Nat):Int)).set 9 v3=hc tp S v3 ((N+len:Nat):Int) from fun _=>rfl,← hN1]
  repeat' (refine W.go ?_;try intro b_)
  rcases hor with ⟨h0,hor1,hor2,hor3⟩|⟨h0,hor1⟩
  ·refine HandF.mk (i+1,v3,H3,Hr) ?_
   exact⟨by omega,h3,.inr ⟨by omega,by rw [← hA0 h0,← hor1];exact hr⟩⟩
  ·refine HandF.mk (i+1,v3,H3,Ho) ?_
   exact⟨by omega,h3,.inr ⟨by omega,hor1⟩⟩
 ·have hi2:i=pl:=by omega
  subst hi2
  have hall:bss.take i=bss:=List.take_of_length_le (by omega)
  rw [hall] at hsi ⊢
  repeat' (refine W.go ?_;try intro b_)
  refine Fin.to ((p,cl (hc tp (absI (M++bss.flatten)).1 rvi (n+bss.flatten.length:Nat)) 365)::(tp,cl tabC 239)::(Hi++Ho)) ?_
  refine F.f0 ?_
  refine⟨rfl,rvi,Hi,Ho,hsi,?_,rfl⟩
  rcases hor with ⟨h0,h1,h2,h3⟩|⟨h0,h1⟩
  ·exact .inl ⟨List.eq_nil_of_length_eq_zero (by omega),h1,h2,h3⟩
  ·exact .inr ⟨fun h=>by rw [h] at hbl;simp at hbl;omega,h1⟩
end Go.Proofs.YtnigolgkkjidiaaGreat
namespace Go.Proofs.YtnigolgkkjidiaaGreat
open Go
attribute [local irreducible] SW SL SQ SH SA SS Pu Fin CutF HandF
theorem F.cH{P:Program}{C:Ctx}{ρ:Fr}{H:Hp}{fn:Func}{R:Value→Hp→Prop}{e:Exit}{t ty n b:Nat}{l:List Value}{T:TypeId}(Hc:Hp){s:Hp}(l2:List Value) [hp:Part H Hc s](hR:R (.agg l2.toArray) Hc)(he:e=.ret∨e=.normal:=by first|exact .inl rfl|exact .inr rfl)(hrs:fn.results=#[.cell t ty]:=by exact rfl)(ht:lk ρ t=some (.pointer (some ⟨b,0,none⟩)):=by exact rfl)(hat:At H b (cl l T):=by infer_instance)(hl:l=l2:=by first|assumption|exact rfl)(iR:RowTy P ty n:=by infer_instance)(hn:l2.length=n:=by first|assumption|exact rfl):Fin P C fn R e ρ H:=by
 subst hl
 exact Fin.c1 he hrs ht hn Hc hR
def outK(s:S8)(k:Nat):List Value:=cbs ((Sha.outB s).take (4*k)++List.replicate (32-4*k) 0)
theorem outK_len(s:S8){k:Nat}(h:k≤8):(outK s k).length=32:=by
 unfold outK;rw [cbs_len,List.length_append,List.length_take,Sha.outB_len,List.length_replicate];omega
theorem outK_set(s:S8){k:Nat}(h:k<8):(outK s k).take (4*k)++cbs (Sha.beN 4 (s.get k).toNat)++(outK s k).drop (4*k+(cbs (Sha.beN 4 (s.get k).toNat)).length)=outK s (k+1):=by
 rcases lt8 h with rfl|rfl|rfl|rfl|rfl|rfl|rfl|rfl <;> rfl
theorem outK_8(s:S8):outK s 8=cbs (Sha.outB s):=by
 unfold outK
 rw [List.take_of_length_le (by rw [Sha.outB_len];exact Nat.le_refl _)]
 simp
instance(s:S8)(k:Nat):OC (outK s k):=by unfold outK;infer_instance
theorem HSum_p{p tp:Nat}(M:List UInt8){rv:Value}{Hs:Hp}(hrv:Sl 5 1 rv (cbs (absI M).2) Hs)(hn:M.length≤1099511627000) :
  Tri Tryz.prog 174 [.pointer (some ⟨p,0,none⟩)] ((p,cl (hc tp (absI M).1 rv M.length) 365)::(tp,cl tabC 239)::Hs) (fun _=>True)
   (fun v H=>v=.agg (cbs (Sha.sum M)).toArray∧∃ Hs',Sl 5 1 rv (cbs (absI M).2) Hs'∧H=(p,cl (hc tp (absI M).1 rv M.length) 365)::(tp,cl tabC 239)::Hs'):=by
 refine Tri.mk Tryz.func174 rfl Tryz.ntmps174 rfl fun w hw=>?_
 have hrv1:=hrv.isOne
 obtain⟨ra,rl,rc,rfl,-⟩:=hrv.form
 have hs8:((hc tp (absI M).1 (.slice ra rl rc) M.length).drop 1).take 8=s8c (absI M).1:=rfl
 have hbd:bfill (fun i=>[(0,1),(1,8),(9,1),(10,1)][i]?) ([.pointer none]++List.replicate 8 (.int .u32 0)++[.slice none 0 0]++[.int .i64 0]) [(0,.pointer (some ⟨tp,0,none⟩)),(1,.agg (s8c (absI M).1).toArray),(2,.slice ra rl rc)]=some (hc tp (absI M).1 (.slice ra rl rc) ((0:Nat):Int)):=rfl
 have hlen:(hc tp (absI M).1 (.slice ra rl rc) M.length).length=11:=rfl
 repeat' (refine W.go ?_;try intro b_)
 rename_i b2
 (refine SW.regionS [13] ?_ (by kernel_rfl);refine SS.T 0 rfl ?_;refine SS.T 1 rfl ?_;refine SS.T 2 rfl ?_;(first|refine SS.ls 3 [12,13] rfl ?_|refine SS.sR 3 rfl ?_);refine SS.T 4 rfl ?_;refine SS.T 5 rfl ?_;refine SS.T 6 rfl ?_;(first|refine SS.lw 7 [12,13] rfl ?_|refine SS.la 7 [12,13] rfl ?_|refine SS.aR 7 rfl ?_);refine SS.T 8 rfl ?_;refine SS.T 9 rfl ?_;refine SS.T 10 rfl ?_;(first|refine SS.ls 11 [12,13] rfl ?_|refine SS.sR 11 rfl ?_);refine SS.T 12 rfl ?_;refine SS.effB 13 ?_ rfl (by kernel_rfl);(repeat' (refine W.g1 ?_;try intro b_));refine SS.T 14 rfl ?_;refine SS.done ?_ (by kernel_rfl))
 rename_i b3
 repeat' (refine W.gb ?_;try intro b_)
 refine W.call (Pad_p M.length (by omega)) ?_
 intro vP HP hP
 have hP1:=hP.isOne
 obtain⟨pa,pl,pc,rfl,-⟩:=hP.form
 have hpl:=Sha.padN_len M.length
 have hpl2:(Sha.padN M.length).length≤73:=by simp [Sha.padN,Sha.beN_len];omega
 have hbl:bfill (fun i=>some (i*1,1)) (zs [.slice none 0 0] 1) [(0,.slice pa pl pc)]=some [.slice pa pl pc]:=rfl
 repeat' (refine W.gb ?_;try intro b_)
 rename_i b4
 refine W.call (Write_p (p:=b4) (tp:=tp) M 0 [Sha.padN M.length] hrv (.slice (some ⟨b_,0,none⟩) 1 1) (by simp;omega) (by simp)) ?_ (hpre:=fun w2 hs=>?_)
 ·rintro _ _ ⟨rfl,rv',Hs',Ho,hrv',hor,rfl⟩
  have hfl:[Sha.padN M.length].flatten=Sha.padN M.length:=by simp
  rw [hfl] at hrv' ⊢
  have hsum:Sha.outB (absI (M++Sha.padN M.length)).1=Sha.sum M:=rfl
  have hHo:Sl 5 1 (.slice ra rl rc) (cbs (absI M).2) Ho:=by
   rcases hor with ⟨h,-⟩|⟨-,h⟩
   ·simp at h
   ·exact h
  generalize ((0+(Sha.padN M.length).length:Nat):Int)=N
  generalize (absI (M++Sha.padN M.length)).1=S at hsum ⊢
  have hlen2:(hc tp S rv' N).length=11:=rfl
  have hs82:((hc tp S rv' N).drop 1).take 8=s8c S:=rfl
  repeat' (refine W.gb ?_;try intro b_)
  rw [show List.replicate 32 (Value.int .u8 0)=outK S 0 from rfl]
  refine SW.cut [2,3] [b3] (fun _:Unit=>[]) (fun _=>[(b3,cl (outK S 8) 119)]) (fun _=>True) ?_ ?_
  ·repeat' (refine W.go ?_;try intro b_)
   refine SW.loopG [2,3,35] [b3] (fun k:Nat=>[(36,.int .i64 (k:Int))]) (fun k=>[(b3,cl (outK S k) 119)]) (fun k=>8-k) (fun k=>k≤8) 0 (by omega) ?_
   intro k hk
   by_cases hk8:k<8
   ·have h2:=s8c_at S hk8
    have h3:=outK_set S hk8
    have hl32:=outK_len S hk
    have hy4:(cbs (Sha.beN 4 (S.get k).toNat)).length=4:=by rw [cbs_len,Sha.beN_len]
    generalize outK S k=A at h3 hl32 ⊢
    generalize S.get k=y at h2 h3 hy4
    repeat' (refine W.go ?_;try intro b_)
    (refine SW.regionS [] ?_ (by kernel_rfl);refine SS.T 0 rfl ?_;refine SS.T 1 rfl ?_;refine SS.tw 2 rfl (p_sar10 rfl rfl rfl (by omega)) ?_;refine SS.T 3 rfl ?_;refine SS.T 4 rfl ?_;refine SS.effK 5 ?_ rfl (by kernel_rfl))
    refine W.call (high_n 4 y.toUInt64 (by omega) (by omega)) ?_
    rintro _ _ ⟨b5,rfl,rfl⟩
    rw [UInt32.toNat_toUInt64]
    (refine SL.nilB ?_;refine SS.effK 6 ?_ rfl (by kernel_rfl))
    refine W.cy (ys:=cbs (Sha.beN 4 y.toNat)) (mm:=4) (fun w2 hs=>?_) ?_
    ·exact SrcOf.block (l:=cbs (Sha.beN 4 y.toNat)) hs.at (by rw [List.drop_zero,List.take_of_length_le (by omega)]) (by omega)
    rw [h3]
    (refine SL.nilB ?_;refine SS.done ?_ (by kernel_rfl))
    repeat' (refine W.go ?_;try intro b_)
    refine HandF.mk (k+1) ?_
    omega
   ·have:k=8:=by omega
    subst this
    repeat' (refine W.go ?_;try intro b_)
    refine CutF.mk () ?_
    trivial
  rintro _ -
  rw [outK_8,hsum]
  repeat' (refine W.go ?_;try intro b_)
  refine F.cH ((p,cl (hc tp (absI M).1 (.slice ra rl rc) M.length) 365)::(tp,cl tabC 239)::Ho) (cbs (Sha.sum M)) ?_
  exact⟨rfl,Ho,hHo,rfl⟩
 ·refine RdS.at (T:=50) (fz:=(0,0)) (Hc:=(b4,cl (hc tp (absI M).1 (.slice ra rl rc) ((0:Nat):Int)) 365)::(tp,cl tabC 239)::Hs) (vs:=[.slice pa pl pc]) (bss:=[Sha.padN M.length]) hs rfl (Nat.le_refl _) rfl ?_
  intro i bs hi
  have hi0:i=0:=by
   have:=(List.getElem?_eq_some_iff.1 hi).1
   simp at this;omega
  subst hi0
  simp at hi
  subst hi
  exact⟨_,_,_,rfl,Rd.own (Hc:=(b4,cl (hc tp (absI M).1 (.slice ra rl rc) ((0:Nat):Int)) 365)::(tp,cl tabC 239)::Hs) hP hs inferInstance⟩
end Go.Proofs.YtnigolgkkjidiaaGreat
namespace Go.Proofs.YtnigolgkkjidiaaGreat
open Go
attribute [local irreducible] SW SL SQ SH SA SS Pu Fin CutF HandF
theorem TSum_p{tp:Nat}(bss:List (List UInt8))(pv:Value) [hpv:One pv](hn:bss.flatten.length≤1099511627000)(hn2:bss.length≤1099511627776):Tri Tryz.prog 109 [.pointer (some ⟨tp,0,none⟩),pv] [(tp,cl tabC 239)] (fun w=>RdS [tp] w pv bss) (fun v H=>v=.agg (cbs (Sha.sum bss.flatten)).toArray∧H=[(tp,cl tabC 239)]):=by
 refine Tri.mk Tryz.func109 rfl Tryz.ntmps109 rfl fun w hw=>?_
 repeat' (refine W.go ?_;try intro b_)
 refine W.call (New_p tp) ?_
 rintro _ _ ⟨p,rfl,rfl⟩
 repeat' (refine W.go ?_;try intro b_)
 rw [show hc tp Sha.ini (.slice none 0 0) 0=hc tp (absI []).1 (.slice none 0 0) ((0:Nat):Int) from rfl]
 refine W.call (Write_p (p:=p) (tp:=tp) [] 0 bss (Sl.nil _ _) pv (by omega) hn2) ?_ (hpre:=fun w2 hs=>?_)
 ·rintro _ _ ⟨rfl,rv',Hs',Ho,hrv',hor,rfl⟩
  rw [List.nil_append] at hrv'
  rw [List.nil_append,Nat.zero_add]
  have h1:=hrv'.isOne
  repeat' (refine W.go ?_;try intro b_)
  refine W.call (HSum_p (p:=p) (tp:=tp) bss.flatten hrv' hn) ?_
  rintro _ _ ⟨rfl,Hs2,-,rfl⟩
  have hl:(cbs (Sha.sum bss.flatten)).length=32:=by rw [cbs_len,Sha.sum_len]
  repeat' (refine W.go ?_;try intro b_)
  refine F.cH [(tp,cl tabC 239)] (cbs (Sha.sum bss.flatten)) ?_
  exact⟨rfl,rfl⟩
 ·exact hw.ro (Hc:=[(p,cl (hc tp (absI []).1 (.slice none 0 0) ((0:Nat):Int)) 365),(tp,cl tabC 239)]) hs
theorem bs1(a:Option Addr)(l c:Nat):List.take (0*1) (zs [.slice none 0 0] 1)++vl (.slice a l c)++List.drop (0*1+1) (zs [.slice none 0 0] 1)=[.slice a l c]:=rfl
end Go.Proofs.YtnigolgkkjidiaaGreat
namespace Go.Proofs.YtnigolgkkjidiaaGreat
open Go
def leN(n:Nat)(v:UInt64):List UInt8:=(List.range n).map (byU v)
theorem leN_len(n:Nat)(v:UInt64):(leN n v).length=n:=by simp [leN]
theorem leN4_inj{a b:Nat}(ha:a<4294967296)(hb:b<4294967296)(h:leN 4 (UInt64.ofNat a)=leN 4 (UInt64.ofNat b)):a=b:=by
 have hA:(UInt64.ofNat a).toNat=a:=by rw [UInt64.toNat_ofNat'];omega
 have hB:(UInt64.ofNat b).toNat=b:=by rw [UInt64.toNat_ofNat'];omega
 have e:∀ k,k<4→byU (UInt64.ofNat a) k=byU (UInt64.ofNat b) k:=by
  intro k hk
  have:=congrArg (fun l=>l[k]?) h
  simpa [leN,hk] using this
 have f:∀ k,k<4→a/256^k%256=b/256^k%256:=by
  intro k hk
  have:=congrArg UInt8.toNat (e k hk)
  rw [byU_eq _ (by omega),byU_eq _ (by omega),UInt8.toNat_ofNat',UInt8.toNat_ofNat',hA,hB] at this
  exact this
 have f0:=f 0 (by omega)
 have f1:=f 1 (by omega)
 have f2:=f 2 (by omega)
 have f3:=f 3 (by omega)
 simp only [Nat.pow_zero,Nat.pow_succ,Nat.one_mul,Nat.div_one] at f0 f1 f2 f3
 omega
def dep(n:Nat):Nat:=if n≤1 then 0 else (n-1).log2+1
theorem dep_le(n:Nat):n≤2^dep n:=by
 unfold dep
 by_cases h:n≤1
 ·rw [if_pos h];simpa using h
 ·rw [if_neg h]
  have:=Nat.lt_log2_self (n:=n-1)
  omega
theorem dep_lt{n e:Nat}(h:e<dep n):2^e<n:=by
 unfold dep at h
 by_cases h1:n≤1
 ·rw [if_pos h1] at h;omega
 ·rw [if_neg h1] at h
  have h2:=Nat.log2_self_le (n:=n-1) (by omega)
  have h3:2^e≤2^(n-1).log2:=Nat.pow_le_pow_right (by omega) (by omega)
  omega
theorem dep_uniq{n d:Nat}(h1:n≤2^d)(h2:∀ e,e<d→2^e<n):d=dep n:=by
 rcases Nat.lt_trichotomy d (dep n) with h|h|h
 ·have:=dep_lt h;omega
 ·exact h
 ·have:=h2 _ h;have:=dep_le n;omega
theorem dep_max{n k:Nat}(h:n≤2^k):dep n≤k:=by
 rcases Nat.lt_or_ge k (dep n) with h1|h1
 ·have:=dep_lt h1;omega
 ·exact h1
section
variable {α:Type}{n:Nat}
theorem flatN_len{L:List (List α)}(h:∀ x∈L,x.length=n):L.flatten.length=L.length*n:=by
 induction L with
 | nil=>simp
 | cons a t ih=>
  rw [List.flatten_cons,List.length_append,ih fun x hx=>h x (List.mem_cons_of_mem _ hx),h a (List.mem_cons_self ..),List.length_cons,Nat.succ_mul,Nat.add_comm]
theorem flatN_take{L:List (List α)}(h:∀ x∈L,x.length=n)(i:Nat):L.flatten.take (i*n)=(L.take i).flatten:=by
 induction L generalizing i with
 | nil=>simp
 | cons a t ih=>
  cases i with
  | zero=>simp
  | succ i=>
   have ha:=h a (List.mem_cons_self ..)
   rw [List.flatten_cons,List.take_succ_cons,List.flatten_cons,List.take_append,ha,List.take_of_length_le (by rw [ha,Nat.succ_mul];omega),show (i+1)*n-n=i*n by rw [Nat.succ_mul];omega,ih fun x hx=>h x (List.mem_cons_of_mem _ hx)]
theorem flatN_drop{L:List (List α)}(h:∀ x∈L,x.length=n)(i:Nat):L.flatten.drop (i*n)=(L.drop i).flatten:=by
 induction L generalizing i with
 | nil=>simp
 | cons a t ih=>
  cases i with
  | zero=>simp
  | succ i=>
   have ha:=h a (List.mem_cons_self ..)
   rw [List.flatten_cons,List.drop_succ_cons,List.drop_append,ha,List.drop_of_length_le (by rw [ha,Nat.succ_mul];omega),List.nil_append,show (i+1)*n-n=i*n by rw [Nat.succ_mul];omega,ih fun x hx=>h x (List.mem_cons_of_mem _ hx)]
theorem flatN_get{L:List (List α)}{x:List α}(h:∀ x∈L,x.length=n){i:Nat}(hi:L[i]?=some x):(L.flatten.drop (i*n)).take n=x:=by
 have hx:=h x (List.mem_of_getElem? hi)
 obtain⟨hl,hv⟩:=List.getElem?_eq_some_iff.1 hi
 rw [flatN_drop h,List.drop_eq_getElem_cons hl,List.flatten_cons,hv,List.take_append,hx,Nat.sub_self,List.take_zero,List.append_nil,List.take_of_length_le (by omega)]
theorem flatN_set{L:List (List α)}{x:List α}(h:∀ x∈L,x.length=n){i:Nat}(hi:i<L.length):L.flatten.take (i*n)++x++L.flatten.drop (i*n+n)=(L.set i x).flatten:=by
 rw [flatN_take h,show i*n+n=(i+1)*n by rw [Nat.succ_mul],flatN_drop h,List.set_eq_take_append_cons_drop,if_pos hi]
 simp
end
theorem cbs_get{L:List (List UInt8)}{x:List UInt8}{n:Nat}(h:∀ x∈L,x.length=n){i:Nat}(hi:L[i]?=some x):((cbs L.flatten).drop (i*n)).take n=cbs x:=by
 rw [← flatN_get h hi];simp [cbs,List.map_drop,List.map_take]
theorem cbs_set{L:List (List UInt8)}{x:List UInt8}{n:Nat}(h:∀ x∈L,x.length=n){i:Nat}(hi:i<L.length):(cbs L.flatten).take (i*n)++cbs x++(cbs L.flatten).drop (i*n+n)=cbs (L.set i x).flatten:=by
 rw [← flatN_set h hi];simp [cbs,List.map_drop,List.map_take]
abbrev z32:List UInt8:=List.replicate 32 0
def nodeT(level i:Nat)(x y:List UInt8):List UInt8:=1::[[UInt8.ofNat level],leN 4 (UInt64.ofNat i),x,y].flatten
def rootT(n:Nat)(x:List UInt8):List UInt8:=2::[leN 4 (UInt64.ofNat n),x].flatten
def leafT(k:Nat)(b:List UInt8):List UInt8:=0::[leN 4 (UInt64.ofNat k),b].flatten
def nodeV(level i:Nat)(x y:List UInt8):List UInt8:=Sha.sum (nodeT level i x y)
theorem nodeV_len(level i:Nat)(x y:List UInt8):(nodeV level i x y).length=32:=Sha.sum_len _
def atV(l:List (List UInt8)):Nat→Nat→List UInt8
 | 0,i=>l.getD i z32
 | d+1,i=>nodeV (d+1) i (atV l d (2*i)) (atV l d (2*i+1))
def D32(l:List (List UInt8)):Prop:=∀ x∈l,x.length=32
theorem atV_len{l:List (List UInt8)}(hl:D32 l)(d i:Nat):(atV l d i).length=32:=by
 cases d with
 | zero=>
  unfold atV
  rw [List.getD_eq_getElem?_getD]
  cases h:l[i]? with
  | none=>rfl
  | some x=>exact hl x (List.mem_of_getElem? h)
 | succ d=>exact nodeV_len ..
def rowV(l:List (List UInt8))(D d:Nat):List (List UInt8):=(List.range (2^(D-d))).map (atV l d)
theorem rowV_len(l:List (List UInt8))(D d:Nat):(rowV l D d).length=2^(D-d):=by simp [rowV]
theorem rowV_32{l:List (List UInt8)}(hl:D32 l)(D d:Nat):D32 (rowV l D d):=by
 intro x hx
 obtain⟨i,-,rfl⟩:=List.mem_map.1 hx
 exact atV_len hl d i
theorem rowV_get(l:List (List UInt8)){D d i:Nat}(h:i<2^(D-d)):(rowV l D d)[i]?=some (atV l d i):=by simp [rowV,h]
def topV(l:List (List UInt8)):List UInt8:=atV l (dep l.length) 0
def rootV(l:List (List UInt8)):List UInt8:=Sha.sum (rootT l.length (topV l))
def textsV(l:List (List UInt8))(D:Nat):List (List UInt8):=(List.range D).flatMap fun d=>(List.range (2^(D-(d+1)))).map fun i=>nodeT (d+1) i (atV l d (2*i)) (atV l d (2*i+1))
theorem texts_mem(l:List (List UInt8)){D d i:Nat}(hd:d<D)(hi:i<2^(D-(d+1))):nodeT (d+1) i (atV l d (2*i)) (atV l d (2*i+1))∈textsV l D:=by
 unfold textsV
 exact List.mem_flatMap.2 ⟨d,List.mem_range.2 hd,List.mem_map.2 ⟨i,List.mem_range.2 hi,rfl⟩⟩
theorem nodeT_inj{a i a' i':Nat}{x y x' y':List UInt8}(hx:x.length=32)(hx':x'.length=32)(h:nodeT a i x y=nodeT a' i' x' y'):x=x'∧y=y':=by
 unfold nodeT at h
 have h1:=(List.cons.inj h).2
 simp only [List.flatten_cons,List.flatten_nil,List.append_nil,List.singleton_append] at h1
 obtain⟨-,h2⟩:=List.append_inj (List.cons.inj h1).2 (by rw [leN_len,leN_len])
 exact List.append_inj h2 (by omega)
theorem rootT_inj{n m:Nat}{x y:List UInt8}(hn:n<4294967296)(hm:m<4294967296)(h:rootT n x=rootT m y):n=m∧x=y:=by
 unfold rootT at h
 have h1:=(List.cons.inj h).2
 simp only [List.flatten_cons,List.flatten_nil,List.append_nil] at h1
 obtain⟨h2,h3⟩:=List.append_inj h1 (by rw [leN_len,leN_len])
 exact⟨leN4_inj hn hm h2,h3⟩
theorem apart{l m:List (List UInt8)}(hl:D32 l)(hm:D32 m)(hln:l.length<4294967296)(hmn:m.length<4294967296){ts:List (List UInt8)}
  (h1:∀ t∈textsV l (dep l.length),t∈ts) (h2:∀ t∈textsV m (dep m.length),t∈ts) (h3:rootT l.length (topV l)∈ts) (h4:rootT m.length (topV m)∈ts)
  (hno:∀ t∈ts,∀ u∈ts,Sha.sum t=Sha.sum u→t=u) (h:rootV l=rootV m):l=m:=by
 obtain⟨e,hT⟩:=rootT_inj hln hmn (hno _ h3 _ h4 h)
 unfold topV at hT
 rw [← e] at hT h2
 have key:∀ k d,k+d=dep l.length→∀ i,i<2^(dep l.length-d)→atV l d i=atV m d i:=by
  intro k
  induction k with
  | zero=>
   intro d hd i hi
   have:d=dep l.length:=by omega
   subst this
   rw [Nat.sub_self,Nat.pow_zero] at hi
   have:i=0:=by omega
   subst this
   exact hT
  | succ k ih=>
   intro d hd i hi
   have h5:=ih (d+1) (by omega) (i/2) (by
    have:2^(dep l.length-d)=2*2^(dep l.length-(d+1)):=by rw [show dep l.length-d=dep l.length-(d+1)+1 by omega,Nat.pow_succ,Nat.mul_comm]
    omega)
   have hi2:i/2<2^(dep l.length-(d+1)):=by
    have:2^(dep l.length-d)=2*2^(dep l.length-(d+1)):=by rw [show dep l.length-d=dep l.length-(d+1)+1 by omega,Nat.pow_succ,Nat.mul_comm]
    omega
   have h6:=hno _ (h1 _ (texts_mem l (by omega) hi2)) _ (h2 _ (texts_mem m (by omega) hi2)) h5
   obtain⟨h7,h8⟩:=nodeT_inj (atV_len hl _ _) (atV_len hm _ _) h6
   rcases Nat.mod_two_eq_zero_or_one i with h9|h9
   ·rwa [show 2*(i/2)=i by omega] at h7
   ·rwa [show 2*(i/2)+1=i by omega] at h8
 apply List.ext_getElem?
 intro i
 rcases Nat.lt_or_ge i l.length with hi|hi
 ·have h5:=key (dep l.length) 0 (by omega) i (by have:=dep_le l.length;rw [Nat.sub_zero];omega)
  unfold atV at h5
  rw [List.getD_eq_getElem?_getD,List.getD_eq_getElem?_getD,List.getElem?_eq_getElem hi,List.getElem?_eq_getElem (show i<m.length by omega)] at h5
  rw [List.getElem?_eq_getElem hi,List.getElem?_eq_getElem (show i<m.length by omega)]
  exact congrArg some h5
 ·rw [List.getElem?_eq_none hi,List.getElem?_eq_none (by omega)]
end Go.Proofs.YtnigolgkkjidiaaGreat
namespace Go.Proofs.YtnigolgkkjidiaaGreat
open Go
attribute [local irreducible] SW SL SQ SH SA SS Pu Fin CutF HandF
theorem shl1{d X:Nat}(h:d<63)(hX:X=2^d):UShl .i64 1 (d:Int) (X:Int):=⟨by
 have h2:2^d<2^63:=Nat.pow_lt_pow_right (by omega) h
 rw [← hX] at h2
 refine⟨by omega,?_⟩
 rw [Int.toNat_natCast,Nat.min_eq_left (by show d≤64;omega),Int.one_mul,show ((2:Int)^d)=(X:Int) by rw [hX];simp]
 exact w64 (by omega)⟩
theorem depth_p(n:Nat)(hn:n≤1099511627776):Tri Tryz.prog 239 [.int .i64 (n:Int)] [] (fun _=>True) (fun v H=>v=.int .i64 ((dep n:Nat):Int)∧H=[]):=by
 refine Tri.mk Tryz.func239 rfl Tryz.ntmps239 rfl fun w hw=>?_
 have hd40:dep n≤40:=dep_max (by simpa using hn)
 repeat' (refine W.gb ?_;try intro b_)
 refine SW.cut [] [] (fun _:Unit=>[(3,.int .i64 ((dep n:Nat):Int))]) (fun _=>[]) (fun _=>True) ?_ ?_
 ·repeat' (refine W.go ?_;try intro b_)
  refine SW.loopG [0] [] (fun d:Nat=>[(3,.int .i64 (d:Int))]) (fun _=>[]) (fun d=>dep n-d) (fun d=>d≤dep n∧∀ e,e<d→2^e<n) 0 ⟨by omega,fun e h=>by omega⟩ ?_
  rintro d ⟨hd,he⟩
  obtain⟨X,hX⟩:∃ X,X=2^d:=⟨_,rfl⟩
  haveI:=shl1 (d:=d) (by omega) hX
  by_cases h:X<n
  ·have hlt:d<dep n:=by
    rcases Nat.lt_or_ge d (dep n) with h1|h1
    ·exact h1
    ·have:=Nat.pow_le_pow_right (n:=2) (by omega) h1
     have:=dep_le n
     omega
   repeat' (refine W.go ?_;try intro b_)
   refine HandF.mk (d+1) ?_
   refine⟨by omega,fun e h1=>?_⟩
   by_cases e1:e=d
   ·subst e1;omega
   ·exact he e (by omega)
  ·have hd2:d=dep n:=dep_uniq (by omega) he
   repeat' (refine W.go ?_;try intro b_)
   subst hd2
   refine CutF.mk () ?_
   trivial
 rintro _ -
 repeat' (refine W.go ?_;try intro b_)
 refine Fin.to [] ?_
 exact F.f1 ⟨rfl,rfl⟩
theorem rdepth_p(n:Nat)(hn:n≤1099511627776):Tri Tryz.prog 252 [.int .i64 (n:Int)] [] (fun _=>True) (fun v H=>v=.int .i64 ((dep n:Nat):Int)∧H=[]):=by
 refine Tri.mk Tryz.func252 rfl Tryz.ntmps252 rfl fun w hw=>?_
 have hd40:dep n≤40:=dep_max (by simpa using hn)
 repeat' (refine W.gb ?_;try intro b_)
 refine SW.cut [] [] (fun _:Unit=>[(3,.int .i64 ((dep n:Nat):Int))]) (fun _=>[]) (fun _=>True) ?_ ?_
 ·repeat' (refine W.go ?_;try intro b_)
  refine SW.loopG [0] [] (fun d:Nat=>[(3,.int .i64 (d:Int)),(4,.int .i64 ((2^d:Nat):Int))]) (fun _=>[]) (fun d=>dep n-d) (fun d=>d≤dep n∧∀ e,e<d→2^e<n) 0 ⟨by omega,fun e h=>by omega⟩ ?_
  rintro d ⟨hd,he⟩
  have hs:2^(d+1)=2*2^d:=by rw [Nat.pow_succ,Nat.mul_comm]
  have hs2:((2^(d+1):Nat):Int)=2*((2^d:Nat):Int):=by rw [hs];rfl
  obtain⟨X,hX⟩:∃ X,X=2^d:=⟨_,rfl⟩
  have hXs:X≤1099511627776:=by
   have:=Nat.pow_le_pow_right (n:=2) (by omega) (show d≤40 by omega)
   omega
  rw [← hX] at hs2 ⊢
  by_cases h:X<n
  ·have hlt:d<dep n:=by
    rcases Nat.lt_or_ge d (dep n) with h1|h1
    ·exact h1
    ·have:=Nat.pow_le_pow_right (n:=2) (by omega) h1
     have:=dep_le n
     omega
   repeat' (refine W.go ?_;try intro b_)
   rw [← hs2]
   refine HandF.mk (d+1) ?_
   refine⟨by omega,fun e h1=>?_⟩
   by_cases e1:e=d
   ·subst e1;omega
   ·exact he e (by omega)
  ·have hd2:d=dep n:=dep_uniq (by omega) he
   repeat' (refine W.go ?_;try intro b_)
   subst hd2
   refine CutF.mk () ?_
   trivial
 rintro _ -
 repeat' (refine W.go ?_;try intro b_)
 refine Fin.to [] ?_
 exact F.f1 ⟨rfl,rfl⟩
end Go.Proofs.YtnigolgkkjidiaaGreat
namespace Go.Proofs.YtnigolgkkjidiaaGreat
open Go
def aff(ks:List Nat)(d i:Nat):Prop:=∃ k∈ks,k/2^d=i
abbrev Pl:=Nat×Nat
section
variable {ks:List Nat}{D:Nat}{w:List (List UInt8)}{Q Q':Pl→Prop}{last p:Pl}{done:List Pl}{cur:Nat→Nat→List UInt8}
end
end Go.Proofs.YtnigolgkkjidiaaGreat
namespace Go.Proofs.YtnigolgkkjidiaaGreat
open Go Go.ChangeShapes Go.WideShapes Go.ChangeAt Go.RowKit
section
variable {H:Type}{enc:TypeId×Value→H}{P:Program}{W:World}{sp:Nat→Bool}{hl:Bool}
theorem chunks{n:Nat}(ys:List Value)(f:Nat→List UInt8)(len:Nat)(hy:ys.length=len*n)(h:∀ i,i<len→(ys.drop (i*n)).take n=cbs (f i)):ys=cbs ((List.range len).map f).flatten:=by
 have key:∀ m,m≤len→ys.take (m*n)=cbs ((List.range m).map f).flatten:=by
  intro m
  induction m with
  | zero=>intro _;simp
  | succ m ih=>
   intro hm
   rw [Nat.succ_mul,List.take_add,ih (by omega),h m (by omega),List.range_succ]
   simp
 have:=key len (Nat.le_refl _)
 rwa [← hy,List.take_length] at this
end
end Go.Proofs.YtnigolgkkjidiaaGreat
