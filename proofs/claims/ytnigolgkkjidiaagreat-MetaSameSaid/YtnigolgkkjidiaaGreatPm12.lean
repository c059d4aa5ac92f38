/- The program's bytes as polynomials; its box. -/
import Derived.Test.YtnigolgkkjidiaaGreatPm2
import Derived.Test.YtnigolgkkjidiaaGreatPm1
set_option linter.unusedVariables false
set_option linter.unusedSimpArgs false
set_option linter.unusedSectionVars false
set_option maxHeartbeats 2000000
namespace Go.Proofs.YtnigolgkkjidiaaGreat
open Go
attribute [local irreducible] SW SL SQ SH SA SS Pu Fin CutF HandF
abbrev u8v(a:UInt8):Value:=.int .u8 (a.toNat:Int)
theorem twice_p(a:UInt8):Tri Tryz.prog 267 [u8v a] [] (fun _=>True) (fun v H=>v=u8v (Gf.twice a)∧H=[]):=by
 refine Tri.mk Tryz.func267 rfl Tryz.ntmps267 rfl fun w hw=>?_
 repeat' (refine W.go ?_;try intro b_)
 refine Fin.to [] ?_
 exact F.f1 ⟨rfl,rfl⟩
theorem gmul_p(a b:UInt8):Tri Tryz.prog 222 [u8v a,u8v b] [] (fun _=>True) (fun v H=>v=u8v (Gf.mul a b)∧H=[]):=by
 refine Tri.mk Tryz.func222 rfl Tryz.ntmps222 rfl fun w hw=>?_
 repeat' (refine W.gb ?_;try intro b_)
 refine SW.cut [] [] (fun _:Unit=>[(5,u8v (Gf.mul a b))]) (fun _=>[]) (fun _=>True) ?_ ?_
 ·repeat' (refine W.go ?_;try intro b_)
  refine SW.loopG [] [] (fun n:Nat=>[(0,u8v (Gf.mulN a b n).2.1),(1,u8v (Gf.mulN a b n).2.2),(5,u8v (Gf.mulN a b n).1),(6,.int .i64 (n:Int))]) (fun _=>[]) (fun n=>8-n) (fun n=>n≤8) 0 (Nat.zero_le _) ?_
  intro n hn
  by_cases h:n<8
  ·have hs:Gf.mulN a b (n+1)=Gf.mulS (Gf.mulN a b n):=rfl
   generalize Gf.mulN a b n=s at *
   obtain⟨o,x,y⟩:=s
   have e1:(Gf.mulN a b (n+1)).1=o ^^^ x*(y &&& 1):=by rw [hs];rfl
   have e2:(Gf.mulN a b (n+1)).2.1=Gf.twice x:=by rw [hs];rfl
   have e3:(Gf.mulN a b (n+1)).2.2=y >>> 1:=by rw [hs];rfl
   dsimp only
   repeat' (refine W.go ?_;try intro b_)
   refine W.call (twice_p x) ?_
   rintro _ _ ⟨rfl,rfl⟩
   repeat' (refine W.go ?_;try intro b_)
   rw [← e1,← e2,← e3]
   refine HandF.mk (n+1) ?_
   omega
  ·have:n=8:=by omega
   subst this
   repeat' (refine W.go ?_;try intro b_)
   refine CutF.mk () ?_
   trivial
 rintro _ -
 repeat' (refine W.go ?_;try intro b_)
 refine Fin.to [] ?_
 exact F.f1 ⟨rfl,rfl⟩
theorem and1(k:Nat):UAr .and .i64 (k:Int) 1 ((k%2:Nat):Int):=⟨fun P w t=>by
 have e:IntKind.i64.wrap (((BitVec.ofInt IntKind.i64.bits (k:Int) &&& BitVec.ofInt IntKind.i64.bits 1).toNat:Nat):Int)=((k%2:Nat):Int):=by
  have h1:(BitVec.ofInt IntKind.i64.bits (k:Int)).toNat=((k:Int)%18446744073709551616).toNat:=BitVec.toNat_ofInt ..
  have h2:(BitVec.ofInt IntKind.i64.bits 1).toNat=2^1-1:=rfl
  rw [BitVec.toNat_and,h1,h2,Nat.and_two_pow_sub_one_eq_mod]
  have h3:((k:Int)%18446744073709551616).toNat%2^1=k%2:=by omega
  rw [h3]
  exact w64 (by omega)
 simp only [binOp,Op.intBits,ne_eq,not_true_eq_false,if_false,Sem.run_pure]
 exact congrArg (fun z=>Result.ok (Value.int .i64 z) w) e⟩
theorem shr1(k:Nat):UShr .i64 (k:Int) 1 ((k/2:Nat):Int):=⟨by
 refine⟨by omega,?_⟩
 show Int.fdiv (k:Int) (2^1)=_
 rw [Int.fdiv_eq_ediv_of_nonneg _ (by decide)]
 omega⟩
theorem power_p(a:UInt8)(n:Nat)(hn:n≤1000000):Tri Tryz.prog 169 [u8v a,.int .i64 (n:Int)] [] (fun _=>True) (fun v H=>v=u8v (Gf.pow a n)∧H=[]):=by
 refine Tri.mk Tryz.func169 rfl Tryz.ntmps169 rfl fun w hw=>?_
 repeat' (refine W.gb ?_;try intro b_)
 refine SW.cut [] [] (fun _:Unit=>[(5,u8v (Gf.pow a n))]) (fun _=>[]) (fun _=>True) ?_ ?_
 ·repeat' (refine W.go ?_;try intro b_)
  refine SW.loopG [] [] (fun s:UInt8×UInt8×Nat=>[(0,u8v s.2.1),(1,.int .i64 (s.2.2:Int)),(5,u8v s.1)]) (fun _=>[]) (fun s=>s.2.2) (fun s=>s.2.2≤1000000∧Gf.powF s.2.2 s.1 s.2.1 s.2.2=Gf.pow a n) (1,a,n) ⟨hn,rfl⟩ ?_
  rintro⟨o,x,m⟩ ⟨hm,he⟩
  dsimp only at hm he ⊢
  by_cases h:0<m
  ·have hA:=and1 m
   have hB:=shr1 m
   rw [Gf.powF_step o x h] at he
   by_cases hb:m%2=1
   ·rw [if_pos hb] at he
    rw [hb] at hA
    repeat' (refine W.go ?_;try intro b_)
    refine W.call (gmul_p o x) ?_
    rintro _ _ ⟨rfl,rfl⟩
    repeat' (refine W.go ?_;try intro b_)
    refine W.call (gmul_p x x) ?_
    rintro _ _ ⟨rfl,rfl⟩
    repeat' (refine W.go ?_;try intro b_)
    refine HandF.mk (Gf.mul o x,Gf.mul x x,m/2) ?_
    exact⟨by dsimp only;omega,he⟩
   ·have hb0:m%2=0:=by omega
    rw [if_neg hb] at he
    rw [hb0] at hA
    repeat' (refine W.go ?_;try intro b_)
    refine W.call (gmul_p x x) ?_
    rintro _ _ ⟨rfl,rfl⟩
    repeat' (refine W.go ?_;try intro b_)
    refine HandF.mk (o,Gf.mul x x,m/2) ?_
    exact⟨by dsimp only;omega,he⟩
  ·have:m=0:=by omega
   subst this
   have e2:o=Gf.pow a n:=he
   subst e2
   repeat' (refine W.go ?_;try intro b_)
   refine CutF.mk () ?_
   trivial
 rintro _ -
 repeat' (refine W.go ?_;try intro b_)
 refine Fin.to [] ?_
 exact F.f1 ⟨rfl,rfl⟩
theorem inv_p(a:UInt8):Tri Tryz.prog 106 [u8v a] [] (fun _=>True) (fun v H=>v=u8v (Gf.inv a)∧H=[]):=by
 refine Tri.mk Tryz.func106 rfl Tryz.ntmps106 rfl fun w hw=>?_
 repeat' (refine W.go ?_;try intro b_)
 refine W.call (power_p a 254 (by decide)) ?_
 rintro _ _ ⟨rfl,rfl⟩
 repeat' (refine W.go ?_;try intro b_)
 refine Fin.to [] ?_
 exact F.f1 ⟨rfl,rfl⟩
theorem aff1_p(i k r:UInt8)(b:Nat)(hk:k.toNat<8)(hr:r.toNat<8)(hs:(8:UInt8)-k=r)(h8:(8:Int)-k.toNat=r.toNat):Tri Tryz.prog 170 [.int .i64 (k.toNat:Int),.pointer (some ⟨b,0,none⟩)] [(b,cl [u8v i] 5)] (fun _=>True) (fun v H=>v=u8v (Gf.rot i k r)∧H=[(b,cl [u8v i] 5)]):=by
 refine Tri.mk Tryz.func170 rfl Tryz.ntmps170 rfl fun w hw=>?_
 haveI:Lt8 (k.toNat:Int) k:=⟨rfl,hk⟩
 haveI:Lt8 (8-(k.toNat:Int)) r:=⟨h8,hr⟩
 repeat' (refine W.go ?_;try intro b_)
 (refine SW.regionS [] ?_ (by kernel_rfl);(first|refine SS.ls 0 [] rfl ?_|refine SS.sR 0 rfl ?_);refine SS.T 1 rfl ?_;refine SS.T 2 rfl ?_;(first|refine SS.ls 3 [] rfl ?_|refine SS.sR 3 rfl ?_);refine SS.T 4 rfl ?_;refine SS.T 5 rfl ?_;refine SS.T 6 rfl ?_;refine SS.T 7 rfl ?_;refine SS.T 8 rfl ?_;refine SS.done ?_ (by kernel_rfl))
 repeat' (refine W.go ?_;try intro b_)
 refine Fin.to [(b,cl [u8v i] 5)] ?_
 exact F.f1 ⟨rfl,rfl⟩
instance i8of(k:Nat):Cv .u8 (k:Int) ((UInt8.ofNat k).toNat:Int):=⟨by rw [wrap8,UInt8.toNat_ofNat'];omega⟩
theorem aff_p(i:UInt8):Tri Tryz.prog 105 [u8v i] [] (fun _=>True) (fun v H=>v=u8v (Gf.aff i)∧H=[]):=by
 refine Tri.mk Tryz.func105 rfl Tryz.ntmps105 rfl fun w hw=>?_
 have c1:=fun b=>aff1_p i 1 7 b (by decide) (by decide) (by decide) (by decide)
 have c2:=fun b=>aff1_p i 2 6 b (by decide) (by decide) (by decide) (by decide)
 have c3:=fun b=>aff1_p i 3 5 b (by decide) (by decide) (by decide) (by decide)
 have c4:=fun b=>aff1_p i 4 4 b (by decide) (by decide) (by decide) (by decide)
 repeat' (refine W.go ?_;try intro b_)
 (refine SW.regionS [] ?_ (by kernel_rfl);(first|refine SS.ls 0 [] rfl ?_|refine SS.sR 0 rfl ?_);refine SS.T 1 rfl ?_;refine SS.T 4 rfl ?_;refine SS.T 7 rfl ?_;refine SS.T 10 rfl ?_;refine SS.effK 2 ?_ rfl (by kernel_rfl))
 refine SL.callv [(b_,cl [u8v i] 5)] rfl rfl rfl rfl rfl rfl (c1 b_) (fun _ _=>trivial) ?_
 rintro _ _ ⟨rfl,rfl⟩
 (refine SL.nilB ?_;refine SS.T 3 rfl ?_;refine SS.effK 5 ?_ rfl (by kernel_rfl))
 refine SL.callv [(b_,cl [u8v i] 5)] rfl rfl rfl rfl rfl rfl (c2 b_) (fun _ _=>trivial) ?_
 rintro _ _ ⟨rfl,rfl⟩
 (refine SL.nilB ?_;refine SS.T 6 rfl ?_;refine SS.effK 8 ?_ rfl (by kernel_rfl))
 refine SL.callv [(b_,cl [u8v i] 5)] rfl rfl rfl rfl rfl rfl (c3 b_) (fun _ _=>trivial) ?_
 rintro _ _ ⟨rfl,rfl⟩
 (refine SL.nilB ?_;refine SS.T 9 rfl ?_;refine SS.effK 11 ?_ rfl (by kernel_rfl))
 refine SL.callv [(b_,cl [u8v i] 5)] rfl rfl rfl rfl rfl rfl (c4 b_) (fun _ _=>trivial) ?_
 rintro _ _ ⟨rfl,rfl⟩
 (refine SL.nilB ?_;refine SS.T 12 rfl ?_;refine SS.T 13 rfl ?_;refine SS.T 14 rfl ?_;refine SS.done ?_ (by kernel_rfl))
 repeat' (refine W.go ?_;try intro b_)
 refine Fin.to [] ?_
 exact F.f1 ⟨rfl,rfl⟩
theorem cbs_at'{xs:List UInt8}{i:Nat}{x:UInt8}(h:xs[i]?=some x)(r:List Value):(cbs xs++r)[i]?=some (u8v x):=by
 have hl:i<xs.length:=(List.getElem?_eq_some_iff.1 h).1
 rw [List.getElem?_append_left (by unfold cbs;simpa using hl)]
 unfold cbs
 rw [List.getElem?_map,h];rfl
theorem gsub_p{b:Nat}{l m:List UInt8}(hl:l.length=256)(x:UInt8):Tri Tryz.prog 221 [.pointer (some ⟨b,0,none⟩),u8v x] [(b,cl (cbs l++cbs m) 222)] (fun _=>True) (fun v H=>v=u8v (l.getD x.toNat 0)∧H=[(b,cl (cbs l++cbs m) 222)]):=by
 refine Tri.mk Tryz.func221 rfl Tryz.ntmps221 rfl fun w hw=>?_
 have hx:x.toNat<256:=x.toNat_lt
 have hg:l[x.toNat]?=some (l.getD x.toNat 0):=by rw [List.getD_eq_getElem?_getD,List.getElem?_eq_getElem (by omega)];rfl
 have hv:=cbs_at' hg (cbs m)
 repeat' (refine W.go ?_;try intro b_)
 refine Fin.to [(b,cl (cbs l++cbs m) 222)] ?_
 exact F.f1 ⟨rfl,rfl⟩
theorem cbs_setL{xs:List UInt8}{i:Nat}(h:i<xs.length)(v:UInt8)(r:List Value):(cbs xs++r).set i (u8v v)=cbs (xs.set i v)++r:=by
 rw [List.set_append_left _ _ (by unfold cbs;simpa using h)]
 unfold cbs
 rw [List.map_set]
theorem cbs_setR{xs ys:List UInt8}{n:Nat}(hn:xs.length=n)(i:Nat)(v:UInt8):(cbs xs++cbs ys).set (n+i) (u8v v)=cbs xs++cbs (ys.set i v):=by
 have hl:(cbs xs).length=n:=by unfold cbs;simpa using hn
 rw [List.set_append_right _ _ (by omega),hl,show n+i-n=i by omega]
 unfold cbs
 rw [List.map_set]
def Gf.subN(n:Nat):List UInt8:=(List.range n).map Gf.subB++List.replicate (256-n) 0
theorem Gf.subN_len{n:Nat}(h:n≤256):(Gf.subN n).length=256:=by unfold Gf.subN;simp;omega
theorem Gf.subN_set{n:Nat}(h:n<256):(Gf.subN n).set n (Gf.subB n)=Gf.subN (n+1):=by
 unfold Gf.subN
 rw [List.set_append_right _ _ (by simp),List.range_succ,List.map_append,List.append_assoc]
 congr 1
 rw [List.length_map,List.length_range,Nat.sub_self,show 256-n=(256-(n+1))+1 by omega,List.replicate_succ]
 rfl
theorem Gf.subN_all:Gf.subN 256=Gf.subL:=by unfold Gf.subN Gf.subL;simp
def Gf.boxN(n:Nat):List Value:=cbs (Gf.subN n)++cbs (Gf.backN n)
theorem Gf.box0:List.replicate 512 (.int .u8 0)=Gf.boxN 0:=by
 show _=cbs (List.replicate 256 0)++cbs (List.replicate 256 0)
 unfold cbs
 rw [List.map_replicate]
 exact (List.replicate_append_replicate (m:=256) (n:=256)).symm
theorem newbox_p:Tri Tryz.prog 42 [] [] (fun _=>True) (fun v H=>∃ b,v=.pointer (some ⟨b,0,none⟩)∧H=[(b,cl (cbs Gf.subL++cbs (Gf.backN 256)) 222)]):=by
 refine Tri.mk Tryz.func42 rfl Tryz.ntmps42 rfl fun w hw=>?_
 repeat' (refine W.gb ?_;try intro b_)
 rw [Gf.box0]
 refine SW.cutH [1] [(b_,cl (Gf.boxN 0) 222)] (fun _:Unit=>[]) (fun _=>[(b_,cl (cbs Gf.subL++cbs (Gf.backN 256)) 222)]) (fun _=>True) ?_ ?_
 ·repeat' (refine W.go ?_;try intro b_)
  refine SW.loopG [1] [b_] (fun n:Nat=>[(6,.int .i64 (n:Int))]) (fun n=>[(b_,cl (Gf.boxN n) 222)]) (fun n=>256-n) (fun n=>n≤256) 0 (Nat.zero_le _) ?_
  intro n hn
  by_cases h:n<256
  ·have e1:UInt8.ofNat n=UInt8.ofNat n:=rfl
   have hb:(Gf.subB n).toNat<256:=(Gf.subB n).toNat_lt
   have hlen:(Gf.boxN n).length=512:=by unfold Gf.boxN cbs;simp [Gf.subN_len hn,Gf.backN_len]
   have hlt:n<(Gf.boxN n).length:=by omega
   have hs1:(Gf.boxN n).set n (u8v (Gf.subB n))=cbs (Gf.subN (n+1))++cbs (Gf.backN n):=by
    unfold Gf.boxN
    rw [cbs_setL (by rw [Gf.subN_len hn];exact h),Gf.subN_set h]
   have hs2:(cbs (Gf.subN (n+1))++cbs (Gf.backN n)).set (256+(Gf.subB n).toNat) (u8v (UInt8.ofNat n))=Gf.boxN (n+1):=cbs_setR (Gf.subN_len h) _ _
   have hl2:(cbs (Gf.subN (n+1))++cbs (Gf.backN n)).length=512:=by unfold cbs;simp [Gf.subN_len (show n+1≤256 from h),Gf.backN_len]
   have hlt2:256+(Gf.subB n).toNat<(cbs (Gf.subN (n+1))++cbs (Gf.backN n)).length:=by omega
   repeat' (refine W.go ?_;try intro b_)
   refine W.call (inv_p (UInt8.ofNat n)) ?_
   rintro _ _ ⟨rfl,rfl⟩
   repeat' (refine W.go ?_;try intro b_)
   refine W.call (aff_p (Gf.inv (UInt8.ofNat n))) ?_
   rintro _ _ ⟨rfl,rfl⟩
   rw [show Gf.aff (Gf.inv (UInt8.ofNat n))=Gf.subB n from rfl]
   repeat' (refine W.go ?_;try intro b_)
   rw [hs1]
   repeat' (refine W.go ?_;try intro b_)
   rw [hs2]
   repeat' (refine W.go ?_;try intro b_)
   refine HandF.mk (n+1) ?_
   omega
  ·have:n=256:=by omega
   subst this
   have e:Gf.boxN 256=cbs Gf.subL++cbs (Gf.backN 256):=by unfold Gf.boxN;rw [Gf.subN_all]
   rw [e]
   repeat' (refine W.go ?_;try intro b_)
   refine CutF.mk () ?_
   trivial
 rintro _ -
 repeat' (refine W.go ?_;try intro b_)
 refine Fin.to [(b_,cl (cbs Gf.subL++cbs (Gf.backN 256)) 222)] ?_
 exact F.f1 ⟨_,rfl,rfl⟩
end Go.Proofs.YtnigolgkkjidiaaGreat
namespace Go.Proofs.YtnigolgkkjidiaaGreat
open Go
attribute [local irreducible] SW SL SQ SH SA SS Pu Fin CutF HandF
namespace Rg
def mulP(a b:UInt8):Nat→Nat
 | 0=>0
 | k+1=>if b.toNat/2^k%2=1 then mulP a b k ^^^ (a.toNat*2^k) else mulP a b k
def redP(p:Nat):Nat→Nat
 | 0=>p
 | j+1=>if redP p j/2^(14-j)%2=1 then redP p j ^^^ (283*2^(6-j)) else redP p j
def mul(a b:UInt8):UInt8:=UInt8.ofNat (redP (mulP a b 8) 7)
def inv(a:UInt8):UInt8:=UInt8.ofNat (((List.range 256).find? fun k=>mul a (UInt8.ofNat k) == 1).getD 0)
def bit(c:UInt8)(k:Nat):Nat:=c.toNat/2^(k%8)%2
def bits(i:UInt8)(k:Nat):Nat:=bit i k+bit i (k+4)+bit i (k+5)+bit i (k+6)+bit i (k+7)+bit 99 k
def subO(i:UInt8):Nat→Nat
 | 0=>0
 | j+1=>2*subO i j+bits i (7-j)%2
def sub(c:UInt8):UInt8:=UInt8.ofNat (subO (inv c) 8)
theorem mulP_lt(a b:UInt8)(k:Nat)(hk:k≤8):mulP a b k<2^15:=by
 induction k with
 | zero=>exact Nat.two_pow_pos 15
 | succ k ih=>
  have h1:=ih (by omega)
  unfold mulP
  split
  ·refine Nat.xor_lt_two_pow h1 ?_
   have ha:a.toNat<256:=a.toNat_lt
   have h2:2^k≤2^7:=Nat.pow_le_pow_right (by decide) (by omega)
   have:a.toNat*2^k≤255*2^7:=Nat.mul_le_mul (by omega) h2
   omega
  ·exact h1
theorem redP_lt{p:Nat}(hp:p<2^15)(j:Nat):redP p j<2^15:=by
 induction j with
 | zero=>exact hp
 | succ j ih=>
  unfold redP
  split
  ·refine Nat.xor_lt_two_pow ih ?_
   have h2:2^(6-j)≤2^6:=Nat.pow_le_pow_right (by decide) (by omega)
   have:283*2^(6-j)≤283*2^6:=Nat.mul_le_mul (Nat.le_refl _) h2
   omega
  ·exact ih
theorem subO_lt(i:UInt8)(j:Nat):subO i j<2^j:=by
 induction j with
 | zero=>exact Nat.one_pos
 | succ j ih=>unfold subO;have:=Nat.mod_lt (bits i (7-j)) (show 0<2 by decide);omega
end Rg
theorem xorI(m n:Nat)(hm:m<2^62)(hn:n<2^62):UAr .xor .i64 (m:Int) (n:Int) ((m ^^^ n:Nat):Int):=⟨fun P w t=>by
 have hx:m ^^^ n<2^62:=Nat.xor_lt_two_pow hm hn
 have e:IntKind.i64.wrap (((BitVec.ofInt IntKind.i64.bits (m:Int) ^^^ BitVec.ofInt IntKind.i64.bits (n:Int)).toNat:Nat):Int)=((m ^^^ n:Nat):Int):=by
  have h1:∀ z:Nat,z<2^62→(BitVec.ofInt IntKind.i64.bits (z:Int)).toNat=z:=fun z hz=>by
   show (BitVec.ofInt 64 (z:Int)).toNat=z
   rw [BitVec.toNat_ofInt]
   omega
  rw [BitVec.toNat_xor,h1 m hm,h1 n hn]
  exact w64 (by omega)
 simp only [binOp,Op.intBits,ne_eq,not_true_eq_false,if_false,Sem.run_pure]
 exact congrArg (fun z=>Result.ok (Value.int .i64 z) w) e⟩
theorem shrI(m k:Nat)(hk:k≤64):UShr .i64 (m:Int) (k:Int) ((m/2^k:Nat):Int):=⟨by
 refine⟨by omega,?_⟩
 rw [Int.toNat_natCast,Nat.min_eq_left (by show k≤64;omega),Int.fdiv_eq_ediv_of_nonneg _ (by exact_mod_cast Nat.zero_le _)]
 simp⟩
theorem shlI(m k:Nat)(hk:k≤64)(h:m*2^k<2^62):UShl .i64 (m:Int) (k:Int) ((m*2^k:Nat):Int):=⟨by
 refine⟨by omega,?_⟩
 rw [Int.toNat_natCast,Nat.min_eq_left (by show k≤64;omega)]
 have:(m:Int)*2^k=((m*2^k:Nat):Int):=by simp
 rw [this]
 exact w64 (by omega)⟩
theorem cvu(k:Nat)(h:k<2^63):Cv .u64 (k:Int) (k:Int):=⟨by rw [wrapu64];omega⟩
theorem rbit_p(c:UInt8)(k:Nat)(hk:k≤1000):Tri Tryz.prog 228 [u8v c,.int .i64 (k:Int)] [] (fun _=>True) (fun v H=>v=.int .i64 (Rg.bit c k:Nat)∧H=[]):=by
 refine Tri.mk Tryz.func228 rfl Tryz.ntmps228 rfl fun w hw=>?_
 have h8:(k:Int)%8=((k%8:Nat):Int):=by omega
 haveI:=shrI c.toNat (k%8) (by omega)
 haveI:Cv .u64 ((k:Int)%8) ((k%8:Nat):Int):=by rw [h8];exact cvu (k%8) (by omega)
 have hc:c.toNat<256:=c.toNat_lt
 rw [show Rg.bit c k=c.toNat/2^(k%8)%2 from rfl]
 generalize c.toNat/2^(k%8)=y at *
 rw [show ((y%2:Nat):Int)=(y:Int)%2 by omega]
 repeat' (refine W.go ?_;try intro b_)
 refine Fin.to [] ?_
 exact F.f1 ⟨rfl,rfl⟩
theorem rmul_p(a b:UInt8):Tri Tryz.prog 115 [u8v a,u8v b] [] (fun _=>True) (fun v H=>v=u8v (Rg.mul a b)∧H=[]):=by
 refine Tri.mk Tryz.func115 rfl Tryz.ntmps115 rfl fun w hw=>?_
 have ha:a.toNat<256:=a.toNat_lt
 have hb:b.toNat<256:=b.toNat_lt
 have hP:=Rg.mulP_lt a b 8 (Nat.le_refl _)
 repeat' (refine W.gb ?_;try intro b_)
 refine SW.cut [] [] (fun _:Unit=>[(5,.int .i64 (Rg.mulP a b 8:Nat))]) (fun _=>[]) (fun _=>True) ?_ ?_
 ·repeat' (refine W.go ?_;try intro b_)
  refine SW.loopG [0,1] [] (fun k:Nat=>[(5,.int .i64 (Rg.mulP a b k:Nat)),(6,.int .i64 (2^k:Nat)),(7,.int .i64 (k:Int))]) (fun _=>[]) (fun k=>8-k) (fun k=>k≤8) 0 (Nat.zero_le _) ?_
  intro k hk
  by_cases h:k<8
  ·have hp:=Rg.mulP_lt a b k hk
   have h2:2^k≤2^7:=Nat.pow_le_pow_right (by decide) (by omega)
   have h20:0<2^k:=Nat.two_pow_pos k
   have h3:a.toNat*2^k≤255*2^7:=Nat.mul_le_mul (by omega) h2
   have hs:Rg.mulP a b (k+1)=if b.toNat/2^k%2=1 then Rg.mulP a b k ^^^ (a.toNat*2^k) else Rg.mulP a b k:=rfl
   have h2s:2^(k+1)=2*2^k:=by rw [Nat.pow_succ];omega
   generalize Rg.mulP a b k=p at *
   generalize 2^k=w at *
   have hq:(b.toNat:Int)/(w:Int)=((b.toNat/w:Nat):Int):=by simp
   have hq0:0≤(b.toNat:Int)/(w:Int):=by rw [hq];exact Int.natCast_nonneg _
   have hw1:(a.toNat:Int)*(w:Int)=((a.toNat*w:Nat):Int):=by simp
   haveI:UAr .xor .i64 (p:Int) ((a.toNat:Int)*(w:Int)) ((p ^^^ a.toNat*w:Nat):Int):=by rw [hw1];exact xorI p (a.toNat*w) (by omega) (by omega)
   by_cases hb1:b.toNat/w%2=1
   ·rw [if_pos hb1] at hs
    have hb2:(b.toNat:Int)/(w:Int)%2=1:=by omega
    repeat' (refine W.go ?_;try intro b_)
    rw [show (2:Int)*(w:Int)=((2^(k+1):Nat):Int) by rw [h2s];omega]
    rw [← hs]
    refine HandF.mk (k+1) ?_
    omega
   ·rw [if_neg hb1] at hs
    have hb2:¬ (b.toNat:Int)/(w:Int)%2=1:=by omega
    repeat' (refine W.go ?_;try intro b_)
    rw [show (2:Int)*(w:Int)=((2^(k+1):Nat):Int) by rw [h2s];omega]
    rw [← hs]
    refine HandF.mk (k+1) ?_
    omega
  ·have:k=8:=by omega
   subst this
   repeat' (refine W.go ?_;try intro b_)
   refine CutF.mk () ?_
   trivial
 rintro _ -
 generalize hq:Rg.mulP a b 8=p at *
 have hq2:=Rg.redP_lt hP 7
 refine SW.seq ?_
 repeat' (refine W.gb ?_;try intro b_)
 refine SW.cut [] [] (fun _:Unit=>[(5,.int .i64 (Rg.redP p 7:Nat))]) (fun _=>[]) (fun _=>True) ?_ ?_
 ·repeat' (refine W.go ?_;try intro b_)
  refine SW.loopG [] [] (fun j:Nat=>[(5,.int .i64 (Rg.redP p j:Nat)),(8,.int .i64 (14-(j:Int)))]) (fun _=>[]) (fun j=>7-j) (fun j=>j≤7) 0 (Nat.zero_le _) ?_
  intro j hj
  by_cases h:j<7
  ·have hr:=Rg.redP_lt hP j
   have hs:Rg.redP p (j+1)=if Rg.redP p j/2^(14-j)%2=1 then Rg.redP p j ^^^ (283*2^(6-j)) else Rg.redP p j:=rfl
   generalize Rg.redP p j=x at *
   have h6:283*2^(6-j)≤283*2^6:=Nat.mul_le_mul (Nat.le_refl _) (Nat.pow_le_pow_right (by decide) (by omega))
   haveI:Cv .u64 (14-(j:Int)) ((14-j:Nat):Int):=by rw [show 14-(j:Int)=((14-j:Nat):Int) by omega];exact cvu (14-j) (by omega)
   haveI:Cv .u64 (14-(j:Int)-8) ((6-j:Nat):Int):=by rw [show 14-(j:Int)-8=((6-j:Nat):Int) by omega];exact cvu (6-j) (by omega)
   haveI:=shrI x (14-j) (by omega)
   haveI:UShl .i64 283 ((6-j:Nat):Int) ((283*2^(6-j):Nat):Int):=shlI 283 (6-j) (by omega) (by omega)
   haveI:=xorI x (283*2^(6-j)) (by omega) (by omega)
   by_cases hb1:x/2^(14-j)%2=1
   ·rw [if_pos hb1] at hs
    have hb2:((x/2^(14-j):Nat):Int)%2=1:=by omega
    generalize x/2^(14-j)=y at *
    generalize 283*2^(6-j)=z at *
    repeat' (refine W.go ?_;try intro b_)
    rw [show (14:Int)-(j:Int)-1=14-((j+1:Nat):Int) by omega]
    rw [← hs]
    refine HandF.mk (j+1) ?_
    omega
   ·rw [if_neg hb1] at hs
    have hb2:¬ ((x/2^(14-j):Nat):Int)%2=1:=by omega
    generalize x/2^(14-j)=y at *
    repeat' (refine W.go ?_;try intro b_)
    rw [show (14:Int)-(j:Int)-1=14-((j+1:Nat):Int) by omega]
    rw [← hs]
    refine HandF.mk (j+1) ?_
    omega
  ·have:j=7:=by omega
   subst this
   repeat' (refine W.go ?_;try intro b_)
   refine CutF.mk () ?_
   trivial
 rintro _ -
 have e:Rg.mul a b=UInt8.ofNat (Rg.redP p 7):=by unfold Rg.mul;rw [hq]
 rw [e]
 generalize Rg.redP p 7=x at *
 repeat' (refine W.go ?_;try intro b_)
 refine Fin.to [] ?_
 exact F.f1 ⟨rfl,rfl⟩
theorem rinv_p(a:UInt8):Tri Tryz.prog 227 [u8v a] [] (fun _=>True) (fun v H=>v=u8v (Rg.inv a)∧H=[]):=by
 refine Tri.mk Tryz.func227 rfl Tryz.ntmps227 rfl fun w hw=>?_
 repeat' (refine W.gb ?_;try intro b_)
 refine SW.cut [] [] (fun _:Unit=>[]) (fun _=>[]) (fun _=>∀ j<256,¬ Rg.mul a (UInt8.ofNat j)=1) ?_ ?_
 ·repeat' (refine W.go ?_;try intro b_)
  refine SW.loopG [0] [] (fun k:Nat=>[(3,.int .i64 (k:Int))]) (fun _=>[]) (fun k=>256-k) (fun k=>k≤256∧∀ j<k,¬ Rg.mul a (UInt8.ofNat j)=1) 0 ⟨Nat.zero_le _,fun j hj=>absurd hj (Nat.not_lt_zero _)⟩ ?_
  rintro k ⟨hk,hno⟩
  by_cases h:k<256
  ·by_cases h1:Rg.mul a (UInt8.ofNat k)=1
   ·have e:Rg.inv a=UInt8.ofNat k:=by
     have:(List.range 256).find? (fun k=>Rg.mul a (UInt8.ofNat k) == 1)=some k:=by
      rw [List.find?_range_eq_some]
      exact⟨by simp [h1],List.mem_range.2 h,fun j hj=>by simp [hno j hj]⟩
     unfold Rg.inv
     rw [this];rfl
    rw [e]
    have h2:((Rg.mul a (UInt8.ofNat k)).toNat:Int)=1:=by rw [h1];rfl
    repeat' (refine W.go ?_;try intro b_)
    refine W.call (rmul_p a (UInt8.ofNat k)) ?_
    rintro _ _ ⟨rfl,rfl⟩
    repeat' (refine W.go ?_;try intro b_)
    refine Fin.to [] ?_
    exact F.f1 ⟨rfl,rfl⟩
   ·have h2:¬ ((Rg.mul a (UInt8.ofNat k)).toNat:Int)=1:=fun e=>h1 (by
     apply UInt8.toNat_inj.1
     show _=1
     omega)
    repeat' (refine W.go ?_;try intro b_)
    refine W.call (rmul_p a (UInt8.ofNat k)) ?_
    rintro _ _ ⟨rfl,rfl⟩
    repeat' (refine W.go ?_;try intro b_)
    refine HandF.mk (k+1) ?_
    refine⟨h,fun j hj=>?_⟩
    rcases Nat.lt_or_eq_of_le (Nat.le_of_lt_succ hj) with h3|h3
    ·exact hno j h3
    ·rw [h3];exact h1
  ·have:k=256:=by omega
   subst this
   repeat' (refine W.go ?_;try intro b_)
   refine CutF.mk () ?_
   exact hno
 rintro _ hno
 have e:Rg.inv a=0:=by
  have:(List.range 256).find? (fun k=>Rg.mul a (UInt8.ofNat k) == 1)=none:=by
   rw [List.find?_range_eq_none]
   exact fun j hj=>by simp [hno j hj]
  unfold Rg.inv
  rw [this];rfl
 rw [e]
 repeat' (refine W.go ?_;try intro b_)
 refine Fin.to [] ?_
 exact F.f1 ⟨rfl,rfl⟩
theorem rsub_p(c:UInt8):Tri Tryz.prog 178 [u8v c] [] (fun _=>True) (fun v H=>v=u8v (Rg.sub c)∧H=[]):=by
 refine Tri.mk Tryz.func178 rfl Tryz.ntmps178 rfl fun w hw=>?_
 obtain⟨i,hi⟩:∃ i,Rg.inv c=i:=⟨_,rfl⟩
 have e:Rg.sub c=UInt8.ofNat (Rg.subO i 8):=by unfold Rg.sub;rw [hi]
 rw [e]
 repeat' (refine W.go ?_;try intro b_)
 refine W.call (rinv_p c) ?_
 rintro _ _ ⟨rfl,rfl⟩
 rw [hi]
 repeat' (refine W.gb ?_;try intro b_)
 refine SW.cut [] [] (fun _:Unit=>[(4,.int .i64 (Rg.subO i 8:Nat))]) (fun _=>[]) (fun _=>True) ?_ ?_
 ·repeat' (refine W.go ?_;try intro b_)
  refine SW.loopG [3] [] (fun j:Nat=>[(4,.int .i64 (Rg.subO i j:Nat)),(5,.int .i64 (7-(j:Int)))]) (fun _=>[]) (fun j=>8-j) (fun j=>j≤8) 0 (Nat.zero_le _) ?_
  intro j hj
  by_cases h:j<8
  ·have hb:=Rg.subO_lt i j
   have hb2:2^j≤2^8:=Nat.pow_le_pow_right (by decide) hj
   have hs:Rg.subO i (j+1)=2*Rg.subO i j+Rg.bits i (7-j)%2:=rfl
   have hbs:Rg.bits i (7-j)=Rg.bit i (7-j)+Rg.bit i (7-j+4)+Rg.bit i (7-j+5)+Rg.bit i (7-j+6)+Rg.bit i (7-j+7)+Rg.bit 99 (7-j):=rfl
   have hk:(7:Int)-(j:Int)=((7-j:Nat):Int):=by omega
   have hbit:∀ c k,Rg.bit c k<2:=fun c k=>Nat.mod_lt _ (by decide)
   generalize 7-j=k at *
   have g0:=hbit i k
   have g4:=hbit i (k+4)
   have g5:=hbit i (k+5)
   have g6:=hbit i (k+6)
   have g7:=hbit i (k+7)
   have g9:=hbit 99 k
   rw [hk]
   have c0:=rbit_p i k (by omega)
   have c4:=rbit_p i (k+4) (by omega)
   have c5:=rbit_p i (k+5) (by omega)
   have c6:=rbit_p i (k+6) (by omega)
   have c7:=rbit_p i (k+7) (by omega)
   have c9:=rbit_p 99 k (by omega)
   rw [Int.natCast_add] at c4 c5 c6 c7
   repeat' (refine W.go ?_;try intro b_)
   refine W.call c0 ?_
   rintro _ _ ⟨rfl,rfl⟩
   repeat' (refine W.go ?_;try intro b_)
   refine W.call c4 ?_
   rintro _ _ ⟨rfl,rfl⟩
   repeat' (refine W.go ?_;try intro b_)
   refine W.call c5 ?_
   rintro _ _ ⟨rfl,rfl⟩
   repeat' (refine W.go ?_;try intro b_)
   refine W.call c6 ?_
   rintro _ _ ⟨rfl,rfl⟩
   repeat' (refine W.go ?_;try intro b_)
   refine W.call c7 ?_
   rintro _ _ ⟨rfl,rfl⟩
   repeat' (refine W.go ?_;try intro b_)
   refine W.call c9 ?_
   rintro _ _ ⟨rfl,rfl⟩
   repeat' (refine W.go ?_;try intro b_)
   rw [show (2:Int)*(Rg.subO i j:Nat)+((Rg.bit i k:Nat)+(Rg.bit i (k+4):Nat)+(Rg.bit i (k+5):Nat)+(Rg.bit i (k+6):Nat)+(Rg.bit i (k+7):Nat)+(Rg.bit 99 k:Nat):Int)%2=((Rg.subO i (j+1):Nat):Int) by rw [hs,hbs];omega,
    show (k:Int)-1=7-((j+1:Nat):Int) by omega]
   refine HandF.mk (j+1) ?_
   omega
  ·have:j=8:=by omega
   subst this
   repeat' (refine W.go ?_;try intro b_)
   refine CutF.mk () ?_
   trivial
 rintro _ -
 have hb:=Rg.subO_lt i 8
 generalize Rg.subO i 8=x at *
 repeat' (refine W.go ?_;try intro b_)
 refine Fin.to [] ?_
 exact F.f1 ⟨rfl,rfl⟩
namespace Rg
def subN(n:Nat):List UInt8:=(List.range n).map (fun k=>sub (UInt8.ofNat k))++List.replicate (256-n) 0
def subL:List UInt8:=(List.range 256).map fun k=>sub (UInt8.ofNat k)
def backN:Nat→List UInt8
 | 0=>List.replicate 256 0
 | n+1=>(backN n).set (sub (UInt8.ofNat n)).toNat (UInt8.ofNat n)
theorem subN_len{n:Nat}(h:n≤256):(subN n).length=256:=by unfold subN;simp;omega
theorem subN_set{n:Nat}(h:n<256):(subN n).set n (sub (UInt8.ofNat n))=subN (n+1):=by
 unfold subN
 rw [List.set_append_right _ _ (by simp),List.range_succ,List.map_append,List.append_assoc]
 congr 1
 rw [List.length_map,List.length_range,Nat.sub_self,show 256-n=(256-(n+1))+1 by omega,List.replicate_succ]
 rfl
theorem subN_at{n:Nat}(h:n<256):(subN (n+1))[n]?=some (sub (UInt8.ofNat n)):=by
 rw [← subN_set h,List.getElem?_set_self (by rw [subN_len (Nat.le_of_lt h)];exact h)]
theorem subN_all:subN 256=subL:=by unfold subN subL;simp
theorem backN_len(n:Nat):(backN n).length=256:=by
 induction n with
 | zero=>exact List.length_replicate
 | succ n ih=>unfold backN;rw [List.length_set,ih]
theorem subL_len:subL.length=256:=by unfold subL;simp
theorem zero256:List.replicate 256 (.int .u8 0)=cbs (backN 0):=by
 show _=cbs (List.replicate 256 0)
 unfold cbs
 rw [List.map_replicate]
 rfl
theorem zero256':List.replicate 256 (.int .u8 0)=cbs (subN 0):=zero256
end Rg
theorem cbs_stI(xs:List UInt8)(i:Nat)(v:UInt8):(cbs xs).set i (u8v v)=cbs (xs.set i v):=by unfold cbs;rw [List.map_set]
theorem cbs_at2{xs:List UInt8}{i:Nat}{x:UInt8}(h:xs[i]?=some x):(cbs xs)[i]?=some (u8v x):=by unfold cbs;rw [List.getElem?_map,h];rfl
theorem F.cc{P:Program}{C:Ctx}{ρ:Fr}{H:Hp}{fn:Func}{R:Value→Hp→Prop}{e:Exit}{t u ty n b b':Nat}{l l':List Value}{T T':TypeId}(l2 l3:List Value)(hR:R (.tuple #[.agg l2.toArray,.agg l3.toArray]) [])(he:e=.ret∨e=.normal:=by first|exact .inl rfl|exact .inr rfl)(hrs:fn.results=#[.cell t ty,.cell u ty]:=by exact rfl)(ht:lk ρ t=some (.pointer (some ⟨b,0,none⟩)):=by exact rfl)(hu:lk ρ u=some (.pointer (some ⟨b',0,none⟩)):=by exact rfl)(hat:At H b (cl l T):=by infer_instance)(hat':At H b' (cl l' T'):=by infer_instance)(hl:l=l2:=by first|assumption|exact rfl)(hl':l'=l3:=by first|assumption|exact rfl)(iR:RowTy P ty n:=by infer_instance)(hn:l2.length=n:=by first|assumption|exact rfl)(hn':l3.length=n:=by first|assumption|exact rfl):Fin P C fn R e ρ H:=by
 subst hl hl'
 refine Fin.of (Hc:=[]) (s:=H) he (by simp) hR fun a w hf hs=>?_
 have h1:=run_load_a (P:=P) (w:=w) (t:=ty) (b:=b) (l:=l) (T:=T) (fz:=(0,0)) (r:=l) (i:=0) hs.at (by rw [← hn];simp) hn
 have h2:=run_load_a (P:=P) (w:=w) (t:=ty) (b:=b') (l:=l') (T:=T') (fz:=(0,0)) (r:=l') (i:=0) hs.at (by rw [← hn'];simp) hn'
 have h3:=tmps_getD hf ht
 have h4:=tmps_getD hf hu
 rw [Array.getD_eq_getD_getElem?] at h3 h4
 simp [results,hrs,h3,h4,asAddr,h1,h2]
theorem rtable_p:Tri Tryz.prog 114 [] [] (fun _=>True) (fun v H=>v=.tuple #[.agg (cbs Rg.subL).toArray,.agg (cbs (Rg.backN 256)).toArray]∧H=[]):=by
 refine Tri.mk Tryz.func114 rfl Tryz.ntmps114 rfl fun w hw=>?_
 repeat' (refine W.gb ?_;try intro b_)
 rename_i b0 b1 b2
 refine SW.cutH [0,1,2,3] [(b2,cl (List.replicate 256 (.int .u8 0)) 220),(b_,cl (List.replicate 256 (.int .u8 0)) 220)] (fun _:Unit=>[]) (fun _=>[(b2,cl (cbs Rg.subL) 220),(b_,cl (cbs (Rg.backN 256)) 220)]) (fun _=>True) ?_ ?_
 ·repeat' (refine W.go ?_;try intro b_)
  rw [show (b2,cl (List.replicate 256 (.int .u8 0)) 220)=(b2,cl (cbs (Rg.subN 0)) 220) by rw [Rg.zero256'],show (b_,cl (List.replicate 256 (.int .u8 0)) 220)=(b_,cl (cbs (Rg.backN 0)) 220) by rw [Rg.zero256]]
  refine SW.loopF [0,1,2,3] (fun n:Nat=>[(4,.int .i64 (n:Int))]) (fun n=>[(b2,cl (cbs (Rg.subN n)) 220),(b_,cl (cbs (Rg.backN n)) 220)]) (fun n=>256-n) (fun n=>n≤256) 0 (Nat.zero_le _) ?_
  intro n hn
  by_cases h:n<256
  ·have hc:=rsub_p (UInt8.ofNat n)
   have h1:=cbs_stI (Rg.subN n) n (Rg.sub (UInt8.ofNat n))
   rw [Rg.subN_set h] at h1
   have h2:=cbs_stI (Rg.backN n) (Rg.sub (UInt8.ofNat n)).toNat (UInt8.ofNat n)
   rw [show (Rg.backN n).set (Rg.sub (UInt8.ofNat n)).toNat (UInt8.ofNat n)=Rg.backN (n+1) from rfl] at h2
   have h3:=cbs_at2 (Rg.subN_at h)
   have hl1:n<(cbs (Rg.subN n)).length:=by rw [show (cbs (Rg.subN n)).length=(Rg.subN n).length from List.length_map ..,Rg.subN_len hn];exact h
   generalize Rg.sub (UInt8.ofNat n)=x at *
   have hx:x.toNat<256:=x.toNat_lt
   have hl2:x.toNat<(cbs (Rg.backN n)).length:=by rw [show (cbs (Rg.backN n)).length=(Rg.backN n).length from List.length_map ..,Rg.backN_len];exact hx
   repeat' (refine W.go ?_;try intro b_)
   refine W.call hc ?_
   rintro _ _ ⟨rfl,rfl⟩
   repeat' (refine W.go ?_;try intro b_)
   rw [h1]
   repeat' (refine W.go ?_;try intro b_)
   rw [h2]
   refine HandF.mk (n+1) ?_
   omega
  ·have:n=256:=by omega
   subst this
   rw [Rg.subN_all]
   repeat' (refine W.go ?_;try intro b_)
   refine CutF.mk () ?_
   trivial
 rintro _ -
 have hl1:(cbs Rg.subL).length=256:=by rw [show (cbs Rg.subL).length=Rg.subL.length from List.length_map ..,Rg.subL_len]
 have hl2:(cbs (Rg.backN 256)).length=256:=by rw [show (cbs (Rg.backN 256)).length=(Rg.backN 256).length from List.length_map ..,Rg.backN_len]
 have hz:(List.replicate 256 (Value.int .u8 0)).length=256:=List.length_replicate
 have oX:OC (cbs Rg.subL):=inferInstance
 have oY:OC (cbs (Rg.backN 256)):=inferInstance
 generalize List.replicate 256 (Value.int .u8 0)=Z at *
 generalize cbs Rg.subL=X at *
 generalize cbs (Rg.backN 256)=Y at *
 repeat' (refine W.go ?_;try intro b_)
 (refine SW.regionS [3] ?_ (by kernel_rfl);(first|refine SS.lw 0 [3] rfl ?_|refine SS.la 0 [3] rfl ?_|refine SS.aR 0 rfl ?_);(first|refine SS.lw 1 [3] rfl ?_|refine SS.la 1 [3] rfl ?_|refine SS.aR 1 rfl ?_);refine SS.effK 2 ?_ rfl (by kernel_rfl);(repeat' (refine W.g1 ?_;try intro b_));refine SS.effB 3 ?_ rfl (by kernel_rfl);(repeat' (refine W.g1 ?_;try intro b_));refine SS.done ?_ (by kernel_rfl))
 repeat' (refine W.go ?_;try intro b_)
 exact F.cc _ _ ⟨rfl,rfl⟩
end Go.Proofs.YtnigolgkkjidiaaGreat
