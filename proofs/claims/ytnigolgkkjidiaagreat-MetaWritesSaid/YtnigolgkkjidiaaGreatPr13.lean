/- The program's bytes as polynomials; its box. -/
import Derived.Test.YtnigolgkkjidiaaGreatPr0
import Derived.Test.YtnigolgkkjidiaaGreatPr3
import Derived.Test.YtnigolgkkjidiaaGreatPr5
import Derived.Test.YtnigolgkkjidiaaGreatPr11
import Derived.Test.YtnigolgkkjidiaaGreatPr12
import Derived.Test.YtnigolgkkjidiaaGreatPr4
import Derived.Test.YtnigolgkkjidiaaGreatPr10
set_option linter.unusedVariables false
set_option linter.unusedSimpArgs false
set_option linter.unusedSectionVars false
set_option maxHeartbeats 2000000
namespace Go.Proofs.YtnigolgkkjidiaaGreat
open Go Go.Proofs.Tryz
section
attribute [local irreducible] SW SL SQ SH SA SS Pu Fin bZ aT
abbrev u8v(a:UInt8):Value:=.int .u8 (a.toNat:Int)
theorem aHn(a:UInt8):Tri prog 267 [u8v a] [] (fun _=>True) (fun v H=>v=u8v (Gf.twice a)∧H=[]):=by
 refine Tri.mk func267 rfl ntmps267 rfl fun w hw=>?_
 refine W.k ?_
 exact F.n
theorem aFX(a b:UInt8):Tri prog 222 [u8v a,u8v b] [] (fun _=>True) (fun v H=>v=u8v (Gf.mul a b)∧H=[]):=by
 refine Tri.mk func222 rfl ntmps222 rfl fun w hw=>?_
 refine W.j ?_
 refine SW.cut [] [] (fun _:Unit=>[(5,u8v (Gf.mul a b))]) (fun _=>[]) (fun _=>True) ?_ ?_
 ·refine W.k ?_
  refine bV [] [] (fun n:Nat=>[(0,u8v (Gf.mulN a b n).2.1),(1,u8v (Gf.mulN a b n).2.2),(5,u8v (Gf.mulN a b n).1),(6,.int .i64 (n:Int))]) (fun _=>[]) (fun n=>8-n) (fun n=>n≤8) 0 (Nat.zero_le _) ?_
  intro n hn
  by_cases h:n<8
  ·have hs:Gf.mulN a b (n+1)=Gf.mulS (Gf.mulN a b n):=rfl
   generalize Gf.mulN a b n=s at *
   obtain⟨o,x,y⟩:=s
   have e1:(Gf.mulN a b (n+1)).1=o ^^^ x*(y &&& 1):=by rw [hs];rfl
   have e2:(Gf.mulN a b (n+1)).2.1=Gf.twice x:=by rw [hs];rfl
   have e3:(Gf.mulN a b (n+1)).2.2=y >>> 1:=by rw [hs];rfl
   dsimp only
   refine W.k ?_
   refine W.cw (aHn x) ?_
   rw [← e1,← e2,← e3]
   refine aT.mk (n+1) ?_
   omega
  ·have:n=8:=om
   subst this
   refine W.k ?_
   refine bZ.mk () ?_
   trivial
 rintro _ -
 refine W.k ?_
 exact F.n
theorem aO6(k:Nat):UAr .and .i64 (k:Int) 1 ((k%2:Nat):Int):=⟨fun P w t=>by
 have e:IntKind.i64.wrap (((BitVec.ofInt IntKind.i64.bits (k:Int) &&& BitVec.ofInt IntKind.i64.bits 1).toNat:Nat):Int)=((k%2:Nat):Int):=by
  have h1:(BitVec.ofInt IntKind.i64.bits (k:Int)).toNat=((k:Int)%18446744073709551616).toNat:=jV ..
  have h2:(BitVec.ofInt IntKind.i64.bits 1).toNat=2^1-1:=rfl
  rw [lA,h1,h2,lB]
  have h3:((k:Int)%18446744073709551616).toNat%2^1=k%2:=om
  rw [h3]
  exact w64 om
 simp only [binOp,Op.intBits,ne_eq,not_true_eq_false,if_false,Sem.run_pure]
 exact congrArg (fun z=>Result.ok (Value.int .i64 z) w) e⟩
theorem aPg(k:Nat):aFK .i64 (k:Int) 1 ((k/2:Nat):Int):=⟨by
 refine⟨by omega,?_⟩
 show Int.fdiv (k:Int) (2^1)=_
 rw [iE _ dc]
 omega⟩
theorem aG9(a:UInt8)(n:Nat)(hn:n≤1000000):Tri prog 169 [u8v a,.int .i64 (n:Int)] [] (fun _=>True) (fun v H=>v=u8v (Gf.pow a n)∧H=[]):=by
 refine Tri.mk func169 rfl ntmps169 rfl fun w hw=>?_
 refine W.j ?_
 refine SW.cut [] [] (fun _:Unit=>[(5,u8v (Gf.pow a n))]) (fun _=>[]) (fun _=>True) ?_ ?_
 ·refine W.k ?_
  refine bV [] [] (fun s:UInt8×UInt8×Nat=>[(0,u8v s.2.1),(1,.int .i64 (s.2.2:Int)),(5,u8v s.1)]) (fun _=>[]) (fun s=>s.2.2) (fun s=>s.2.2≤1000000∧Gf.powF s.2.2 s.1 s.2.1 s.2.2=Gf.pow a n) (1,a,n) ⟨hn,rfl⟩ ?_
  rintro⟨o,x,m⟩ ⟨hm,he⟩
  dsimp only at hm he ⊢
  by_cases h:0<m
  ·have hA:=aO6 m
   have hB:=aPg m
   rw [Gf.powF_step o x h] at he
   by_cases hb:m%2=1
   ·rw [if_pos hb] at he
    rw [hb] at hA
    refine W.k ?_
    refine W.cw (aFX o x) ?_
    refine W.cw (aFX x x) ?_
    refine aT.mk (Gf.mul o x,Gf.mul x x,m/2) ?_
    exact⟨by dsimp only;omega,he⟩
   ·have hb0:m%2=0:=om
    rw [if_neg hb] at he
    rw [hb0] at hA
    refine W.k ?_
    refine W.cw (aFX x x) ?_
    refine aT.mk (o,Gf.mul x x,m/2) ?_
    exact⟨by dsimp only;omega,he⟩
  ·have:m=0:=om
   subst this
   have e2:o=Gf.pow a n:=he
   subst e2
   refine W.k ?_
   refine bZ.mk () ?_
   trivial
 rintro _ -
 refine W.k ?_
 exact F.n
theorem aOy(a:UInt8):Tri prog 106 [u8v a] [] (fun _=>True) (fun v H=>v=u8v (Gf.inv a)∧H=[]):=by
 refine Tri.mk func106 rfl ntmps106 rfl fun w hw=>?_
 refine W.k ?_
 refine W.cw (aG9 a 254 dc) ?_
 exact F.n
theorem aDz(i k r:UInt8)(b:Nat)(hk:k.toNat<8)(hr:r.toNat<8)(hs:(8:UInt8)-k=r)(h8:(8:Int)-k.toNat=r.toNat):Tri prog 170 [.int .i64 (k.toNat:Int),.pointer (some ⟨b,0,none⟩)] [(b,cl [u8v i] 5)] (fun _=>True) (fun v H=>v=u8v (Gf.rot i k r)∧H=[(b,cl [u8v i] 5)]):=by
 refine Tri.mk func170 rfl ntmps170 rfl fun w hw=>?_
 haveI:Lt8 (k.toNat:Int) k:=⟨rfl,hk⟩
 haveI:Lt8 (8-(k.toNat:Int)) r:=⟨h8,hr⟩
 refine W.k ?_
 (refine SW.l [] [0,1,2,3,4,5,6,7,8,9] ?_)
 refine W.k ?_
 refine Fin.to [(b,cl [u8v i] 5)] ?_
 exact F.f1 ⟨rfl,rfl⟩
instance i8of(k:Nat):Cv .u8 (k:Int) ((UInt8.ofNat k).toNat:Int):=⟨by rw [sI,cR];omega⟩
theorem aOr(i:UInt8):Tri prog 105 [u8v i] [] (fun _=>True) (fun v H=>v=u8v (Gf.aff i)∧H=[]):=by
 refine Tri.mk func105 rfl ntmps105 rfl fun w hw=>?_
 have c1:=fun b=>aDz i 1 7 b dc dc dc dc
 have c2:=fun b=>aDz i 2 6 b dc dc dc dc
 have c3:=fun b=>aDz i 3 5 b dc dc dc dc
 have c4:=fun b=>aDz i 4 4 b dc dc dc dc
 refine W.k fun b_=>?_
 (refine SW.l [] [0,1,4,7,10] ?_;refine aX 2 ?_)
 refine dH [(b_,cl [u8v i] 5)] rfl rfl rfl rfl rfl rfl (c1 b_) (fun _ _=>trivial) ?_
 rintro _ _ ⟨rfl,rfl⟩
 (refine SL.l [3] ?_;refine aX 5 ?_)
 refine dH [(b_,cl [u8v i] 5)] rfl rfl rfl rfl rfl rfl (c2 b_) (fun _ _=>trivial) ?_
 rintro _ _ ⟨rfl,rfl⟩
 (refine SL.l [6] ?_;refine aX 8 ?_)
 refine dH [(b_,cl [u8v i] 5)] rfl rfl rfl rfl rfl rfl (c3 b_) (fun _ _=>trivial) ?_
 rintro _ _ ⟨rfl,rfl⟩
 (refine SL.l [9] ?_;refine aX 11 ?_)
 refine dH [(b_,cl [u8v i] 5)] rfl rfl rfl rfl rfl rfl (c4 b_) (fun _ _=>trivial) ?_
 rintro _ _ ⟨rfl,rfl⟩
 (refine SL.l [12,13,14,15] ?_)
 refine W.k ?_
 exact F.n
theorem aKY{xs:List UInt8}{i:Nat}{x:UInt8}(h:xs[i]?=some x)(r:List Value):(cbs xs++r)[i]?=some (u8v x):=by
 have hl:i<xs.length:=(aG.1 h).1
 rw [aN (by unfold cbs;simpa using hl)]
 unfold cbs
 rw [aH,h];rfl
theorem aI1{b:Nat}{l m:List UInt8}(hl:l.length=256)(x:UInt8):Tri prog 221 [.pointer (some ⟨b,0,none⟩),u8v x] [(b,cl (cbs l++cbs m) 222)] (fun _=>True) (fun v H=>v=u8v (l.getD x.toNat 0)∧H=[(b,cl (cbs l++cbs m) 222)]):=by
 refine Tri.mk func221 rfl ntmps221 rfl fun w hw=>?_
 have hx:x.toNat<256:=x.toNat_lt
 have hg:l[x.toNat]?=some (l.getD x.toNat 0):=by rw [aF,aA om];rfl
 have hv:=aKY hg (cbs m)
 refine W.k ?_
 refine Fin.to [(b,cl (cbs l++cbs m) 222)] ?_
 exact F.f1 ⟨rfl,rfl⟩
theorem aEJ{xs:List UInt8}{i:Nat}(h:i<xs.length)(v:UInt8)(r:List Value):(cbs xs++r).set i (u8v v)=cbs (xs.set i v)++r:=by
 rw [fN _ _ (by unfold cbs;simpa using h)]
 unfold cbs
 rw [gF]
theorem aIJ{xs ys:List UInt8}{n:Nat}(hn:xs.length=n)(i:Nat)(v:UInt8):(cbs xs++cbs ys).set (n+i) (u8v v)=cbs xs++cbs (ys.set i v):=by
 have hl:(cbs xs).length=n:=by unfold cbs;simpa using hn
 rw [bX _ _ om,hl,show n+i-n=i by omega]
 unfold cbs
 rw [gF]
def Gf.subN(n:Nat):List UInt8:=(List.range n).map Gf.subB++List.replicate (256-n) 0
theorem Gf.subN_len{n:Nat}(h:n≤256):(Gf.subN n).length=256:=by unfold Gf.subN;simp;omega
theorem Gf.subN_set{n:Nat}(h:n<256):(Gf.subN n).set n (Gf.subB n)=Gf.subN (n+1):=by
 unfold Gf.subN
 rw [bX _ _ (by simp),bS,bB,bE]
 congr 1
 rw [aE,cZ,dM,show 256-n=(256-(n+1))+1 by omega,fF]
 rfl
theorem Gf.subN_all:Gf.subN 256=Gf.subL:=by unfold Gf.subN Gf.subL;simp
def Gf.boxN(n:Nat):List Value:=cbs (Gf.subN n)++cbs (Gf.backN n)
theorem Gf.box0:List.replicate 512 (.int .u8 0)=Gf.boxN 0:=by
 show _=cbs (List.replicate 256 0)++cbs (List.replicate 256 0)
 unfold cbs
 rw [dX]
 exact (fD (m:=256) (n:=256)).symm
theorem aJp:Tri prog 42 [] [] (fun _=>True) (fun v H=>∃ b,v=.pointer (some ⟨b,0,none⟩)∧H=[(b,cl (cbs Gf.subL++cbs (Gf.backN 256)) 222)]):=by
 refine Tri.mk func42 rfl ntmps42 rfl fun w hw=>?_
 refine W.j fun b_=>?_
 rw [Gf.box0]
 refine cN [1] [(b_,cl (Gf.boxN 0) 222)] (fun _:Unit=>[]) (fun _=>[(b_,cl (cbs Gf.subL++cbs (Gf.backN 256)) 222)]) (fun _=>True) ?_ ?_
 ·refine W.k ?_
  refine bV [1] [b_] (fun n:Nat=>[(6,.int .i64 (n:Int))]) (fun n=>[(b_,cl (Gf.boxN n) 222)]) (fun n=>256-n) (fun n=>n≤256) 0 (Nat.zero_le _) ?_
  intro n hn
  by_cases h:n<256
  ·have e1:UInt8.ofNat n=UInt8.ofNat n:=rfl
   have hb:(Gf.subB n).toNat<256:=(Gf.subB n).toNat_lt
   have hlen:(Gf.boxN n).length=512:=by unfold Gf.boxN cbs;simp [Gf.subN_len hn,Gf.backN_len]
   have hlt:n<(Gf.boxN n).length:=om
   have hs1:(Gf.boxN n).set n (u8v (Gf.subB n))=cbs (Gf.subN (n+1))++cbs (Gf.backN n):=by
    unfold Gf.boxN
    rw [aEJ (by rw [Gf.subN_len hn];exact h),Gf.subN_set h]
   have hs2:(cbs (Gf.subN (n+1))++cbs (Gf.backN n)).set (256+(Gf.subB n).toNat) (u8v (UInt8.ofNat n))=Gf.boxN (n+1):=aIJ (Gf.subN_len h) _ _
   have hl2:(cbs (Gf.subN (n+1))++cbs (Gf.backN n)).length=512:=by unfold cbs;simp [Gf.subN_len (show n+1≤256 from h),Gf.backN_len]
   have hlt2:256+(Gf.subB n).toNat<(cbs (Gf.subN (n+1))++cbs (Gf.backN n)).length:=om
   refine W.k ?_
   refine W.cw (aOy (UInt8.ofNat n)) ?_
   refine W.cq (aOr (Gf.inv (UInt8.ofNat n))) ?_
   rw [show Gf.aff (Gf.inv (UInt8.ofNat n))=Gf.subB n from rfl]
   refine W.k ?_
   rw [hs1]
   refine W.k ?_
   rw [hs2]
   refine W.k ?_
   refine aT.mk (n+1) ?_
   omega
  ·have:n=256:=om
   subst this
   have e:Gf.boxN 256=cbs Gf.subL++cbs (Gf.backN 256):=by unfold Gf.boxN;rw [Gf.subN_all]
   rw [e]
   refine W.k ?_
   refine bZ.mk () ?_
   trivial
 rintro _ -
 refine W.k ?_
 refine Fin.to [(b_,cl (cbs Gf.subL++cbs (Gf.backN 256)) 222)] ?_
 exact F.f1 ⟨_,rfl,rfl⟩
namespace Rg
def mulP(a b:UInt8):Nat→Nat
 | 0=>0
 | k+1=>if b.toNat/2^k%2=1 then mulP a b k ^^^ (a.toNat*2^k) else mulP a b k
def redP(p:Nat):Nat→Nat
 | 0=>p
 | j+1=>if redP p j/2^(14-j)%2=1 then redP p j ^^^ (283*2^(6-j)) else redP p j
def mul(a b:UInt8):UInt8:=UInt8.ofNat (redP (mulP a b 8) 7)
def inv(a:UInt8):UInt8:=UInt8.ofNat (((List.range 256).find? fun k=>mul a (UInt8.ofNat k) == 1).getD 0)
def bit(c:UInt8)(k:Nat):Nat:=c.toNat/2^(k%8)%2
def bits(i:UInt8)(k:Nat):Nat:=bit i k+bit i (k+4)+bit i (k+5)+bit i (k+6)+bit i (k+7)+bit 99 k
def subO(i:UInt8):Nat→Nat
 | 0=>0
 | j+1=>2*subO i j+bits i (7-j)%2
def sub(c:UInt8):UInt8:=UInt8.ofNat (subO (inv c) 8)
theorem mulP_lt(a b:UInt8)(k:Nat)(hk:k≤8):mulP a b k<2^15:=by
 induction k with
 | zero=>exact Nat.two_pow_pos 15
 | succ k ih=>
  have h1:=ih om
  unfold mulP
  split
  ·refine nN h1 ?_
   have ha:a.toNat<256:=a.toNat_lt
   have h2:2^k≤2^7:=cV dc om
   have:a.toNat*2^k≤255*2^7:=jZ om h2
   omega
  ·exact h1
theorem redP_lt{p:Nat}(hp:p<2^15)(j:Nat):redP p j<2^15:=by
 induction j with
 | zero=>exact hp
 | succ j ih=>
  unfold redP
  split
  ·refine nN ih ?_
   have h2:2^(6-j)≤2^6:=cV dc om
   have:283*2^(6-j)≤283*2^6:=jZ (Nat.le_refl _) h2
   omega
  ·exact ih
theorem subO_lt(i:UInt8)(j:Nat):subO i j<2^j:=by
 induction j with
 | zero=>exact Nat.one_pos
 | succ j ih=>unfold subO;have:=Nat.mod_lt (bits i (7-j)) (show 0<2 by decide);omega
end Rg
theorem aOZ(m n:Nat)(hm:m<2^62)(hn:n<2^62):UAr .xor .i64 (m:Int) (n:Int) ((m ^^^ n:Nat):Int):=⟨fun P w t=>by
 have hx:m ^^^ n<2^62:=nN hm hn
 have e:IntKind.i64.wrap (((BitVec.ofInt IntKind.i64.bits (m:Int) ^^^ BitVec.ofInt IntKind.i64.bits (n:Int)).toNat:Nat):Int)=((m ^^^ n:Nat):Int):=by
  have h1:∀ z:Nat,z<2^62→(BitVec.ofInt IntKind.i64.bits (z:Int)).toNat=z:=fun z hz=>by
   show (BitVec.ofInt 64 (z:Int)).toNat=z
   rw [jV]
   omega
  rw [BitVec.toNat_xor,h1 m hm,h1 n hn]
  exact w64 om
 simp only [binOp,Op.intBits,ne_eq,not_true_eq_false,if_false,Sem.run_pure]
 exact congrArg (fun z=>Result.ok (Value.int .i64 z) w) e⟩
theorem aOU(m k:Nat)(hk:k≤64):aFK .i64 (m:Int) (k:Int) ((m/2^k:Nat):Int):=⟨by
 refine⟨by omega,?_⟩
 rw [bK,dB (by show k≤64;omega),iE _ (by exact_mod_cast Nat.zero_le _)]
 simp⟩
theorem aPf(m k:Nat)(hk:k≤64)(h:m*2^k<2^62):aFJ .i64 (m:Int) (k:Int) ((m*2^k:Nat):Int):=⟨by
 refine⟨by omega,?_⟩
 rw [bK,dB (by show k≤64;omega)]
 have:(m:Int)*2^k=((m*2^k:Nat):Int):=by simp
 rw [this]
 exact w64 om⟩
theorem cvu(k:Nat)(h:k<2^63):Cv .u64 (k:Int) (k:Int):=⟨by rw [kS];omega⟩
theorem aAL(c:UInt8)(k:Nat)(hk:k≤1000):Tri prog 228 [u8v c,.int .i64 (k:Int)] [] (fun _=>True) (fun v H=>v=.int .i64 (Rg.bit c k:Nat)∧H=[]):=by
 refine Tri.mk func228 rfl ntmps228 rfl fun w hw=>?_
 have h8:(k:Int)%8=((k%8:Nat):Int):=om
 haveI:=aOU c.toNat (k%8) om
 haveI:Cv .u64 ((k:Int)%8) ((k%8:Nat):Int):=by rw [h8];exact cvu (k%8) om
 have hc:c.toNat<256:=c.toNat_lt
 rw [show Rg.bit c k=c.toNat/2^(k%8)%2 from rfl]
 generalize c.toNat/2^(k%8)=y at *
 rw [show ((y%2:Nat):Int)=(y:Int)%2 by omega]
 refine W.k ?_
 exact F.n
theorem aGh(a b:UInt8):Tri prog 115 [u8v a,u8v b] [] (fun _=>True) (fun v H=>v=u8v (Rg.mul a b)∧H=[]):=by
 refine Tri.mk func115 rfl ntmps115 rfl fun w hw=>?_
 have ha:a.toNat<256:=a.toNat_lt
 have hb:b.toNat<256:=b.toNat_lt
 have hP:=Rg.mulP_lt a b 8 (Nat.le_refl _)
 refine W.j ?_
 refine SW.cut [] [] (fun _:Unit=>[(5,.int .i64 (Rg.mulP a b 8:Nat))]) (fun _=>[]) (fun _=>True) ?_ ?_
 ·refine W.k ?_
  refine bV [0,1] [] (fun k:Nat=>[(5,.int .i64 (Rg.mulP a b k:Nat)),(6,.int .i64 (2^k:Nat)),(7,.int .i64 (k:Int))]) (fun _=>[]) (fun k=>8-k) (fun k=>k≤8) 0 (Nat.zero_le _) ?_
  intro k hk
  by_cases h:k<8
  ·have hp:=Rg.mulP_lt a b k hk
   have h2:2^k≤2^7:=cV dc om
   have h20:0<2^k:=Nat.two_pow_pos k
   have h3:a.toNat*2^k≤255*2^7:=jZ om h2
   have hs:Rg.mulP a b (k+1)=if b.toNat/2^k%2=1 then Rg.mulP a b k ^^^ (a.toNat*2^k) else Rg.mulP a b k:=rfl
   have h2s:2^(k+1)=2*2^k:=by rw [gG];omega
   generalize Rg.mulP a b k=p at *
   generalize 2^k=w at *
   have hq:(b.toNat:Int)/(w:Int)=((b.toNat/w:Nat):Int):=by simp
   have hq0:0≤(b.toNat:Int)/(w:Int):=by rw [hq];exact Int.natCast_nonneg _
   have hw1:(a.toNat:Int)*(w:Int)=((a.toNat*w:Nat):Int):=by simp
   haveI:UAr .xor .i64 (p:Int) ((a.toNat:Int)*(w:Int)) ((p ^^^ a.toNat*w:Nat):Int):=by rw [hw1];exact aOZ p (a.toNat*w) om om
   by_cases hb1:b.toNat/w%2=1
   ·rw [if_pos hb1] at hs
    have hb2:(b.toNat:Int)/(w:Int)%2=1:=om
    refine W.k ?_
    rw [show (2:Int)*(w:Int)=((2^(k+1):Nat):Int) by rw [h2s];omega]
    rw [← hs]
    refine aT.mk (k+1) ?_
    omega
   ·rw [if_neg hb1] at hs
    have hb2:¬ (b.toNat:Int)/(w:Int)%2=1:=om
    refine W.k ?_
    rw [show (2:Int)*(w:Int)=((2^(k+1):Nat):Int) by rw [h2s];omega]
    rw [← hs]
    refine aT.mk (k+1) ?_
    omega
  ·have:k=8:=om
   subst this
   refine W.k ?_
   refine bZ.mk () ?_
   trivial
 rintro _ -
 generalize hq:Rg.mulP a b 8=p at *
 have hq2:=Rg.redP_lt hP 7
 refine nO ?_
 refine W.j ?_
 refine SW.cut [] [] (fun _:Unit=>[(5,.int .i64 (Rg.redP p 7:Nat))]) (fun _=>[]) (fun _=>True) ?_ ?_
 ·refine W.k ?_
  refine bV [] [] (fun j:Nat=>[(5,.int .i64 (Rg.redP p j:Nat)),(8,.int .i64 (14-(j:Int)))]) (fun _=>[]) (fun j=>7-j) (fun j=>j≤7) 0 (Nat.zero_le _) ?_
  intro j hj
  by_cases h:j<7
  ·have hr:=Rg.redP_lt hP j
   have hs:Rg.redP p (j+1)=if Rg.redP p j/2^(14-j)%2=1 then Rg.redP p j ^^^ (283*2^(6-j)) else Rg.redP p j:=rfl
   generalize Rg.redP p j=x at *
   have h6:283*2^(6-j)≤283*2^6:=jZ (Nat.le_refl _) (cV dc om)
   haveI:Cv .u64 (14-(j:Int)) ((14-j:Nat):Int):=by rw [show 14-(j:Int)=((14-j:Nat):Int) by omega];exact cvu (14-j) om
   haveI:Cv .u64 (14-(j:Int)-8) ((6-j:Nat):Int):=by rw [show 14-(j:Int)-8=((6-j:Nat):Int) by omega];exact cvu (6-j) om
   haveI:=aOU x (14-j) om
   haveI:aFJ .i64 283 ((6-j:Nat):Int) ((283*2^(6-j):Nat):Int):=aPf 283 (6-j) om om
   haveI:=aOZ x (283*2^(6-j)) om om
   by_cases hb1:x/2^(14-j)%2=1
   ·rw [if_pos hb1] at hs
    have hb2:((x/2^(14-j):Nat):Int)%2=1:=om
    generalize x/2^(14-j)=y at *
    generalize 283*2^(6-j)=z at *
    refine W.k ?_
    rw [show (14:Int)-(j:Int)-1=14-((j+1:Nat):Int) by omega]
    rw [← hs]
    refine aT.mk (j+1) ?_
    omega
   ·rw [if_neg hb1] at hs
    have hb2:¬ ((x/2^(14-j):Nat):Int)%2=1:=om
    generalize x/2^(14-j)=y at *
    refine W.k ?_
    rw [show (14:Int)-(j:Int)-1=14-((j+1:Nat):Int) by omega]
    rw [← hs]
    refine aT.mk (j+1) ?_
    omega
  ·have:j=7:=om
   subst this
   refine W.k ?_
   refine bZ.mk () ?_
   trivial
 rintro _ -
 have e:Rg.mul a b=UInt8.ofNat (Rg.redP p 7):=by unfold Rg.mul;rw [hq]
 rw [e]
 generalize Rg.redP p 7=x at *
 refine W.k ?_
 exact F.n
theorem aNQ(a:UInt8):Tri prog 227 [u8v a] [] (fun _=>True) (fun v H=>v=u8v (Rg.inv a)∧H=[]):=by
 refine Tri.mk func227 rfl ntmps227 rfl fun w hw=>?_
 refine W.j ?_
 refine SW.cut [] [] (fun _:Unit=>[]) (fun _=>[]) (fun _=>∀ j<256,¬ Rg.mul a (UInt8.ofNat j)=1) ?_ ?_
 ·refine W.k ?_
  refine bV [0] [] (fun k:Nat=>[(3,.int .i64 (k:Int))]) (fun _=>[]) (fun k=>256-k) (fun k=>k≤256∧∀ j<k,¬ Rg.mul a (UInt8.ofNat j)=1) 0 ⟨Nat.zero_le _,fun j hj=>absurd hj (jL _)⟩ ?_
  rintro k ⟨hk,hno⟩
  by_cases h:k<256
  ·by_cases h1:Rg.mul a (UInt8.ofNat k)=1
   ·have e:Rg.inv a=UInt8.ofNat k:=by
     have:(List.range 256).find? (fun k=>Rg.mul a (UInt8.ofNat k) == 1)=some k:=by
      rw [List.find?_range_eq_some]
      exact⟨by simp [h1],fC.2 h,fun j hj=>by simp [hno j hj]⟩
     unfold Rg.inv
     rw [this];rfl
    rw [e]
    have h2:((Rg.mul a (UInt8.ofNat k)).toNat:Int)=1:=by rw [h1];rfl
    refine W.k ?_
    refine W.cw (aGh a (UInt8.ofNat k)) ?_
    exact F.n
   ·have h2:¬ ((Rg.mul a (UInt8.ofNat k)).toNat:Int)=1:=fun e=>h1 (by
     apply fA.1
     show _=1
     omega)
    refine W.k ?_
    refine W.cw (aGh a (UInt8.ofNat k)) ?_
    refine aT.mk (k+1) ?_
    refine⟨h,fun j hj=>?_⟩
    rcases Nat.lt_or_eq_of_le (Nat.le_of_lt_succ hj) with h3|h3
    ·exact hno j h3
    ·rw [h3];exact h1
  ·have:k=256:=om
   subst this
   refine W.k ?_
   refine bZ.mk () ?_
   exact hno
 rintro _ hno
 have e:Rg.inv a=0:=by
  have:(List.range 256).find? (fun k=>Rg.mul a (UInt8.ofNat k) == 1)=none:=by
   rw [List.find?_range_eq_none]
   exact fun j hj=>by simp [hno j hj]
  unfold Rg.inv
  rw [this];rfl
 rw [e]
 refine W.k ?_
 exact F.n
theorem aNX(c:UInt8):Tri prog 178 [u8v c] [] (fun _=>True) (fun v H=>v=u8v (Rg.sub c)∧H=[]):=by
 refine Tri.mk func178 rfl ntmps178 rfl fun w hw=>?_
 obtain⟨i,hi⟩:∃ i,Rg.inv c=i:=⟨_,rfl⟩
 have e:Rg.sub c=UInt8.ofNat (Rg.subO i 8):=by unfold Rg.sub;rw [hi]
 rw [e]
 refine W.k ?_
 refine W.cq (aNQ c) ?_
 rw [hi]
 refine W.j ?_
 refine SW.cut [] [] (fun _:Unit=>[(4,.int .i64 (Rg.subO i 8:Nat))]) (fun _=>[]) (fun _=>True) ?_ ?_
 ·refine W.k ?_
  refine bV [3] [] (fun j:Nat=>[(4,.int .i64 (Rg.subO i j:Nat)),(5,.int .i64 (7-(j:Int)))]) (fun _=>[]) (fun j=>8-j) (fun j=>j≤8) 0 (Nat.zero_le _) ?_
  intro j hj
  by_cases h:j<8
  ·have hb:=Rg.subO_lt i j
   have hb2:2^j≤2^8:=cV dc hj
   have hs:Rg.subO i (j+1)=2*Rg.subO i j+Rg.bits i (7-j)%2:=rfl
   have hbs:Rg.bits i (7-j)=Rg.bit i (7-j)+Rg.bit i (7-j+4)+Rg.bit i (7-j+5)+Rg.bit i (7-j+6)+Rg.bit i (7-j+7)+Rg.bit 99 (7-j):=rfl
   have hk:(7:Int)-(j:Int)=((7-j:Nat):Int):=om
   have hbit:∀ c k,Rg.bit c k<2:=fun c k=>Nat.mod_lt _ dc
   generalize 7-j=k at *
   have g0:=hbit i k
   have g4:=hbit i (k+4)
   have g5:=hbit i (k+5)
   have g6:=hbit i (k+6)
   have g7:=hbit i (k+7)
   have g9:=hbit 99 k
   rw [hk]
   have c0:=aAL i k om
   have c4:=aAL i (k+4) om
   have c5:=aAL i (k+5) om
   have c6:=aAL i (k+6) om
   have c7:=aAL i (k+7) om
   have c9:=aAL 99 k om
   rw [Int.natCast_add] at c4 c5 c6 c7
   refine W.k ?_
   refine W.cw c0 ?_
   refine W.cw c4 ?_
   refine W.cw c5 ?_
   refine W.cw c6 ?_
   refine W.cw c7 ?_
   refine W.cw c9 ?_
   rw [show (2:Int)*(Rg.subO i j:Nat)+((Rg.bit i k:Nat)+(Rg.bit i (k+4):Nat)+(Rg.bit i (k+5):Nat)+(Rg.bit i (k+6):Nat)+(Rg.bit i (k+7):Nat)+(Rg.bit 99 k:Nat):Int)%2=((Rg.subO i (j+1):Nat):Int) by rw [hs,hbs];omega,
    show (k:Int)-1=7-((j+1:Nat):Int) by omega]
   refine aT.mk (j+1) ?_
   omega
  ·have:j=8:=om
   subst this
   refine W.k ?_
   refine bZ.mk () ?_
   trivial
 rintro _ -
 have hb:=Rg.subO_lt i 8
 generalize Rg.subO i 8=x at *
 refine W.k ?_
 exact F.n
namespace Rg
def subN(n:Nat):List UInt8:=(List.range n).map (fun k=>sub (UInt8.ofNat k))++List.replicate (256-n) 0
def subL:List UInt8:=(List.range 256).map fun k=>sub (UInt8.ofNat k)
def backN:Nat→List UInt8
 | 0=>List.replicate 256 0
 | n+1=>(backN n).set (sub (UInt8.ofNat n)).toNat (UInt8.ofNat n)
theorem subN_len{n:Nat}(h:n≤256):(subN n).length=256:=by unfold subN;simp;omega
theorem subN_set{n:Nat}(h:n<256):(subN n).set n (sub (UInt8.ofNat n))=subN (n+1):=by
 unfold subN
 rw [bX _ _ (by simp),bS,bB,bE]
 congr 1
 rw [aE,cZ,dM,show 256-n=(256-(n+1))+1 by omega,fF]
 rfl
theorem subN_at{n:Nat}(h:n<256):(subN (n+1))[n]?=some (sub (UInt8.ofNat n)):=by
 rw [← subN_set h,iG (by rw [subN_len (Nat.le_of_lt h)];exact h)]
theorem subN_all:subN 256=subL:=by unfold subN subL;simp
theorem backN_len(n:Nat):(backN n).length=256:=by
 induction n with
 | zero=>exact aM
 | succ n ih=>unfold backN;rw [cP,ih]
theorem subL_len:subL.length=256:=by unfold subL;simp
theorem zero256:List.replicate 256 (.int .u8 0)=cbs (backN 0):=by
 show _=cbs (List.replicate 256 0)
 unfold cbs
 rw [dX]
 rfl
theorem zero256':List.replicate 256 (.int .u8 0)=cbs (subN 0):=zero256
end Rg
theorem aDD(xs:List UInt8)(i:Nat)(v:UInt8):(cbs xs).set i (u8v v)=cbs (xs.set i v):=by unfold cbs;rw [gF]
theorem aA9{xs:List UInt8}{i:Nat}{x:UInt8}(h:xs[i]?=some x):(cbs xs)[i]?=some (u8v x):=by unfold cbs;rw [aH,h];rfl
theorem F.cc{P:Program}{C:Ctx}{ρ:Fr}{H:Hp}{fn:Func}{R:Value→Hp→Prop}{e:Exit}{t u ty n b b':Nat}{l l':List Value}{T T':TypeId}(l2 l3:List Value)(hR:R (.tuple #[.agg l2.toArray,.agg l3.toArray]) [])(he:e=.ret∨e=.normal:=by first|exact .inl rfl|exact .inr rfl)(hrs:fn.results=#[.cell t ty,.cell u ty]:=by exact rfl)(ht:lk ρ t=some (.pointer (some ⟨b,0,none⟩)):=by exact rfl)(hu:lk ρ u=some (.pointer (some ⟨b',0,none⟩)):=by exact rfl)(hat:At H b (cl l T):=by infer_instance)(hat':At H b' (cl l' T'):=by infer_instance)(hl:l=l2:=by first|assumption|exact rfl)(hl':l'=l3:=by first|assumption|exact rfl)(iR:eN P ty n:=by infer_instance)(hn:l2.length=n:=by first|assumption|exact rfl)(hn':l3.length=n:=by first|assumption|exact rfl):Fin P C fn R e ρ H:=by
 subst hl hl'
 refine Fin.of (Hc:=[]) (s:=H) he (by simp) hR fun a w hf hs=>?_
 have h1:=nS (P:=P) (w:=w) (t:=ty) (b:=b) (l:=l) (T:=T) (fz:=(0,0)) (r:=l) (i:=0) hs.at (by rw [← hn];simp) hn
 have h2:=nS (P:=P) (w:=w) (t:=ty) (b:=b') (l:=l') (T:=T') (fz:=(0,0)) (r:=l') (i:=0) hs.at (by rw [← hn'];simp) hn'
 have h3:=jK hf ht
 have h4:=jK hf hu
 rw [fV] at h3 h4
 simp [results,hrs,h3,h4,asAddr,h1,h2]
theorem aJ6:Tri prog 114 [] [] (fun _=>True) (fun v H=>v=.tuple #[.agg (cbs Rg.subL).toArray,.agg (cbs (Rg.backN 256)).toArray]∧H=[]):=by
 refine Tri.mk func114 rfl ntmps114 rfl fun w hw=>?_
 refine W.j fun _ _ _ b_=>?_
 rename_i b0 b1 b2
 refine cN [0,1,2,3] [(b2,cl (List.replicate 256 (.int .u8 0)) 220),(b_,cl (List.replicate 256 (.int .u8 0)) 220)] (fun _:Unit=>[]) (fun _=>[(b2,cl (cbs Rg.subL) 220),(b_,cl (cbs (Rg.backN 256)) 220)]) (fun _=>True) ?_ ?_
 ·refine W.k ?_
  rw [show (b2,cl (List.replicate 256 (.int .u8 0)) 220)=(b2,cl (cbs (Rg.subN 0)) 220) by rw [Rg.zero256'],show (b_,cl (List.replicate 256 (.int .u8 0)) 220)=(b_,cl (cbs (Rg.backN 0)) 220) by rw [Rg.zero256]]
  refine bN [0,1,2,3] (fun n:Nat=>[(4,.int .i64 (n:Int))]) (fun n=>[(b2,cl (cbs (Rg.subN n)) 220),(b_,cl (cbs (Rg.backN n)) 220)]) (fun n=>256-n) (fun n=>n≤256) 0 (Nat.zero_le _) ?_
  intro n hn
  by_cases h:n<256
  ·have hc:=aNX (UInt8.ofNat n)
   have h1:=aDD (Rg.subN n) n (Rg.sub (UInt8.ofNat n))
   rw [Rg.subN_set h] at h1
   have h2:=aDD (Rg.backN n) (Rg.sub (UInt8.ofNat n)).toNat (UInt8.ofNat n)
   rw [show (Rg.backN n).set (Rg.sub (UInt8.ofNat n)).toNat (UInt8.ofNat n)=Rg.backN (n+1) from rfl] at h2
   have h3:=aA9 (Rg.subN_at h)
   have hl1:n<(cbs (Rg.subN n)).length:=by rw [show (cbs (Rg.subN n)).length=(Rg.subN n).length from aE ..,Rg.subN_len hn];exact h
   generalize Rg.sub (UInt8.ofNat n)=x at *
   have hx:x.toNat<256:=x.toNat_lt
   have hl2:x.toNat<(cbs (Rg.backN n)).length:=by rw [show (cbs (Rg.backN n)).length=(Rg.backN n).length from aE ..,Rg.backN_len];exact hx
   refine W.k ?_
   refine W.cw hc ?_
   rw [h1]
   refine W.k ?_
   rw [h2]
   refine aT.mk (n+1) ?_
   omega
  ·have:n=256:=om
   subst this
   rw [Rg.subN_all]
   refine W.k ?_
   refine bZ.mk () ?_
   trivial
 rintro _ -
 have hl1:(cbs Rg.subL).length=256:=by rw [show (cbs Rg.subL).length=Rg.subL.length from aE ..,Rg.subL_len]
 have hl2:(cbs (Rg.backN 256)).length=256:=by rw [show (cbs (Rg.backN 256)).length=(Rg.backN 256).length from aE ..,Rg.backN_len]
 have hz:(List.replicate 256 (Value.int .u8 0)).length=256:=aM
 have oX:OC (cbs Rg.subL):=inferInstance
 have oY:OC (cbs (Rg.backN 256)):=inferInstance
 generalize List.replicate 256 (Value.int .u8 0)=Z at *
 generalize cbs Rg.subL=X at *
 generalize cbs (Rg.backN 256)=Y at *
 refine W.k ?_
 (refine SW.l [3] [0,1] ?_;refine aX 2 ?_;refine W.i ?_;refine cB 3 ?_;refine W.i ?_;refine eI ?_)
 refine W.k ?_
 exact F.cc _ _ ⟨rfl,rfl⟩
namespace Gm
def up(n k:Nat):Nat:=(n+k-1)/k
def sealed(p:Nat):Nat:=1+up p 16+p
def epochs(p:Nat):Nat:=up (sealed p) 32
def leaves(p:Nat):Nat:=1+epochs p+sealed p
def total(p t:Nat):Nat:=leaves p+(1+t)
def Ok(p t:Nat):Prop:=1≤p∧p≤64∧4≤t∧t≤24
theorem up_le(n k:Nat)(hk:0<k):up n k≤n:=by
 unfold up
 rcases gW n with rfl|hn
 ·rw [fP,sV om];exact Nat.le_refl _
 ·refine Nat.div_le_of_le_mul ?_
  have:=jZ hn hk
  have h2:k*n=(k-1)*n+n:=by rw [← gH];congr 1;omega
  have h3:(k-1)*1≤(k-1)*n:=jZ (Nat.le_refl _) hn
  omega
theorem sealed_le{p t:Nat}(h:Ok p t):sealed p≤129:=by have:=up_le p 16 dc;obtain⟨_,h2,_⟩:=h;unfold sealed;omega
theorem epochs_le{p t:Nat}(h:Ok p t):epochs p≤129:=jC (up_le _ 32 dc) (sealed_le h)
theorem leaves_le{p t:Nat}(h:Ok p t):leaves p≤259:=by have:=sealed_le h;have:=epochs_le h;unfold leaves;omega
theorem total_le{p t:Nat}(h:Ok p t):total p t≤284:=by have:=leaves_le h;obtain⟨_,_,_,h2⟩:=h;unfold total;omega
end Gm
abbrev iX(p t:Nat):Value:=.agg #[.int .i64 (p:Int),.int .i64 (t:Int)]
abbrev uL(p t:Nat):List Value:=[.int .i64 (p:Int),.int .i64 (t:Int)]
theorem iW{p t:Nat}(h:Gm.Ok p t):Tri prog 75 [iX p t] [] (fun _=>True) (fun v H=>v=.int .i64 0∧H=[]):=by
 obtain⟨h1,h2,h3,h4⟩:=h
 refine Tri.mk func75 rfl ntmps75 rfl fun w hw=>?_
 refine W.k fun b_=>?_
 exact F.n
theorem tF{k:Nat}(h:k<65536):Tri prog 70 [.int .i64 (k:Int)] [] (fun _=>True) (fun v H=>v=.int .i64 ((256*k:Nat):Int)∧H=[]):=by
 refine Tri.mk func70 rfl ntmps70 rfl fun w hw=>?_
 rw [show ((256*k:Nat):Int)=256*(k:Int) by omega]
 refine W.k ?_
 exact F.n
theorem aI2(n k:Nat)(hk:0<k)(hn:n≤1000000)(hk2:k≤1000000):Tri prog 148 [.int .i64 (n:Int),.int .i64 (k:Int)] [] (fun _=>True) (fun v H=>v=.int .i64 (Gm.up n k:Nat)∧H=[]):=by
 refine Tri.mk func148 rfl ntmps148 rfl fun w hw=>?_
 have e:((Gm.up n k:Nat):Int)=((n:Int)+(k:Int)-1)/(k:Int):=by
  unfold Gm.up
  rw [show (n:Int)+(k:Int)-1=((n+k-1:Nat):Int) by omega]
  simp
 rw [e]
 refine W.k ?_
 exact F.n
theorem aC7(p t:Nat):Tri prog 272 [iX p t] [] (fun _=>True) (fun v H=>v=.int .i64 ((1:Nat):Int)∧H=[]):=by
 refine Tri.mk func272 rfl ntmps272 rfl fun w hw=>?_
 refine W.k fun b_=>?_
 exact F.n
theorem aGQ{p t:Nat}(h:Gm.Ok p t):Tri prog 181 [iX p t] [] (fun _=>True) (fun v H=>v=.int .i64 ((1+t:Nat):Int)∧H=[]):=by
 obtain⟨h1,h2,h3,h4⟩:=h
 refine Tri.mk func181 rfl ntmps181 rfl fun w hw=>?_
 rw [show ((1+t:Nat):Int)=1+(t:Int) by omega]
 refine W.k fun b_=>?_
 exact F.n
theorem tG{p t:Nat}(h:Gm.Ok p t):Tri prog 139 [iX p t] [] (fun _=>True) (fun v H=>v=.int .i64 (Gm.sealed p:Nat)∧H=[]):=by
 have hu:=Gm.up_le p 16 dc
 obtain⟨h1,h2,h3,h4⟩:=h
 refine Tri.mk func139 rfl ntmps139 rfl fun w hw=>?_
 have hc:=aI2 p 16 dc om dc
 rw [show ((Gm.sealed p:Nat):Int)=1+((Gm.up p 16:Nat):Int)+(p:Int) by unfold Gm.sealed;omega]
 generalize Gm.up p 16=u at *
 refine W.k fun b_=>?_
 (refine SW.l [] [0,1,4,5] ?_;refine aX 2 ?_)
 refine W.cq hc ?_
 (refine SL.l [3,6,7,8] ?_)
 refine W.k ?_
 exact F.n
theorem wT{p t:Nat}(h:Gm.Ok p t):Tri prog 191 [iX p t] [] (fun _=>True) (fun v H=>v=.int .i64 (Gm.epochs p:Nat)∧H=[]):=by
 refine Tri.mk func191 rfl ntmps191 rfl fun w hw=>?_
 have hs:=Gm.sealed_le h
 have hc:=tG h
 have hc2:=aI2 (Gm.sealed p) 32 dc om dc
 unfold Gm.epochs
 refine W.k fun b_=>?_
 refine W.cw hc ?_
 refine W.cw hc2 ?_
 exact F.n
theorem aEW:Tri prog 229 [] [] (fun _=>True) (fun v H=>v=.agg #[.func (.func 272) #[] #[],.func (.func 191) #[] #[],.func (.func 139) #[] #[],.func (.func 181) #[] #[]]∧H=[]):=by
 refine Tri.mk func229 rfl ntmps229 rfl fun w hw=>?_
 have hb:bQ (fun i=>some (i*1,1)) [.nilFunc,.nilFunc,.nilFunc,.nilFunc] [(0,.func (.func 272) #[] #[]),(1,.func (.func 191) #[] #[]),(2,.func (.func 139) #[] #[]),(3,.func (.func 181) #[] #[])]=some [.func (.func 272) #[] #[],.func (.func 191) #[] #[],.func (.func 139) #[] #[],.func (.func 181) #[] #[]]:=rfl
 refine W.k fun b_=>?_
 exact F.cH [] [.func (.func 272) #[] #[],.func (.func 191) #[] #[],.func (.func 139) #[] #[],.func (.func 181) #[] #[]] ⟨rfl,rfl⟩
def Gm.sumK(p t:Nat):Nat→Nat
 | 0=>0
 | 1=>1
 | 2=>1+Gm.epochs p
 | _=>1+Gm.epochs p+Gm.sealed p
theorem aEV{p t:Nat}(h:Gm.Ok p t):Tri prog 180 [iX p t,.int .i64 4] [] (fun _=>True) (fun v H=>v=.int .i64 (Gm.leaves p:Nat)∧H=[]):=by
 refine Tri.mk func180 rfl ntmps180 rfl fun w hw=>?_
 have c0:=aC7 p t
 have c1:=wT h
 have c2:=tG h
 have hs:=Gm.sealed_le h
 have he:=Gm.epochs_le h
 have s0:Gm.sumK p t 0=0:=rfl
 have s1:Gm.sumK p t 1=1:=rfl
 have s2:Gm.sumK p t 2=1+Gm.epochs p:=rfl
 have s3:Gm.sumK p t 3=1+Gm.epochs p+Gm.sealed p:=rfl
 refine W.j fun b_=>?_
 refine W.cq aEW ?_
 refine W.j ?_
 refine SW.cut [] [] (fun _:Unit=>[(5,.int .i64 (Gm.leaves p:Nat))]) (fun _=>[]) (fun _=>True) ?_ ?_
 ·refine W.k ?_
  refine bN [1,2,8] (fun k:Nat=>[(5,.int .i64 (Gm.sumK p t k:Nat)),(9,.int .i64 (k:Int))]) (fun k=>[(b_,cl (uL p t) 267)]) (fun k=>4-k) (fun k=>k≤4) 0 (Nat.zero_le _) ?_
  intro k hk
  by_cases h4:k<4
  ·rcases (by omega:k=0∨k=1∨k=2∨k=3) with rfl|rfl|rfl|rfl
   ·refine W.k ?_
    refine dH [] rfl rfl rfl rfl rfl rfl c0 (fun _ _=>trivial) ?_
    rintro _ _ ⟨rfl,rfl⟩
    refine W.k ?_
    rw [show ((Gm.sumK p t 0:Nat):Int)+(1:Nat)=((Gm.sumK p t 1:Nat):Int) by omega]
    refine aT.mk 1 ?_
    decide
   ·refine W.k ?_
    refine dH [] rfl rfl rfl rfl rfl rfl c1 (fun _ _=>trivial) ?_
    rintro _ _ ⟨rfl,rfl⟩
    refine W.k ?_
    rw [show ((Gm.sumK p t 1:Nat):Int)+(Gm.epochs p:Nat)=((Gm.sumK p t 2:Nat):Int) by omega]
    refine aT.mk 2 ?_
    decide
   ·refine W.k ?_
    refine dH [] rfl rfl rfl rfl rfl rfl c2 (fun _ _=>trivial) ?_
    rintro _ _ ⟨rfl,rfl⟩
    refine W.k ?_
    rw [show ((Gm.sumK p t 2:Nat):Int)+(Gm.sealed p:Nat)=((Gm.sumK p t 3:Nat):Int) by omega]
    refine aT.mk 3 ?_
    decide
   ·refine W.k ?_
    rw [show Gm.sumK p t 3=Gm.sumK p t 4 from rfl]
    refine aT.mk 4 ?_
    decide
  ·have:k=4:=om
   subst this
   rw [show Gm.sumK p t 4=Gm.leaves p from rfl]
   refine W.k ?_
   refine bZ.mk () ?_
   trivial
 rintro _ -
 refine W.k ?_
 exact F.n
theorem aFW{p t:Nat}(h:Gm.Ok p t):Tri prog 182 [iX p t] [] (fun _=>True) (fun v H=>v=.int .i64 (Gm.leaves p:Nat)∧H=[]):=by
 refine Tri.mk func182 rfl ntmps182 rfl fun w hw=>?_
 have hc:=aEV h
 refine W.k fun b_=>?_
 refine W.cw hc ?_
 exact F.n
theorem aHJ{p t:Nat}(h:Gm.Ok p t):Tri prog 179 [iX p t] [] (fun _=>True) (fun v H=>v=.int .i64 (Gm.total p t:Nat)∧H=[]):=by
 refine Tri.mk func179 rfl ntmps179 rfl fun w hw=>?_
 have hc:=aEV h
 have hc2:=aGQ h
 have hl:=Gm.leaves_le h
 have hl2:=Gm.total_le h
 rw [show ((Gm.total p t:Nat):Int)=((Gm.leaves p:Nat):Int)+((1+t:Nat):Int) by unfold Gm.total;omega]
 have hl3:(1+t)≤25:=by obtain⟨_,_,_,h4⟩:=h;omega
 refine W.k fun b_=>?_
 (refine SW.l [3] [0,2] ?_;refine aX 1 ?_)
 refine W.cq hc ?_
 (refine bO [] ?_;refine cB 3 ?_)
 refine W.cq hc2 ?_
 (refine SL.l [4,5,6] ?_)
 refine W.k ?_
 exact F.n
theorem tE{p t:Nat}(h:Gm.Ok p t){f:FuncId} [aZ prog f]{r:Value} [One r](hc:Tri prog f [iX p t] [] (fun _=>True) (fun v H=>v=r∧H=[])):Tri prog 146 [iX p t,.func (.func f) #[] #[]] [] (fun _=>True) (fun v H=>v=r∧H=[]):=by
 refine Tri.mk func146 rfl ntmps146 rfl fun w hw=>?_
 have hk:=iW h
 refine W.k fun b_=>?_
 refine W.cw hk ?_
 refine dH [] rfl rfl rfl rfl rfl rfl hc (fun _ _=>trivial) ?_
 rintro _ _ ⟨rfl,rfl⟩
 refine W.k ?_
 exact F.n
theorem aEY{p t:Nat}(h:Gm.Ok p t):Tri prog 116 [iX p t] [] (fun _=>True) (fun v H=>v=.int .i64 (Gm.total p t:Nat)∧H=[]):=by
 refine Tri.mk func116 rfl ntmps116 rfl fun w hw=>?_
 have hc:=tE h (aHJ h)
 refine W.k fun b_=>?_
 refine W.cw hc ?_
 exact F.n
theorem aC6{p t:Nat}(h:Gm.Ok p t):Tri prog 118 [iX p t] [] (fun _=>True) (fun v H=>v=.int .i64 (Gm.leaves p:Nat)∧H=[]):=by
 refine Tri.mk func118 rfl ntmps118 rfl fun w hw=>?_
 have hc:=tE h (aFW h)
 refine W.k fun b_=>?_
 refine W.cw hc ?_
 exact F.n
end
def lI(p:Nat)(n:Int)(l:List Int)(ps:List Pg):Bool:=decide (ps.length=p)&&(rOk n l&&(vH ps&&!ps.any (tI n)))
def oQ(ps:List Pg)(k:Nat):List UInt8:=pad 256 (rH ((ps.drop (16*k)).take 16))
def aB6(p:Nat)(ps:List Pg):List (List UInt8):=(List.range (Gm.up p 16)).map (oQ ps)
def vA(p:Nat)(n:Int)(l:List Int)(ps:List Pg):List (List UInt8):=gC n l::aB6 p ps
def gJ(bss:List (List UInt8)):List Pg:=(bss.map fQ).flatten
def kZ(p:Nat)(b:List UInt8)(bss:List (List UInt8)):Option (Int×List Int×List Pg):=
 match vZ b with
 | none=>none
 | some (n,l)=>if bss.all (fun b=>(fQ b).all fJ)=true∧(lI p n l ((gJ bss).take p)=true∧(gJ bss).drop p=zpg ((gJ bss).length-p)) then some (n,l,(gJ bss).take p) else none
theorem uN(bss:List (List UInt8)):(gJ bss).length=16*bss.length:=by
 unfold gJ
 rw [eD (n:=16) fun x hx=>by obtain⟨b,-,rfl⟩:=bG.1 hx;exact qX b,aE,kO]
theorem aJR(ps:List Pg)(k:Nat):(oQ ps k).length=256:=sD ..
theorem aDi(p:Nat)(ps:List Pg):(aB6 p ps).length=Gm.up p 16:=by unfold aB6;rw [aE,cZ]
theorem aC9{p:Nat}{n:Int}{l:List Int}{ps:List Pg}:∀ b∈vA p n l ps,b.length=256:=fun b hb=>by
 rcases cT.1 hb with rfl|hb
 ·exact aCh ..
 ·obtain⟨k,-,rfl⟩:=bG.1 hb
  exact aJR ..
theorem aDa(p:Nat)(n:Int)(l:List Int)(ps:List Pg):(vA p n l ps).length=1+Gm.up p 16:=by rw [vA,aW,aDi];omega
theorem aNF:aAH (List.replicate 16 0)=.pl 0:=by decide
theorem aJS{p:Pg}(h:fJ p=true):aAH (pgB p)=p:=by
 obtain⟨h0,h1,h2,h3,h4⟩:=aF1 h
 exact aNE p h0 h1 h2 h3 h4
theorem aFe(qs:List Pg)(hq:qs.length≤16)(hm:∀ q∈qs,fJ q=true):fQ (pad 256 (rH qs))=qs++zpg (16-qs.length):=by
 have hl:=wF qs
 have h16:∀ x∈qs.map pgB,x.length=16:=fun x hx=>by
  obtain⟨q,-,rfl⟩:=bG.1 hx
  exact aBl q
 apply cM
 intro k
 by_cases hk:k<16
 ·rw [aAI _ hk,xB om]
  by_cases hk2:k<qs.length
  ·have hg:=aA hk2
   have e:((rH qs++List.replicate (256-(rH qs).length) 0).drop (16*k)).take 16=pgB qs[k]:=by
    rw [bW om,aQ (by rw [aK];omega),kO]
    exact nB h16 (by rw [aH,hg];rfl)
   rw [e,aJS (hm _ (dR _)),aN hk2,hg]
  ·have e:((rH qs++List.replicate (256-(rH qs).length) (0:UInt8)).drop (16*k)).take 16=List.replicate 16 0:=by
    rw [eZ,eB om,List.nil_append,List.drop_replicate,List.take_replicate]
    congr 1;omega
   rw [e,aNF,aS om,zpg,gX,if_pos om]
 ·rw [aY (by rw [qX];omega),aY (by rw [aC,zpg,aM];omega)]
theorem yV{p:Nat}:p≤16*Gm.up p 16∧16*Gm.up p 16<p+16:=by unfold Gm.up;omega
theorem aB7:∀ (m:Nat) (ps:List Pg),ps.length≤16*m→(∀ q∈ps,fJ q=true)→gJ ((List.range m).map (oQ ps))=ps++zpg (16*m-ps.length)
 | 0,ps,h,_=>by
  have:ps=[]:=cE om
  subst this;rfl
 | m+1,ps,h,hm=>by
  have e:(List.range (m+1)).map (oQ ps)=oQ ps 0::(List.range m).map (oQ (ps.drop 16)):=by
   rw [List.range_succ_eq_map,dO,qI]
   congr 1
   apply eX
   intro k _
   show oQ ps (k+1)=oQ (ps.drop 16) k
   unfold oQ
   rw [bR,show 16+16*k=16*(k+1) by omega]
  have ih:=aB7 m (ps.drop 16) (by rw [aK];omega) (fun q hq=>hm q (fB hq))
  have e2:gJ (oQ ps 0::(List.range m).map (oQ (ps.drop 16)))=fQ (oQ ps 0)++gJ ((List.range m).map (oQ (ps.drop 16))):=rfl
  rw [e,e2,ih,oQ,Nat.mul_zero,bH,aFe _ (by rw [aD];omega) (fun q hq=>hm q (cX hq)),aD,aK]
  by_cases h16:16≤ps.length
  ·rw [dB h16,dM,show zpg 0=[] from rfl,aJ,← bE,bY]
   congr 2;omega
  ·rw [sW om,aB om,eB om,List.nil_append,bE]
   congr 1
   rw [zpg,zpg,zpg,fD]
   congr 1;omega
theorem aE9{ps:List Pg}(h:vH ps=true):∀ q∈ps,fJ q=true:=by
 unfold vH at h
 rw [bL,bL] at h
 exact fH.1 h.2.1
theorem aHO{p:Nat}{n:Int}{l:List Int}{ps:List Pg}(hl:l.length=16)(hu:∀ h∈l,isU h)(h:lI p n l ps=true):kZ p (gC n l) (aB6 p ps)=some (n,l,ps):=by
 have h0:=h
 unfold lI at h
 rw [bL,bL,bL] at h
 obtain⟨h1,h2,h3,h4⟩:=h
 have h1:=of_decide_eq_true h1
 have hm:=aE9 h3
 have hu2:=@yV p
 have hA:gJ (aB6 p ps)=ps++zpg (16*Gm.up p 16-ps.length):=aB7 _ ps om hm
 unfold kZ
 rw [aLd hl hu h2]
 dsimp only
 have hz:∀ m,(zpg m).length=m:=fun m=>aM ..
 rw [hA,dT h1,gS h1,if_pos]
 refine⟨?_,h0,?_⟩
 ·rw [fH]
  intro b hb
  obtain⟨k,hk,rfl⟩:=bG.1 hb
  rw [oQ,aFe _ (by rw [aD];omega) (fun q hq=>hm q (fB (cX hq))),gR,bL]
  refine⟨fH.2 fun q hq=>hm q (fB (cX hq)),fH.2 fun q hq=>?_⟩
  rw [fT hq];decide
 ·rw [aC,hz,h1]
  congr 1;omega
section
attribute [local irreducible] SW SL SQ SH SA SS Pu Fin bZ aT
namespace Aes
def S(x:UInt8):UInt8:=Gf.subL.getD x.toNat 0
def subW(w:List UInt8):List UInt8:=w.map S
def subN(w:List UInt8)(k:Nat):List UInt8:=subW (w.take k)++w.drop k
def xor4(a b:List UInt8):List UInt8:=List.zipWith (· ^^^ ·) a b
def xorN(a b:List UInt8)(k:Nat):List UInt8:=xor4 (a.take k) (b.take k)++a.drop k
theorem step_set{α:Type}(f:List α→List α)(w:List α)(v:α){k:Nat}{x:α}(hx:w[k]?=some x)(hl:(f (w.take k)).length=k)(hs:f (w.take (k+1))=f (w.take k)++[v]):(f (w.take k)++w.drop k).set k v=f (w.take (k+1))++w.drop (k+1):=by
 rw [bX _ _ om,hl,dM,hs]
 have:w.drop k=x::w.drop (k+1):=by
  obtain⟨hk,e⟩:=aG.1 hx
  rw [bM hk,e]
 rw [this]
 simp
theorem subN_set{w:List UInt8}{k:Nat}{x:UInt8}(hx:w[k]?=some x):(subN w k).set k (S x)=subN w (k+1):=by
 have hk:=(aG.1 hx).1
 refine step_set subW w (S x) hx (by unfold subW;simp;omega) ?_
 unfold subW
 rw [aO,hx]
 simp
theorem subN_at{w:List UInt8}{k:Nat}{x:UInt8}(hx:w[k]?=some x):(subN w k)[k]?=some x:=by
 have hk:=(aG.1 hx).1
 have hl:(subW (w.take k)).length=k:=by unfold subW;simp;omega
 unfold subN
 rw [aS om,hl,dM,bD]
 simpa using hx
theorem subN_len(w:List UInt8)(k:Nat):(subN w k).length=w.length:=by unfold subN subW;simp;omega
theorem subW_len(w:List UInt8):(subW w).length=w.length:=by unfold subW;simp
theorem xor4_len{a b:List UInt8}(h:a.length=b.length):(xor4 a b).length=a.length:=by unfold xor4;simp;omega
theorem xorN_set{a b:List UInt8}{k:Nat}{x y:UInt8}(hl:a.length=b.length)(hx:a[k]?=some x)(hy:b[k]?=some y):(xorN a b k).set k (x ^^^ y)=xorN a b (k+1):=by
 have hk:=(aG.1 hx).1
 have h1:(xor4 (a.take k) (b.take k)).length=k:=by unfold xor4;simp;omega
 unfold xorN
 rw [bX _ _ om,h1,dM]
 have:a.drop k=x::a.drop (k+1):=by
  obtain⟨hk,e⟩:=aG.1 hx
  rw [bM hk,e]
 rw [this,aO,aO,hx,hy]
 unfold xor4
 rw [eQ,eQ,List.zipWith_append (by simp;omega)]
 simp
theorem xorN_at{a b:List UInt8}{k:Nat}{x:UInt8}(hl:a.length=b.length)(hx:a[k]?=some x):(xorN a b k)[k]?=some x:=by
 have hk:=(aG.1 hx).1
 have h1:(xor4 (a.take k) (b.take k)).length=k:=by unfold xor4;simp;omega
 unfold xorN
 rw [aS om,h1,dM,bD]
 simpa using hx
theorem xorN_len{a b:List UInt8}(hl:a.length=b.length)(k:Nat):(xorN a b k).length=a.length:=by unfold xorN xor4;simp;omega
end Aes
theorem aFN{xs:List UInt8}{i:Nat}{x:UInt8}(h:xs[i]?=some x):(cbs xs)[i]?=some (u8v x):=by unfold cbs;rw [aH,h];rfl
theorem aIK(xs:List UInt8)(i:Nat)(v:UInt8):(cbs xs).set i (u8v v)=cbs (xs.set i v):=by unfold cbs;rw [gF]
theorem aID{xs:List UInt8}{k n:Nat}(hl:xs.length=n)(h:k<n):∃ x,xs[k]?=some x:=⟨_,aA om⟩
abbrev gI:Obj:=cl (cbs Gf.subL++cbs (Gf.backN 256)) 222
theorem Gf.subL_len:Gf.subL.length=256:=by unfold Gf.subL;simp
abbrev pK(b:Nat)(ws r:Value):Obj:=cl [.pointer (some ⟨b,0,none⟩),ws,r] 213
theorem aML{c b:Nat}{ws r:Value}(x:List UInt8)(hx4:x.length=4):Tri prog 168 [.pointer (some ⟨c,0,none⟩),.agg (cbs x).toArray] [(c,pK b ws r),(b,gI)] (fun _=>True)
  (fun v H=>v=.agg (cbs (Aes.subW x)).toArray∧H=[(c,pK b ws r),(b,gI)]):=by
 refine Tri.mk func168 rfl ntmps168 rfl fun w hw=>?_
 have hw0:Aes.subN x 0=x:=by unfold Aes.subN Aes.subW;simp
 have hw5:Aes.subN x 4=Aes.subW x:=by unfold Aes.subN;rw [aB om,eB om,aJ]
 refine W.j fun _ b_=>?_
 rename_i b3
 refine cN [0,3,4] [(b3,cl (cbs x) 217),(c,pK b ws r),(b,gI)] (fun _:Unit=>[]) (fun _=>[(b3,cl (cbs (Aes.subW x)) 217),(c,pK b ws r),(b,gI)]) (fun _=>True) ?_ ?_
 ·refine W.k ?_
  rw [show cl (cbs x) 217=cl (cbs (Aes.subN x 0)) 217 by rw [hw0]]
  refine bN [0,3,4] (fun n:Nat=>[(6,.int .i64 (n:Int))]) (fun n=>[(b3,cl (cbs (Aes.subN x n)) 217),(c,pK b ws r),(b,gI)]) (fun n=>4-n) (fun n=>n≤4) 0 (Nat.zero_le _) ?_
  intro n hn
  by_cases h:n<4
  ·obtain⟨y,hy⟩:=aID hx4 h
   have hv:=aFN (Aes.subN_at hy)
   have hs:=aIK (Aes.subN x n) n (Aes.S y)
   rw [Aes.subN_set hy] at hs
   have hlt:n<(cbs (Aes.subN x n)).length:=by unfold cbs;rw [aE,Aes.subN_len];omega
   refine W.k ?_
   (refine SW.l [8,10] [0,1,2,3,4,5,6,7] ?_;refine cB 8 ?_)
   refine W.cq (aI1 (m:=Gf.backN 256) Gf.subL_len y) ?_
   (refine SL.l [9] ?_;refine cB 10 ?_;refine W.i ?_;refine eI ?_)
   rw [show u8v (Gf.subL.getD y.toNat 0)=u8v (Aes.S y) from rfl,hs]
   refine W.k ?_
   refine aT.mk (n+1) ?_
   omega
  ·have:n=4:=om
   subst this
   rw [hw5]
   refine W.k ?_
   refine bZ.mk () ?_
   trivial
 rintro _ -
 have hL:(cbs (Aes.subW x)).length=4:=by unfold cbs;rw [aE,Aes.subW_len,hx4]
 refine W.k ?_
 exact F.cH [(c,pK b ws r),(b,gI)] _ ⟨rfl,rfl⟩
theorem aMN(x z:List UInt8)(hx4:x.length=4)(hz4:z.length=4):Tri prog 103 [.agg (cbs x).toArray,.agg (cbs z).toArray] [] (fun _=>True) (fun v H=>v=.agg (cbs (Aes.xor4 x z)).toArray∧H=[]):=by
 refine Tri.mk func103 rfl ntmps103 rfl fun w hw=>?_
 have hxz:x.length=z.length:=om
 have hw0:Aes.xorN x z 0=x:=by unfold Aes.xorN Aes.xor4;simp
 have hw5:Aes.xorN x z 4=Aes.xor4 x z:=by unfold Aes.xorN;rw [aB om,aB om,eB om,aJ]
 have hL:(cbs (Aes.xor4 x z)).length=4:=by unfold cbs;rw [aE,Aes.xor4_len hxz,hx4]
 refine W.j fun _ _ b_=>?_
 rename_i b2 b3
 refine cN [2,3,4] [(b2,cl (cbs x) 217),(b3,cl (cbs z) 217)] (fun _:Unit=>[]) (fun _=>[(b2,cl (cbs (Aes.xor4 x z)) 217),(b3,cl (cbs z) 217)]) (fun _=>True) ?_ ?_
 ·refine W.k ?_
  rw [show cl (cbs x) 217=cl (cbs (Aes.xorN x z 0)) 217 by rw [hw0]]
  refine bN [2,3,4] (fun n:Nat=>[(6,.int .i64 (n:Int))]) (fun n=>[(b2,cl (cbs (Aes.xorN x z n)) 217),(b3,cl (cbs z) 217)]) (fun n=>4-n) (fun n=>n≤4) 0 (Nat.zero_le _) ?_
  intro n hn
  by_cases h:n<4
  ·obtain⟨y,hy⟩:=aID hx4 h
   obtain⟨u,hu⟩:=aID hz4 h
   have hv:=aFN (Aes.xorN_at hxz hy)
   have hv2:=aFN hu
   have hs:=aIK (Aes.xorN x z n) n (y ^^^ u)
   rw [Aes.xorN_set hxz hy hu] at hs
   have hlt:n<(cbs (Aes.xorN x z n)).length:=by unfold cbs;rw [aE,Aes.xorN_len hxz];omega
   refine W.k ?_
   (refine SW.l [8] [0,1,2,3,4,5,6,7] ?_;refine cB 8 ?_;refine W.i ?_;refine eI ?_)
   rw [hs]
   refine W.k ?_
   refine aT.mk (n+1) ?_
   omega
  ·have:n=4:=om
   subst this
   rw [hw5]
   refine W.k ?_
   refine bZ.mk () ?_
   trivial
 rintro _ -
 refine W.k ?_
 exact F.cH [] _ ⟨rfl,rfl⟩
namespace Aes
def rotW(w:List UInt8):List UInt8:=w.drop 1++w.take 1
def xorH(w:List UInt8)(p:UInt8):List UInt8:=w.set 0 (w.getD 0 0 ^^^ p)
def nextW(w:List UInt8)(i n:Nat):List UInt8:=
 if i%n=0 then xorH (subW (rotW w)) (Gf.pow 2 (i/n-1)) else if 6<n∧i%n=4 then subW w else w
theorem nextW_len{w:List UInt8}(h:w.length=4)(i n:Nat):(nextW w i n).length=4:=by
 unfold nextW xorH rotW
 split
 ·rw [cP,subW_len];simp;omega
 ·split
  ·rw [subW_len];exact h
  ·exact h
end Aes
theorem aHF{w:List UInt8}(h:w.length=4):∃ a b c d,w=[a,b,c,d]:=by
 match w,h with
 | [a,b,c,d],_=>exact⟨a,b,c,d,rfl⟩
abbrev W4(ws:List (List UInt8)):Prop:=∀ x∈ws,x.length=4
theorem aKO{c b bw len cap:Nat}{r:Value}{junk:List Value}(ws:List (List UInt8))(hws:W4 ws)(hl:ws.length=len)(hc:len≤cap)(w0:List UInt8)(i n:Nat)(hn:4≤n)(hn8:n≤8)(hi:n≤i)(hi6:i≤1000)(hw0:ws[i-1]?=some w0) :
  Tri prog 104 [.pointer (some ⟨c,0,none⟩),.int .i64 (i:Int),.int .i64 (n:Int)] [(bw,cl (cbs ws.flatten++junk) 217),(c,pK b (.slice (some ⟨bw,0,none⟩) len cap) r),(b,gI)] (fun _=>True)
  (fun v H=>v=.agg (cbs (Aes.nextW w0 i n)).toArray∧H=[(bw,cl (cbs ws.flatten++junk) 217),(c,pK b (.slice (some ⟨bw,0,none⟩) len cap) r),(b,gI)]):=by
 refine Tri.mk func104 rfl ntmps104 rfl fun w hw=>?_
 have hx4:=hws w0 (aP hw0)
 have hil:i-1<ws.length:=(aG.1 hw0).1
 have hg:=sY (junk:=junk) hws hw0
 haveI:eG ((i:Int)-1) (i-1):=⟨by omega⟩
 obtain⟨a0,a1,a2,a3,rfl⟩:=aHF hx4
 have hL:=Aes.nextW_len hx4 i n
 have hL2:(cbs (Aes.nextW [a0,a1,a2,a3] i n)).length=4:=by unfold cbs;rw [aE,hL]
 generalize hF:(cbs ws.flatten++junk)=Fc at *
 refine W.j fun _ b_=>?_
 rename_i b6
 have hR:∀ k,k=i/n-1→(i:Int)/(n:Int)-1=(k:Int):=fun k hk=>by
  have h1:1≤i/n:=Nat.div_pos hi om
  have h2:(i:Int)/(n:Int)=((i/n:Nat):Int):=by simp
  omega
 have hM:(i:Int)%(n:Int)=((i%n:Nat):Int):=by simp
 refine cN [6,7] [(b_,cl (cbs [a0,a1,a2,a3]) 217),(b6,cl [.int .u8 0,.int .u8 0,.int .u8 0,.int .u8 0] 217),(bw,cl Fc 217),(c,pK b (.slice (some ⟨bw,0,none⟩) len cap) r),(b,gI)] (fun _:Unit=>[])
  (fun _=>[(b_,cl (cbs (Aes.nextW [a0,a1,a2,a3] i n)) 217),(b6,cl [.int .u8 0,.int .u8 0,.int .u8 0,.int .u8 0] 217),(bw,cl Fc 217),(c,pK b (.slice (some ⟨bw,0,none⟩) len cap) r),(b,gI)]) (fun _=>True) ?_ ?_
 ·have hs:=aML (c:=c) (b:=b) (ws:=.slice (some ⟨bw,0,none⟩) len cap) (r:=r)
  by_cases h0:i%n=0
  ·rw [h0] at hM
   have e:Aes.nextW [a0,a1,a2,a3] i n=[Aes.S a1 ^^^ Gf.pow 2 (i/n-1),Aes.S a2,Aes.S a3,Aes.S a0]:=by unfold Aes.nextW;rw [if_pos h0];rfl
   have hc0:cbs [a0,a1,a2,a3]=[u8v a0,u8v a1,u8v a2,u8v a3]:=rfl
   have hl4:(cbs (Aes.subW [a1,a2,a3,a0])).length=4:=rfl
   rw [e,hc0]
   refine W.k ?_
   refine W.cw (hs [a1,a2,a3,a0] rfl) ?_
   have hw:IntKind.i64.wrap ((i:Int)/(n:Int)-1)=((i/n-1:Nat):Int):=by
    have h2:i/n≤1000:=jC (lV ..) hi6
    rw [hR _ rfl];exact w64 om
   have h2:i/n-1≤1000000:=by
    have h2:i/n≤1000:=jC (lV ..) hi6
    omega
   (refine SW.l [9] [0,1,2,3] ?_;refine dL 4 rfl (aD3 rfl rfl rfl om om om) ?_;refine dL 5 rfl (aB4 rfl rfl rfl hw) ?_;refine aX 6 ?_)
   refine W.cq (aG9 2 (i/n-1) h2) ?_
   (refine SL.l [7,8] ?_;refine cB 9 ?_;refine W.i ?_;refine eI ?_)
   have hfin:(cbs (Aes.subW [a1,a2,a3,a0])).set 0 (.int .u8 ((Aes.S a1 ^^^ Gf.pow 2 (i/n-1)).toNat:Int))=cbs [Aes.S a1 ^^^ Gf.pow 2 (i/n-1),Aes.S a2,Aes.S a3,Aes.S a0]:=rfl
   rw [hfin]
   refine W.k ?_
   refine bZ.mk () ?_
   trivial
  ·have h0':¬ (i:Int)%(n:Int)=0:=om
   by_cases h6:6<n
   ·by_cases h4:i%n=4
    ·have h4':(i:Int)%(n:Int)=4:=om
     have e:Aes.nextW [a0,a1,a2,a3] i n=Aes.subW [a0,a1,a2,a3]:=by unfold Aes.nextW;rw [if_neg h0,if_pos ⟨h6,h4⟩]
     have hl4:(cbs (Aes.subW [a0,a1,a2,a3])).length=4:=rfl
     rw [e]
     refine W.k ?_
     refine W.cw (hs [a0,a1,a2,a3] rfl) ?_
     refine bZ.mk () ?_
     trivial
    ·have h4':¬ (i:Int)%(n:Int)=4:=om
     have e:Aes.nextW [a0,a1,a2,a3] i n=[a0,a1,a2,a3]:=by unfold Aes.nextW;rw [if_neg h0,if_neg (fun h=>h4 h.2)]
     rw [e]
     refine W.k ?_
     refine bZ.mk () ?_
     trivial
   ·have e:Aes.nextW [a0,a1,a2,a3] i n=[a0,a1,a2,a3]:=by unfold Aes.nextW;rw [if_neg h0,if_neg (fun h=>h6 h.1)]
    rw [e]
    refine W.k ?_
    refine bZ.mk () ?_
    trivial
 rintro _ -
 refine W.k ?_
 exact F.cH [(bw,cl Fc 217),(c,pK b (.slice (some ⟨bw,0,none⟩) len cap) r),(b,gI)] _ ⟨rfl,rfl⟩
end
end Go.Proofs.YtnigolgkkjidiaaGreat
