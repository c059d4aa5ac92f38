/- Bytes: their operations and shifts. -/
import Derived.Test.YtdfclocfackkmaaGreatPm3
set_option linter.unusedVariables false
set_option linter.unusedSimpArgs false
set_option linter.unusedSectionVars false
namespace Go.Proofs.YtdfclocfackkmaaGreat
open Go
instance:U8 27 27:=⟨rfl⟩
instance:U8 99 99:=⟨rfl⟩
theorem aHb(a:UInt8):BitVec.ofInt IntKind.u8.bits (a.toNat:Int)=a.toBitVec:=by show BitVec.ofInt 8 _=_;apply lV;rw [iN];have:=a.toNat_lt;show ((a.toNat:Int)%256).toNat=a.toNat;omega
theorem aOv(v:BitVec 8):IntKind.u8.wrap ((v.toNat:Nat):Int)=((UInt8.ofBitVec v).toNat:Int):=by rw [tZ];have:v.toNat<256:=v.isLt;show _=((v.toNat:Nat):Int);omega
class Lt8(n:Int)(k:outParam UInt8):Prop where
 ok:n=(k.toNat:Int)
 lt:k.toNat<8
instance:Lt8 1 1:=⟨rfl,dQ⟩
instance:Lt8 7 7:=⟨rfl,dQ⟩
section
variable {m n:Int}
instance{a b:UInt8} [h1:U8 m a] [h2:U8 n b]:UAr .mul .u8 m n ((a*b).toNat:Int):=⟨fun P w t=>by
 rw [h1.ok,h2.ok]
 have h:IntKind.u8.wrap ((a.toNat:Int)*b.toNat)=((a*b).toNat:Int):=by
  rw [tZ,UInt8.toNat_mul];simp
 simp [binOp,Op.intArith,h]⟩
instance{a b:UInt8} [h1:U8 m a] [h2:U8 n b]:UAr .and .u8 m n ((a &&& b).toNat:Int):=⟨fun P w t=>by
 rw [h1.ok,h2.ok]
 simp only [binOp,Op.intBits,ne_eq,not_true_eq_false,if_false,Sem.run_pure,aHb];exact congrArg (fun z=>Result.ok (Value.int .u8 z) w) (aOv _)⟩
instance{a b:UInt8} [h1:U8 m a] [h2:U8 n b]:UAr .or .u8 m n ((a ||| b).toNat:Int):=⟨fun P w t=>by
 rw [h1.ok,h2.ok]
 simp only [binOp,Op.intBits,ne_eq,not_true_eq_false,if_false,Sem.run_pure,aHb];exact congrArg (fun z=>Result.ok (Value.int .u8 z) w) (aOv _)⟩
instance{a b:UInt8} [h1:U8 m a] [h2:U8 n b]:UAr .xor .u8 m n ((a ^^^ b).toNat:Int):=⟨fun P w t=>by
 rw [h1.ok,h2.ok]
 simp only [binOp,Op.intBits,ne_eq,not_true_eq_false,if_false,Sem.run_pure,aHb];exact congrArg (fun z=>Result.ok (Value.int .u8 z) w) (aOv _)⟩
instance{a k:UInt8} [h1:U8 m a] [h2:Lt8 n k]:aGN .u8 m n ((a <<< k).toNat:Int):=⟨by
 rw [h1.ok,h2.ok]
 have hk:=h2.lt
 refine⟨oQ,?_⟩
 rw [tZ,aS,cO (by show k.toNat<=8;omega),UInt8.toNat_shiftLeft,dK hk,jQ]
 simp⟩
instance{a k:UInt8} [h1:U8 m a] [h2:Lt8 n k]:aIE .u8 m n ((a >>> k).toNat:Int):=⟨by
 rw [h1.ok,h2.ok]
 have hk:=h2.lt
 refine⟨oQ,?_⟩
 rw [aS,cO (by show k.toNat<=8;omega),UInt8.toNat_shiftRight,dK hk,eZ,iG _ (by exact_mod_cast Nat.zero_le _)]
 simp⟩
end
namespace Gf
def twice(a:UInt8):UInt8:=(a <<< (1:UInt8)) ^^^ ((27:UInt8)*(a >>> (7:UInt8)))
def mulS(s:UInt8×UInt8×UInt8):UInt8×UInt8×UInt8:=(s.1 ^^^ s.2.1*(s.2.2 &&& 1),twice s.2.1,s.2.2 >>> 1)
def mulN(a b:UInt8):Nat->UInt8×UInt8×UInt8
 | 0=>(0,a,b)
 | n+1=>mulS (mulN a b n)
def mul(a b:UInt8):UInt8:=(mulN a b 8).1
def powF:Nat->UInt8->UInt8->Nat->UInt8
 | 0,o,_,_=>o
 | f+1,o,a,n=>if n=0 then o else powF f (if n%2=1 then mul o a else o) (mul a a) (n/2)
def pow(a:UInt8)(n:Nat):UInt8:=powF n 1 a n
def inv(a:UInt8):UInt8:=pow a 254
def rot(i k:UInt8)(r:UInt8):UInt8:=i <<< k ||| i >>> r
def aff(i:UInt8):UInt8:=i ^^^ rot i 1 7 ^^^ rot i 2 6 ^^^ rot i 3 5 ^^^ rot i 4 4 ^^^ 99
def subB(k:Nat):UInt8:=aff (inv (UInt8.ofNat k))
def subL:LB:=(List.range 256).map subB
def backN:Nat->LB
 | 0=>List.replicate 256 0
 | n+1=>(backN n).set (subB n).toNat (UInt8.ofNat n)
theorem backN_len(n:Nat):(backN n).length=256:=by
 induction n with
 | zero=>exact bA
 | succ n ih=>unfold backN;rw [cE,ih]
theorem powF_done(f g:Nat)(o a:UInt8):∀ n,n<=f->n<=g->powF f o a n=powF g o a n:=by
 induction f generalizing g o a with
 | zero=>intro n h1 h2;have:n=0:=oQ;subst this;cases g <;> simp [powF]
 | succ f ih=>
  intro n h1 h2
  cases g with
  | zero=>have:n=0:=oQ;subst this;simp [powF]
  | succ g=>
   unfold powF
   by_cases h:n=0
   ·rw [if_pos h,if_pos h]
   ·rw [if_neg h,if_neg h]
    exact ih g _ _ (n/2) oQ oQ
theorem powF_step(o a:UInt8){n:Nat}(h:0<n):powF n o a n=powF (n/2) (if n%2=1 then mul o a else o) (mul a a) (n/2):=by
 obtain⟨k,rfl⟩:∃ k,n=k+1:=⟨n-1,oQ⟩;conv=>lhs;unfold powF
 rw [if_neg oQ];exact powF_done _ _ _ _ _ oQ (Nat.le_refl _)
end Gf
end Go.Proofs.YtdfclocfackkmaaGreat
