/- Words of 32 and 64 bits: their operations, shifts and conversions. -/
import Derived.Test.YtcmjkihddpppaaaW6
set_option linter.unusedVariables false
set_option linter.unusedSimpArgs false
namespace Go.Proofs.Ytcmjkihddpppaaa
open Go

instance (k : IntKind) (n : Int) : OC (vl (.int k n)) := inferInstanceAs (OC [.int k n])
instance (b : Bool) : OC (vl (.bool b)) := inferInstanceAs (OC [.bool b])
instance (a : Option Addr) : OC (vl (.pointer a)) := inferInstanceAs (OC [.pointer a])
instance (a : Option Addr) (l c : Nat) : OC (vl (.slice a l c)) := inferInstanceAs (OC [.slice a l c])
instance (l : List Value) [h : OC l] : OC (vl (.agg l.toArray)) := ⟨fun v hv => h.ok v (by simpa [vl] using hv)⟩
theorem wrap32 (n : Int) : IntKind.u32.wrap n = n % 4294967296 := rfl
theorem wrap8 (n : Int) : IntKind.u8.wrap n = n % 256 := rfl
theorem wrapu64 (n : Int) : IntKind.u64.wrap n = n % 18446744073709551616 := rfl
/-- A number that is a word's. -/
class U32 (i : Int) (a : outParam UInt32) : Prop where
  ok : i = (a.toNat : Int)
class U64 (i : Int) (a : outParam UInt64) : Prop where
  ok : i = (a.toNat : Int)
class U8 (i : Int) (a : outParam UInt8) : Prop where
  ok : i = (a.toNat : Int)
instance (a : UInt32) : U32 (a.toNat : Int) a := ⟨rfl⟩
instance (a : UInt64) : U64 (a.toNat : Int) a := ⟨rfl⟩
instance (a : UInt8) : U8 (a.toNat : Int) a := ⟨rfl⟩
instance : U8 0 0 := ⟨rfl⟩
instance : U8 1 1 := ⟨rfl⟩
instance : U8 9 9 := ⟨rfl⟩
instance : U8 128 128 := ⟨rfl⟩
instance : U32 0 0 := ⟨rfl⟩
instance : U32 1 1 := ⟨rfl⟩
instance : U32 256 256 := ⟨rfl⟩
instance : U32 65536 65536 := ⟨rfl⟩
instance : U32 16777216 16777216 := ⟨rfl⟩
instance : U64 0 0 := ⟨rfl⟩
instance : U64 1 1 := ⟨rfl⟩
instance : U64 8 8 := ⟨rfl⟩
instance : U64 256 256 := ⟨rfl⟩
instance : U64 4294967295 4294967295 := ⟨rfl⟩
instance : U64 137438953472 137438953472 := ⟨rfl⟩
theorem ofInt32 (a : UInt32) : BitVec.ofInt IntKind.u32.bits (a.toNat : Int) = a.toBitVec := by
  show BitVec.ofInt 32 _ = _
  apply BitVec.eq_of_toNat_eq
  rw [BitVec.toNat_ofInt]
  have := a.toNat_lt
  show ((a.toNat : Int) % 4294967296).toNat = a.toNat
  omega
theorem ofInt64 (a : UInt64) : BitVec.ofInt IntKind.u64.bits (a.toNat : Int) = a.toBitVec := by
  show BitVec.ofInt 64 _ = _
  apply BitVec.eq_of_toNat_eq
  rw [BitVec.toNat_ofInt]
  have := a.toNat_lt
  show ((a.toNat : Int) % 18446744073709551616).toNat = a.toNat
  omega
theorem nat32 (v : BitVec 32) : IntKind.u32.wrap ((v.toNat : Nat) : Int) = ((UInt32.ofBitVec v).toNat : Int) := by
  rw [wrap32]
  have : v.toNat < 4294967296 := v.isLt
  show _ = ((v.toNat : Nat) : Int)
  omega
theorem nat64 (v : BitVec 64) : IntKind.u64.wrap ((v.toNat : Nat) : Int) = ((UInt64.ofBitVec v).toNat : Int) := by
  rw [wrapu64]
  have : v.toNat < 18446744073709551616 := v.isLt
  show _ = ((v.toNat : Nat) : Int)
  omega
section
variable {m n : Int}
instance {a b : UInt32} [h1 : U32 m a] [h2 : U32 n b] : UAr .add .u32 m n ((a + b).toNat : Int) := ⟨fun P w t => by
  rw [h1.ok, h2.ok]
  have h : IntKind.u32.wrap ((a.toNat : Int) + b.toNat) = ((a + b).toNat : Int) := by
    rw [wrap32, UInt32.toNat_add]; simp
  simp [binOp, Op.intArith, h]⟩
instance {a b : UInt32} [h1 : U32 m a] [h2 : U32 n b] : UAr .mul .u32 m n ((a * b).toNat : Int) := ⟨fun P w t => by
  rw [h1.ok, h2.ok]
  have h : IntKind.u32.wrap ((a.toNat : Int) * b.toNat) = ((a * b).toNat : Int) := by
    rw [wrap32, UInt32.toNat_mul]; simp
  simp [binOp, Op.intArith, h]⟩
instance {a b : UInt32} [h1 : U32 m a] [h2 : U32 n b] : UAr .and .u32 m n ((a &&& b).toNat : Int) := ⟨fun P w t => by
  rw [h1.ok, h2.ok]
  simp only [binOp, Op.intBits, ne_eq, not_true_eq_false, if_false, Sem.run_pure, ofInt32]; exact congrArg (fun z => Result.ok (Value.int .u32 z) w) (nat32 _)⟩
instance {a b : UInt32} [h1 : U32 m a] [h2 : U32 n b] : UAr .or .u32 m n ((a ||| b).toNat : Int) := ⟨fun P w t => by
  rw [h1.ok, h2.ok]
  simp only [binOp, Op.intBits, ne_eq, not_true_eq_false, if_false, Sem.run_pure, ofInt32]; exact congrArg (fun z => Result.ok (Value.int .u32 z) w) (nat32 _)⟩
instance {a b : UInt32} [h1 : U32 m a] [h2 : U32 n b] : UAr .xor .u32 m n ((a ^^^ b).toNat : Int) := ⟨fun P w t => by
  rw [h1.ok, h2.ok]
  simp only [binOp, Op.intBits, ne_eq, not_true_eq_false, if_false, Sem.run_pure, ofInt32]; exact congrArg (fun z => Result.ok (Value.int .u32 z) w) (nat32 _)⟩
instance {a b : UInt64} [h1 : U64 m a] [h2 : U64 n b] : UAr .add .u64 m n ((a + b).toNat : Int) := ⟨fun P w t => by
  rw [h1.ok, h2.ok]
  have h : IntKind.u64.wrap ((a.toNat : Int) + b.toNat) = ((a + b).toNat : Int) := by
    rw [wrapu64, UInt64.toNat_add]; simp
  simp [binOp, Op.intArith, h]⟩
instance {a b : UInt64} [h1 : U64 m a] [h2 : U64 n b] : UAr .mul .u64 m n ((a * b).toNat : Int) := ⟨fun P w t => by
  rw [h1.ok, h2.ok]
  have h : IntKind.u64.wrap ((a.toNat : Int) * b.toNat) = ((a * b).toNat : Int) := by
    rw [wrapu64, UInt64.toNat_mul]; simp
  simp [binOp, Op.intArith, h]⟩
instance {a b : UInt64} [h1 : U64 m a] [h2 : U64 n b] : UAr .and .u64 m n ((a &&& b).toNat : Int) := ⟨fun P w t => by
  rw [h1.ok, h2.ok]
  simp only [binOp, Op.intBits, ne_eq, not_true_eq_false, if_false, Sem.run_pure, ofInt64]; exact congrArg (fun z => Result.ok (Value.int .u64 z) w) (nat64 _)⟩
instance {a b : UInt64} [h1 : U64 m a] [h2 : U64 n b] : UAr .or .u64 m n ((a ||| b).toNat : Int) := ⟨fun P w t => by
  rw [h1.ok, h2.ok]
  simp only [binOp, Op.intBits, ne_eq, not_true_eq_false, if_false, Sem.run_pure, ofInt64]; exact congrArg (fun z => Result.ok (Value.int .u64 z) w) (nat64 _)⟩
instance {a b : UInt64} [h1 : U64 m a] [h2 : U64 n b] : UAr .andNot .u64 m n ((a &&& ~~~b).toNat : Int) := ⟨fun P w t => by
  rw [h1.ok, h2.ok]
  simp only [binOp, Op.intBits, ne_eq, not_true_eq_false, if_false, Sem.run_pure, ofInt64]; exact congrArg (fun z => Result.ok (Value.int .u64 z) w) (nat64 _)⟩

/-- Shifts that have a name. -/
class UShl (k : IntKind) (m n : Int) (r : outParam Int) : Prop where
  ok : 0 ≤ n ∧ k.wrap (m * 2 ^ (min n.toNat k.bits)) = r
class UShr (k : IntKind) (m n : Int) (r : outParam Int) : Prop where
  ok : 0 ≤ n ∧ m.fdiv (2 ^ (min n.toNat k.bits)) = r
class Lt32 (n : Int) (k : outParam UInt32) : Prop where
  ok : n = (k.toNat : Int)
  lt : k.toNat < 32
class Lt64 (n : Int) (k : outParam UInt64) : Prop where
  ok : n = (k.toNat : Int)
  lt : k.toNat < 64
instance : Lt32 2 2 := ⟨rfl, by decide⟩
instance : Lt32 3 3 := ⟨rfl, by decide⟩
instance : Lt32 6 6 := ⟨rfl, by decide⟩
instance : Lt32 7 7 := ⟨rfl, by decide⟩
instance : Lt32 8 8 := ⟨rfl, by decide⟩
instance : Lt32 10 10 := ⟨rfl, by decide⟩
instance : Lt32 11 11 := ⟨rfl, by decide⟩
instance : Lt32 13 13 := ⟨rfl, by decide⟩
instance : Lt32 16 16 := ⟨rfl, by decide⟩
instance : Lt32 17 17 := ⟨rfl, by decide⟩
instance : Lt32 18 18 := ⟨rfl, by decide⟩
instance : Lt32 19 19 := ⟨rfl, by decide⟩
instance : Lt32 22 22 := ⟨rfl, by decide⟩
instance : Lt32 24 24 := ⟨rfl, by decide⟩
instance : Lt32 25 25 := ⟨rfl, by decide⟩
instance : Lt64 1 1 := ⟨rfl, by decide⟩
instance : Lt64 8 8 := ⟨rfl, by decide⟩
instance : Lt64 16 16 := ⟨rfl, by decide⟩
instance : Lt64 24 24 := ⟨rfl, by decide⟩
instance : Lt64 32 32 := ⟨rfl, by decide⟩
instance : Lt64 40 40 := ⟨rfl, by decide⟩
instance : Lt64 48 48 := ⟨rfl, by decide⟩
instance : Lt64 56 56 := ⟨rfl, by decide⟩
instance : Lt64 63 63 := ⟨rfl, by decide⟩
instance {a k : UInt32} [h1 : U32 m a] [h2 : Lt32 n k] : UShl .u32 m n ((a <<< k).toNat : Int) := ⟨by
  rw [h1.ok, h2.ok]
  have hk := h2.lt
  refine ⟨by omega, ?_⟩
  rw [wrap32, Int.toNat_natCast, Nat.min_eq_left (by show k.toNat ≤ 32; omega), UInt32.toNat_shiftLeft, Nat.mod_eq_of_lt hk, Nat.shiftLeft_eq]
  simp⟩
instance {a k : UInt32} [h1 : U32 m a] [h2 : Lt32 n k] : UShr .u32 m n ((a >>> k).toNat : Int) := ⟨by
  rw [h1.ok, h2.ok]
  have hk := h2.lt
  refine ⟨by omega, ?_⟩
  rw [Int.toNat_natCast, Nat.min_eq_left (by show k.toNat ≤ 32; omega), UInt32.toNat_shiftRight, Nat.mod_eq_of_lt hk, Nat.shiftRight_eq_div_pow, Int.fdiv_eq_ediv_of_nonneg _ (by exact_mod_cast Nat.zero_le _)]
  simp⟩
instance {a k : UInt64} [h1 : U64 m a] [h2 : Lt64 n k] : UShl .u64 m n ((a <<< k).toNat : Int) := ⟨by
  rw [h1.ok, h2.ok]
  have hk := h2.lt
  refine ⟨by omega, ?_⟩
  rw [wrapu64, Int.toNat_natCast, Nat.min_eq_left (by show k.toNat ≤ 64; omega), UInt64.toNat_shiftLeft, Nat.mod_eq_of_lt hk, Nat.shiftLeft_eq]
  simp⟩
instance {a k : UInt64} [h1 : U64 m a] [h2 : Lt64 n k] : UShr .u64 m n ((a >>> k).toNat : Int) := ⟨by
  rw [h1.ok, h2.ok]
  have hk := h2.lt
  refine ⟨by omega, ?_⟩
  rw [Int.toNat_natCast, Nat.min_eq_left (by show k.toNat ≤ 64; omega), UInt64.toNat_shiftRight, Nat.mod_eq_of_lt hk, Nat.shiftRight_eq_div_pow, Int.fdiv_eq_ediv_of_nonneg _ (by exact_mod_cast Nat.zero_le _)]
  simp⟩
instance {a : UInt64} [h1 : U64 m a] : Cv .u32 m (a.toUInt32.toNat : Int) := ⟨by
  rw [h1.ok, wrap32, UInt64.toNat_toUInt32]; simp⟩
instance {a : UInt64} [h1 : U64 m a] : Cv .u8 m (a.toUInt8.toNat : Int) := ⟨by
  rw [h1.ok, wrap8, UInt64.toNat_toUInt8]; simp⟩
instance {a : UInt32} [h1 : U32 m a] : Cv .u32 m (a.toNat : Int) := ⟨by
  rw [h1.ok, wrap32]; have := a.toNat_lt; omega⟩
instance {a : UInt32} [h1 : U32 m a] : Cv .u8 m (a.toUInt8.toNat : Int) := ⟨by
  rw [h1.ok, wrap8, UInt32.toNat_toUInt8]; simp⟩
instance {a : UInt32} [h1 : U32 m a] : Cv .u64 m (a.toUInt64.toNat : Int) := ⟨by
  rw [h1.ok, wrapu64, UInt32.toNat_toUInt64]; have := a.toNat_lt; omega⟩
instance {a : UInt8} [h1 : U8 m a] : Cv .u32 m (a.toUInt32.toNat : Int) := ⟨by
  rw [h1.ok, wrap32, UInt8.toNat_toUInt32]; have := a.toNat_lt; omega⟩
instance (priority := low) (n : Nat) : Cv .u64 (n : Int) ((UInt64.ofNat n).toNat : Int) := ⟨by
  rw [wrapu64, UInt64.toNat_ofNat']; omega⟩
instance {a : UInt8} [h1 : U8 m a] : Cv .u64 m (a.toUInt64.toNat : Int) := ⟨by
  rw [h1.ok, wrapu64, UInt8.toNat_toUInt64]; have := a.toNat_lt; omega⟩
end
section
variable {P : Program} {C : Ctx} {Q : Exit → Fr → Hp → Prop} {ρ : Fr} {H : Hp} {L rest : List Oper} {d : Option Tmp} {ty : TypeId} {pos : String} {af : Array Edge} {g : Option (Nat × Bool)} {t t' : Nat} {d' : Option Nat} {x y : Operand} {k kk : IntKind} {m q r : Int}
theorem W.shl (h : SL P C L Q rest (pt ρ d' (.int k r)) H) (hx : ev ρ x = some (.int k m) := by exact rfl) (hy : ev ρ y = some (.int kk q) := by exact rfl) (i0 : UShl k m q r := by infer_instance) (hg : gd L ρ ⟨d, .binOp .shl t x y t', ty, pos, af, g⟩ = some true := by exact rfl) (hd : dk C.n d = some d' := by exact rfl) : SL P C L Q (⟨d, .binOp .shl t x y t', ty, pos, af, g⟩ :: rest) ρ H :=
  SL.pu (p_shl rfl hx hy i0.ok.1 i0.ok.2) hg hd h
theorem W.shr (h : SL P C L Q rest (pt ρ d' (.int k r)) H) (hx : ev ρ x = some (.int k m) := by exact rfl) (hy : ev ρ y = some (.int kk q) := by exact rfl) (i0 : UShr k m q r := by infer_instance) (hg : gd L ρ ⟨d, .binOp .shr t x y t', ty, pos, af, g⟩ = some true := by exact rfl) (hd : dk C.n d = some d' := by exact rfl) : SL P C L Q (⟨d, .binOp .shr t x y t', ty, pos, af, g⟩ :: rest) ρ H :=
  SL.pu (p_shr rfl hx hy i0.ok.1 i0.ok.2) hg hd h
/-- All bits turned. -/
theorem p_bnot {o : Oper} {a : UInt32} [h : U32 m a] (ho : o.op = .unOp .xor t x) (hx : ev ρ x = some (.int .u32 m)) : Pu P C ρ H o (.int .u32 ((~~~a).toNat : Int)) := fun ac w hf _ => by
  have hm := h.ok
  subst hm
  have e : ∀ z : BitVec 32, z = BitVec.allOnes 32 → IntKind.u32.wrap (((z ^^^ a.toBitVec).toNat : Nat) : Int) = ((~~~a).toNat : Int) := fun z hz => by
    subst hz
    refine (nat32 _).trans ?_
    congr 1
  have e2 : (Op.unary .xor (.int .u32 (a.toNat : Int))) = Op.intBits .xor .u32 (IntKind.u32.max) (a.toNat : Int) := rfl
  unfold execOp; rw [ho]; simp only [hf.eval hx, Sem.run_bind, e2, Op.intBits, ne_eq, not_true_eq_false, if_false, Sem.run_pure, Result.andThen_ok, ofInt32]
  exact congrArg (fun z => Result.ok (Next.value (Value.int .u32 z)) w) (e _ rfl)
theorem W.bnot {a : UInt32} (h : SL P C L Q rest (pt ρ d' (.int .u32 ((~~~a).toNat : Int))) H) (hx : ev ρ x = some (.int .u32 m) := by exact rfl) (i0 : U32 m a := by infer_instance) (hg : gd L ρ ⟨d, .unOp .xor t x, ty, pos, af, g⟩ = some true := by exact rfl) (hd : dk C.n d = some d' := by exact rfl) : SL P C L Q (⟨d, .unOp .xor t x, ty, pos, af, g⟩ :: rest) ρ H :=
  SL.pu (p_bnot rfl hx) hg hd h
theorem W.ng (h : SL P C L Q rest (pt ρ d' (.int .i64 (-m))) H) (hx : ev ρ x = some (.int .i64 m) := by exact rfl) (hr : -9223372036854775807 ≤ m ∧ m ≤ 9223372036854775807 := by omega) (hg : gd L ρ ⟨d, .unOp .neg t x, ty, pos, af, g⟩ = some true := by exact rfl) (hd : dk C.n d = some d' := by exact rfl) : SL P C L Q (⟨d, .unOp .neg t x, ty, pos, af, g⟩ :: rest) ρ H :=
  SL.pu (fun ac w hf _ => by unfold execOp; simp [hf.eval hx, Op.unary, Op.intArith, w64 (n := -m) (by omega)]) hg hd h
/-- math/bits.Add64, for which the model stands in. -/
class IsAdd (P : Program) (f : FuncId) : Prop where
  ok : ∃ fn, P.funcs[f]? = some fn ∧ (fn.name == "runtime.NumGoroutine") = false ∧ fn.body.isNone = true ∧ Extern.findNext fn = none ∧ Extern.find fn = some add64Entry
theorem W.add64 {f : FuncId} {a b : UInt64} {ats : Array TypeId} {y : Operand} [hF : IsAdd P f] (h : SL P C L Q rest (pt ρ d' (.tuple #[.int .u64 ((a + b).toNat : Int), .int .u64 (((a.toNat + b.toNat) / 18446744073709551616 : Nat) : Int)])) H)
    (hx : ev ρ x = some (.int .u64 m) := by exact rfl) (i0 : U64 m a := by infer_instance) (hy : ev ρ y = some (.int .u64 q) := by exact rfl) (i1 : U64 q b := by infer_instance)
    (hg : gd L ρ ⟨d, .call { callee := .value (.func f), args := #[x, y, .const (.int .u64 0)], argTypes := ats }, ty, pos, af, g⟩ = some true := by exact rfl) (hd : dk C.n d = some d' := by exact rfl) :
    SL P C L Q (⟨d, .call { callee := .value (.func f), args := #[x, y, .const (.int .u64 0)], argTypes := ats }, ty, pos, af, g⟩ :: rest) ρ H :=
  SL.pu (fun ac w hf _ => by
    obtain ⟨fn, h1, h2, h3, h4, h5⟩ := hF.ok
    have e := run_callFunc_extern (P := P) h1 h2 h3 h4 h5 #[.int .u64 m, .int .u64 q, .int .u64 0] w
    have hm := i0.ok
    have hq := i1.ok
    subst hm hq
    rw [run_add64 _ _ _ (by omega) (by omega) (by omega) (by omega)] at e
    have hc : ac.eval (.const (.int .u64 0)) = .int .u64 0 := rfl
    have hv : ac.eval (.func f) = .func (.func f) #[] #[] := rfl
    unfold execOp
    simp only [resolve, Deferred.ofValue, hf.eval hx, hf.eval hy, hc, hv, List.map_toArray, List.map_cons, List.map_nil, Sem.run_bind, Sem.run_pure, Result.andThen_ok, invoke]
    rw [show (#[] ++ #[Value.int .u64 (a.toNat : Int), Value.int .u64 (b.toNat : Int), Value.int .u64 0] ++ #[] : Array Value) = #[Value.int .u64 (a.toNat : Int), Value.int .u64 (b.toNat : Int), Value.int .u64 0] from rfl, e]
    have e3 : ((a.toNat : Int) + b.toNat + 0) % 18446744073709551616 = ((a + b).toNat : Int) := by rw [UInt64.toNat_add]; omega
    have e4 : ((a.toNat : Int) + b.toNat + 0) / 18446744073709551616 = (((a.toNat + b.toNat) / 18446744073709551616 : Nat) : Int) := by omega
    rw [e3, e4]
    rfl) hg hd h
end
end Go.Proofs.Ytcmjkihddpppaaa
