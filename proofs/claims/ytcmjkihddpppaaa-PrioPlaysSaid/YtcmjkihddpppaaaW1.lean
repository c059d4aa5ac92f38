/- The walk's laws in short: what is plain is found by itself. -/
import Derived.Test.YtcmjkihddpppaaaSl10
set_option linter.unusedVariables false
set_option linter.unusedSimpArgs false
namespace Go.Proofs.Ytcmjkihddpppaaa
open Go

/-! ### Numbers -/
/-- This integer is a natural number. -/
class NatI (i : Int) (k : outParam Nat) : Prop where
  ok : i = (k : Int)
instance NatI.cast (k : Nat) : NatI (k : Int) k := ⟨rfl⟩
instance : NatI 0 0 := ⟨rfl⟩
instance : NatI 1 1 := ⟨rfl⟩
instance : NatI 2 2 := ⟨rfl⟩
instance : NatI 3 3 := ⟨rfl⟩
instance : NatI 4 4 := ⟨rfl⟩
instance : NatI 5 5 := ⟨rfl⟩
instance : NatI 6 6 := ⟨rfl⟩
instance : NatI 7 7 := ⟨rfl⟩
instance : NatI 8 8 := ⟨rfl⟩
instance : NatI 9 9 := ⟨rfl⟩
instance : NatI 10 10 := ⟨rfl⟩
instance : NatI 11 11 := ⟨rfl⟩
instance : NatI 12 12 := ⟨rfl⟩
instance : NatI 13 13 := ⟨rfl⟩
instance : NatI 14 14 := ⟨rfl⟩
instance : NatI 15 15 := ⟨rfl⟩
instance : NatI 16 16 := ⟨rfl⟩
instance : NatI 17 17 := ⟨rfl⟩
instance : NatI 18 18 := ⟨rfl⟩
instance : NatI 19 19 := ⟨rfl⟩
instance : NatI 20 20 := ⟨rfl⟩
instance : NatI 21 21 := ⟨rfl⟩
instance : NatI 22 22 := ⟨rfl⟩
instance : NatI 23 23 := ⟨rfl⟩
instance : NatI 24 24 := ⟨rfl⟩
instance : NatI 25 25 := ⟨rfl⟩
instance : NatI 26 26 := ⟨rfl⟩
instance : NatI 27 27 := ⟨rfl⟩
instance : NatI 28 28 := ⟨rfl⟩
instance : NatI 29 29 := ⟨rfl⟩
instance : NatI 30 30 := ⟨rfl⟩
instance : NatI 31 31 := ⟨rfl⟩
instance : NatI 32 32 := ⟨rfl⟩
instance : NatI 33 33 := ⟨rfl⟩
instance : NatI 34 34 := ⟨rfl⟩
instance : NatI 35 35 := ⟨rfl⟩
instance : NatI 36 36 := ⟨rfl⟩
instance : NatI 37 37 := ⟨rfl⟩
instance : NatI 38 38 := ⟨rfl⟩
instance : NatI 39 39 := ⟨rfl⟩
instance : NatI 40 40 := ⟨rfl⟩
instance : NatI 41 41 := ⟨rfl⟩
instance : NatI 42 42 := ⟨rfl⟩
instance : NatI 43 43 := ⟨rfl⟩
instance : NatI 44 44 := ⟨rfl⟩
instance : NatI 45 45 := ⟨rfl⟩
instance : NatI 46 46 := ⟨rfl⟩
instance : NatI 47 47 := ⟨rfl⟩
instance : NatI 48 48 := ⟨rfl⟩
instance : NatI 49 49 := ⟨rfl⟩
instance : NatI 50 50 := ⟨rfl⟩
instance : NatI 51 51 := ⟨rfl⟩
instance : NatI 52 52 := ⟨rfl⟩
instance : NatI 53 53 := ⟨rfl⟩
instance : NatI 54 54 := ⟨rfl⟩
instance : NatI 55 55 := ⟨rfl⟩
instance : NatI 56 56 := ⟨rfl⟩
instance : NatI 57 57 := ⟨rfl⟩
instance : NatI 58 58 := ⟨rfl⟩
instance : NatI 59 59 := ⟨rfl⟩
instance : NatI 60 60 := ⟨rfl⟩
instance : NatI 61 61 := ⟨rfl⟩
instance : NatI 62 62 := ⟨rfl⟩
instance : NatI 63 63 := ⟨rfl⟩
instance : NatI 64 64 := ⟨rfl⟩
instance : NatI 65 65 := ⟨rfl⟩
instance : NatI 66 66 := ⟨rfl⟩
instance : NatI 67 67 := ⟨rfl⟩
instance : NatI 68 68 := ⟨rfl⟩
instance : NatI 69 69 := ⟨rfl⟩
instance : NatI 70 70 := ⟨rfl⟩
instance : NatI 71 71 := ⟨rfl⟩
instance : NatI 72 72 := ⟨rfl⟩
instance : NatI 80 80 := ⟨rfl⟩
instance : NatI 96 96 := ⟨rfl⟩
instance : NatI 100 100 := ⟨rfl⟩
instance : NatI 112 112 := ⟨rfl⟩
instance : NatI 120 120 := ⟨rfl⟩
instance : NatI 127 127 := ⟨rfl⟩
instance : NatI 128 128 := ⟨rfl⟩
instance : NatI 150 150 := ⟨rfl⟩
instance : NatI 192 192 := ⟨rfl⟩
instance : NatI 224 224 := ⟨rfl⟩
instance : NatI 255 255 := ⟨rfl⟩
instance : NatI 256 256 := ⟨rfl⟩
instance : NatI 300 300 := ⟨rfl⟩
instance : NatI 512 512 := ⟨rfl⟩
instance : NatI 1024 1024 := ⟨rfl⟩
instance : NatI 2048 2048 := ⟨rfl⟩
instance : NatI 4096 4096 := ⟨rfl⟩
instance : NatI 8192 8192 := ⟨rfl⟩
instance : NatI 16384 16384 := ⟨rfl⟩
instance : NatI 65536 65536 := ⟨rfl⟩
instance NatI.add (a b : Int) (x y : Nat) [h1 : NatI a x] [h2 : NatI b y] : NatI (a + b) (x + y) := ⟨by rw [h1.ok, h2.ok]; rfl⟩
instance NatI.mul (a b : Int) (x y : Nat) [h1 : NatI a x] [h2 : NatI b y] : NatI (a * b) (x * y) := ⟨by rw [h1.ok, h2.ok]; rfl⟩
instance NatI.div (a b : Int) (x y : Nat) [h1 : NatI a x] [h2 : NatI b y] : NatI (a / b) (x / y) := ⟨by rw [h1.ok, h2.ok]; rfl⟩
instance NatI.mod (a b : Int) (x y : Nat) [h1 : NatI a x] [h2 : NatI b y] : NatI (a % b) (x % y) := ⟨by rw [h1.ok, h2.ok]; rfl⟩
instance NatI.cadd (x y : Nat) : NatI ((x + y : Nat) : Int) (x + y) := ⟨rfl⟩
/-- j + k * n, as one writes it. -/
class AdN (j k n : Nat) (r : outParam Nat) : Prop where
  ok : j + k * n = r
instance AdN.all (j k n : Nat) : AdN j k n (j + k * n) := ⟨rfl⟩
instance (priority := 1010) AdN.one (j k : Nat) : AdN j k 1 (j + k) := ⟨by omega⟩
instance (priority := 1020) AdN.zero (k n : Nat) : AdN 0 k n (k * n) := ⟨by omega⟩
instance (priority := 1030) AdN.zone (k : Nat) : AdN 0 k 1 k := ⟨by omega⟩
class OfN (j off : Nat) (r : outParam Nat) : Prop where
  ok : j + off = r
instance OfN.all (j off : Nat) : OfN j off (j + off) := ⟨rfl⟩
instance (priority := 1010) OfN.z (j : Nat) : OfN j 0 j := ⟨rfl⟩
instance (priority := 1020) OfN.z2 (off : Nat) : OfN 0 off off := ⟨by omega⟩

def cmpP : BinOp → Int → Int → Prop
  | .lss, m, n => m < n
  | .leq, m, n => m ≤ n
  | .gtr, m, n => n < m
  | .geq, m, n => n ≤ m
  | .eql, m, n => m = n
  | .neq, m, n => m ≠ n
  | _, _, _ => False
instance (b : BinOp) (m n : Int) : Decidable (cmpP b m n) :=
  match b with
  | .lss => inferInstanceAs (Decidable (m < n))
  | .leq => inferInstanceAs (Decidable (m ≤ n))
  | .gtr => inferInstanceAs (Decidable (n < m))
  | .geq => inferInstanceAs (Decidable (n ≤ m))
  | .eql => inferInstanceAs (Decidable (m = n))
  | .neq => inferInstanceAs (Decidable (m ≠ n))
  | .add | .sub | .mul | .quo | .rem | .and | .or | .xor | .shl | .shr | .andNot => inferInstanceAs (Decidable False)
def isCmp : BinOp → Bool
  | .lss | .leq | .gtr | .geq | .eql | .neq => true
  | _ => false
def arP : BinOp → Int → Int → Int
  | .add, m, n => m + n
  | .sub, m, n => m - n
  | .mul, m, n => m * n
  | _, m, _ => m
def isAr : BinOp → Bool
  | .add | .sub | .mul => true
  | _ => false
/-- Arithmetic that has a name. -/
class UAr (b : BinOp) (k : IntKind) (m n : Int) (r : outParam Int) : Prop where
  ok : ∀ (P : Program) (w : World) (t : TypeId), (binOp b t (.int k m) (.int k n)).run P w = .ok (.int k r) w

section
variable {P : Program} {C : Ctx} {ρ : Fr} {H : Hp} {o : Oper} {t t' : TypeId} {x y : Operand} {k : IntKind} {m n r : Int}
theorem p_cmp {b : BinOp} (ho : o.op = .binOp b t x y t') (hb : isCmp b = true) (hx : ev ρ x = some (.int k m)) (hy : ev ρ y = some (.int k n)) : Pu P C ρ H o (.bool (decide (cmpP b m n))) := by
  cases b <;> first | cases hb | skip
  · exact p_eql ho hx hy
  · exact p_neq ho hx hy
  · exact p_lss ho hx hy
  · exact p_leq ho hx hy
  · exact p_gtr ho hx hy
  · exact p_geq ho hx hy
theorem p_ar {b : BinOp} (ho : o.op = .binOp b t x y t') (hb : isAr b = true) (hx : ev ρ x = some (.int k m)) (hy : ev ρ y = some (.int k n)) (hr : k.wrap (arP b m n) = r) : Pu P C ρ H o (.int k r) := by
  cases b <;> first | cases hb | skip
  · exact p_add ho hx hy hr
  · exact p_sub ho hx hy hr
  · exact p_mul ho hx hy hr
theorem p_uar {b : BinOp} [h : UAr b k m n r] (ho : o.op = .binOp b t x y t') (hx : ev ρ x = some (.int k m)) (hy : ev ρ y = some (.int k n)) : Pu P C ρ H o (.int k r) := fun a w hf _ => by
  unfold execOp; rw [ho]; simp only [hf.eval hx, hf.eval hy, Sem.run_bind, eqGuard_int, Result.andThen_ok, h.ok, Sem.run_pure]
theorem p_quoP (ho : o.op = .binOp .quo t x y t') (hx : ev ρ x = some (.int .i64 m)) (hy : ev ρ y = some (.int .i64 n)) (h0 : 0 ≤ m) (h1 : m ≤ 9223372036854775807) (hn : 0 < n) : Pu P C ρ H o (.int .i64 (m / n)) :=
  p_quo ho hx hy (by omega) (by
    rw [Int.tdiv_eq_ediv_of_nonneg h0]
    have h2 : 0 ≤ m / n := Int.ediv_nonneg h0 (by omega)
    have h3 : m / n ≤ m := Int.ediv_le_self n h0
    exact w64 (by omega))
theorem p_remP (ho : o.op = .binOp .rem t x y t') (hx : ev ρ x = some (.int k m)) (hy : ev ρ y = some (.int k n)) (h0 : 0 ≤ m) (hn : 0 < n) : Pu P C ρ H o (.int k (m % n)) :=
  p_rem ho hx hy (by omega) (Int.tmod_eq_emod_of_nonneg h0)
end

section
variable {P : Program} {C : Ctx} {Q : Exit → Fr → Hp → Prop} {ρ : Fr} {H H' : Hp} {L rest : List Oper} {d : Option Tmp} {ty : TypeId} {pos : String} {af : Array Edge} {g : Option (Nat × Bool)} {t t' e n len cap b i j off c : Nat} {d' : Option Nat} {x y z : Operand} {v u : Value} {k kk : IntKind} {m q r : Int} {l l' : List Value} {T : TypeId}
/-! ### One operation each -/
theorem W.mv (h : SL P C L Q rest (pt ρ d' v) H) (hx : ev ρ x = some v := by exact rfl) (hg : gd L ρ ⟨d, .move x, ty, pos, af, g⟩ = some true := by exact rfl) (hd : dk C.n d = some d' := by exact rfl) : SL P C L Q (⟨d, .move x, ty, pos, af, g⟩ :: rest) ρ H := SL.pu (p_move rfl hx) hg hd h
theorem W.as (h : SL P C L Q rest (pt ρ d' v) H) (hx : ev ρ x = some v := by exact rfl) (hg : gd L ρ ⟨d, .assign x, ty, pos, af, g⟩ = some true := by exact rfl) (hd : dk C.n d = some d' := by exact rfl) : SL P C L Q (⟨d, .assign x, ty, pos, af, g⟩ :: rest) ρ H := SL.pu (p_assign rfl hx) hg hd h
theorem W.nl {ad : Addr} (h : SL P C L Q rest (pt ρ d' (.pointer (some ad))) H) (hx : ev ρ x = some (.pointer (some ad)) := by exact rfl) (hg : gd L ρ ⟨d, .nilCheck x, ty, pos, af, g⟩ = some true := by exact rfl) (hd : dk C.n d = some d' := by exact rfl) : SL P C L Q (⟨d, .nilCheck x, ty, pos, af, g⟩ :: rest) ρ H := SL.pu (p_nil rfl hx) hg hd h
theorem W.fa [FieldTy P t i e off] (h : SL P C L Q rest (pt ρ d' (.pointer (some ⟨b, c, none⟩))) H) (hx : ev ρ x = some (.pointer (some ⟨b, j, none⟩)) := by exact rfl) (ho : OfN j off c := by infer_instance) (hg : gd L ρ ⟨d, .fieldAddr t x i, ty, pos, af, g⟩ = some true := by exact rfl) (hd : dk C.n d = some d' := by exact rfl) : SL P C L Q (⟨d, .fieldAddr t x i, ty, pos, af, g⟩ :: rest) ρ H := SL.pu (p_fieldAddr rfl hx ho.ok) hg hd h
theorem W.fs [FieldTy P t i e off] [ScalarTy P e] (h : SL P C L Q rest (pt ρ d' v) H) (hx : ev ρ x = some (.agg l.toArray) := by exact rfl) (hv : l[off]? = some v := by first | exact rfl | assumption) (hg : gd L ρ ⟨d, .field t x i, ty, pos, af, g⟩ = some true := by exact rfl) (hd : dk C.n d = some d' := by exact rfl) : SL P C L Q (⟨d, .field t x i, ty, pos, af, g⟩ :: rest) ρ H := SL.pu (p_field rfl hx hv) hg hd h
theorem W.fg [FieldTy P t i e off] [RowTy P e n] (h : SL P C L Q rest (pt ρ d' (.agg l'.toArray)) H) (hx : ev ρ x = some (.agg l.toArray) := by exact rfl) (hv : (l.drop off).take n = l' := by first | assumption | exact rfl) (hg : gd L ρ ⟨d, .field t x i, ty, pos, af, g⟩ = some true := by exact rfl) (hd : dk C.n d = some d' := by exact rfl) : SL P C L Q (⟨d, .field t x i, ty, pos, af, g⟩ :: rest) ρ H := SL.pu (p_field_a rfl hx hv) hg hd h
theorem W.ls [ScalarTy P t] (h : SL P C L Q rest (pt ρ d' v) H) (hx : ev ρ x = some (.pointer (some ⟨b, i, none⟩)) := by exact rfl) (i0 : At H b (cl l T) := by infer_instance) (hv : l[i]? = some v := by first | exact rfl | assumption) (hg : gd L ρ ⟨d, .load t x, ty, pos, af, g⟩ = some true := by exact rfl) (hd : dk C.n d = some d' := by exact rfl) : SL P C L Q (⟨d, .load t x, ty, pos, af, g⟩ :: rest) ρ H := SL.pu (p_load_s rfl hx hv) hg hd h
theorem W.la [RowTy P t n] (h : SL P C L Q rest (pt ρ d' (.agg l'.toArray)) H) (hx : ev ρ x = some (.pointer (some ⟨b, i, none⟩)) := by exact rfl) (i0 : At H b (cl l T) := by infer_instance) (hv : (l.drop i).take n = l' := by first | assumption | exact rfl) (hn : l'.length = n := by first | assumption | exact rfl) (hg : gd L ρ ⟨d, .load t x, ty, pos, af, g⟩ = some true := by exact rfl) (hd : dk C.n d = some d' := by exact rfl) : SL P C L Q (⟨d, .load t x, ty, pos, af, g⟩ :: rest) ρ H := SL.pu (p_load_a rfl hx hv hn) hg hd h
theorem W.lw [RowTy P t n] (h : SL P C L Q rest (pt ρ d' (.agg l.toArray)) H) (hx : ev ρ x = some (.pointer (some ⟨b, 0, none⟩)) := by exact rfl) (ia : At H b (cl l T) := by infer_instance) (hn : l.length = n := by first | assumption | exact rfl) (hg : gd L ρ ⟨d, .load t x, ty, pos, af, g⟩ = some true := by exact rfl) (hd : dk C.n d = some d' := by exact rfl) : SL P C L Q (⟨d, .load t x, ty, pos, af, g⟩ :: rest) ρ H :=
  W.la (l' := l) h hx ia (by rw [List.drop_zero, List.take_of_length_le (by omega)]) hn hg hd
theorem W.lsR {fz : Nat × Nat} [ScalarTy P t] (hb : C.w0.heap[b]? = some (.cells l.toArray T fz)) (h : SL P C L Q rest (pt ρ d' v) H) (hx : ev ρ x = some (.pointer (some ⟨b, i, none⟩)) := by exact rfl) (hk : b ∉ C.K := by assumption) (hv : l[i]? = some v := by first | exact rfl | assumption) (hg : gd L ρ ⟨d, .load t x, ty, pos, af, g⟩ = some true := by exact rfl) (hd : dk C.n d = some d' := by exact rfl) : SL P C L Q (⟨d, .load t x, ty, pos, af, g⟩ :: rest) ρ H := SL.pu (p_load_sR rfl hx hb hk hv) hg hd h
theorem W.laR {fz : Nat × Nat} [RowTy P t n] (hb : C.w0.heap[b]? = some (.cells l.toArray T fz)) (h : SL P C L Q rest (pt ρ d' (.agg l'.toArray)) H) (hx : ev ρ x = some (.pointer (some ⟨b, i, none⟩)) := by exact rfl) (hk : b ∉ C.K := by assumption) (hv : (l.drop i).take n = l' := by first | assumption | exact rfl) (hn : l'.length = n := by first | assumption | exact rfl) (hg : gd L ρ ⟨d, .load t x, ty, pos, af, g⟩ = some true := by exact rfl) (hd : dk C.n d = some d' := by exact rfl) : SL P C L Q (⟨d, .load t x, ty, pos, af, g⟩ :: rest) ρ H := SL.pu (p_load_aR rfl hx hb hk hv hn) hg hd h
theorem W.pkt (h : SL P C L Q rest (pt ρ d' v) H) (hc : ev ρ x = some (.bool true) := by exact rfl) (hx : ev ρ y = some v := by exact rfl) (hg : gd L ρ ⟨d, .pick x y z, ty, pos, af, g⟩ = some true := by exact rfl) (hd : dk C.n d = some d' := by exact rfl) : SL P C L Q (⟨d, .pick x y z, ty, pos, af, g⟩ :: rest) ρ H := SL.pu (p_pick_t rfl hc hx) hg hd h
theorem W.pkf (h : SL P C L Q rest (pt ρ d' v) H) (hc : ev ρ x = some (.bool false) := by exact rfl) (hx : ev ρ z = some v := by exact rfl) (hg : gd L ρ ⟨d, .pick x y z, ty, pos, af, g⟩ = some true := by exact rfl) (hd : dk C.n d = some d' := by exact rfl) : SL P C L Q (⟨d, .pick x y z, ty, pos, af, g⟩ :: rest) ρ H := SL.pu (p_pick_f rfl hc hx) hg hd h
theorem W.nt {bb : Bool} (h : SL P C L Q rest (pt ρ d' (.bool (!bb))) H) (hx : ev ρ x = some (.bool bb) := by exact rfl) (hg : gd L ρ ⟨d, .unOp .not t x, ty, pos, af, g⟩ = some true := by exact rfl) (hd : dk C.n d = some d' := by exact rfl) : SL P C L Q (⟨d, .unOp .not t x, ty, pos, af, g⟩ :: rest) ρ H := SL.pu (p_not rfl hx) hg hd h
theorem W.mf {f : Go.Fn} {xs ys : Array Operand} {vs us : List Value} (h : SL P C L Q rest (pt ρ d' (.func f vs.toArray us.toArray)) H) (hx : evs ρ xs.toList = some vs := by exact rfl) (hy : evs ρ ys.toList = some us := by exact rfl) (hg : gd L ρ ⟨d, .makeFunc f xs ys, ty, pos, af, g⟩ = some true := by exact rfl) (hd : dk C.n d = some d' := by exact rfl) : SL P C L Q (⟨d, .makeFunc f xs ys, ty, pos, af, g⟩ :: rest) ρ H := SL.pu (p_makeFunc rfl hx hy) hg hd h
theorem W.bd {ps : Array (Nat × Operand)} {vs : List (Nat × Value)} {pl : List (Nat × Nat)} {zv rv : List Value} [StructTy P t pl] [ZeroTy P t zv] (h : SL P C L Q rest (pt ρ d' (.agg rv.toArray)) H) (hp : evp ρ ps.toList = some vs := by exact rfl) (hr : bfill (fun i => pl[i]?) zv vs = some rv := by first | assumption | exact rfl) (hg : gd L ρ ⟨d, .build t ps, ty, pos, af, g⟩ = some true := by exact rfl) (hd : dk C.n d = some d' := by exact rfl) : SL P C L Q (⟨d, .build t ps, ty, pos, af, g⟩ :: rest) ρ H := SL.pu (p_build rfl hp hr) hg hd h
theorem W.bda {ps : Array (Nat × Operand)} {vs : List (Nat × Value)} {zv rv : List Value} [ArrTy P t len e n] [ZeroTy P t zv] (h : SL P C L Q rest (pt ρ d' (.agg rv.toArray)) H) (hp : evp ρ ps.toList = some vs := by exact rfl) (hr : bfill (fun i => some (i * n, n)) zv vs = some rv := by first | assumption | exact rfl) (hg : gd L ρ ⟨d, .build t ps, ty, pos, af, g⟩ = some true := by exact rfl) (hd : dk C.n d = some d' := by exact rfl) : SL P C L Q (⟨d, .build t ps, ty, pos, af, g⟩ :: rest) ρ H := SL.pu (p_build_arr rfl hp hr) hg hd h
/-- Comparisons: it is so, it is not, or both ways. -/
theorem W.ct {bo : BinOp} (h : SL P C L Q rest (pt ρ d' (.bool true)) H) (hb : isCmp bo = true := by exact rfl) (hx : ev ρ x = some (.int k m) := by exact rfl) (hy : ev ρ y = some (.int k q) := by exact rfl) (hc : cmpP bo m q := by (dsimp only [cmpP]; first | done | omega)) (hg : gd L ρ ⟨d, .binOp bo t x y t', ty, pos, af, g⟩ = some true := by exact rfl) (hd : dk C.n d = some d' := by exact rfl) : SL P C L Q (⟨d, .binOp bo t x y t', ty, pos, af, g⟩ :: rest) ρ H := SL.pu (Pu.t (p_cmp rfl hb hx hy) hc) hg hd h
theorem W.cf {bo : BinOp} (h : SL P C L Q rest (pt ρ d' (.bool false)) H) (hb : isCmp bo = true := by exact rfl) (hx : ev ρ x = some (.int k m) := by exact rfl) (hy : ev ρ y = some (.int k q) := by exact rfl) (hc : ¬ cmpP bo m q := by (dsimp only [cmpP]; first | done | omega)) (hg : gd L ρ ⟨d, .binOp bo t x y t', ty, pos, af, g⟩ = some true := by exact rfl) (hd : dk C.n d = some d' := by exact rfl) : SL P C L Q (⟨d, .binOp bo t x y t', ty, pos, af, g⟩ :: rest) ρ H := SL.pu (Pu.f (p_cmp rfl hb hx hy) hc) hg hd h
theorem W.cs {bo : BinOp} (h1 : cmpP bo m q → SL P C L Q rest (pt ρ d' (.bool true)) H) (h2 : ¬ cmpP bo m q → SL P C L Q rest (pt ρ d' (.bool false)) H) (hb : isCmp bo = true := by exact rfl) (hx : ev ρ x = some (.int k m) := by exact rfl) (hy : ev ρ y = some (.int k q) := by exact rfl) (hg : gd L ρ ⟨d, .binOp bo t x y t', ty, pos, af, g⟩ = some true := by exact rfl) (hd : dk C.n d = some d' := by exact rfl) : SL P C L Q (⟨d, .binOp bo t x y t', ty, pos, af, g⟩ :: rest) ρ H := SL.cmp (p_cmp rfl hb hx hy) hg hd h1 h2
/-- A test that stays as it is. -/
theorem W.cr {bo : BinOp} (h : SL P C L Q rest (pt ρ d' (.bool (decide (cmpP bo m q)))) H) (hb : isCmp bo = true := by exact rfl) (hx : ev ρ x = some (.int k m) := by exact rfl) (hy : ev ρ y = some (.int k q) := by exact rfl) (hg : gd L ρ ⟨d, .binOp bo t x y t', ty, pos, af, g⟩ = some true := by exact rfl) (hd : dk C.n d = some d' := by exact rfl) : SL P C L Q (⟨d, .binOp bo t x y t', ty, pos, af, g⟩ :: rest) ρ H := SL.pu (p_cmp rfl hb hx hy) hg hd h
theorem W.ad (h : SL P C L Q rest (pt ρ d' (.int .i64 (m + q))) H) (hx : ev ρ x = some (.int .i64 m) := by exact rfl) (hy : ev ρ y = some (.int .i64 q) := by exact rfl) (hr : -9223372036854775808 ≤ m + q ∧ m + q ≤ 9223372036854775807 := by omega) (hg : gd L ρ ⟨d, .binOp .add t x y t', ty, pos, af, g⟩ = some true := by exact rfl) (hd : dk C.n d = some d' := by exact rfl) : SL P C L Q (⟨d, .binOp .add t x y t', ty, pos, af, g⟩ :: rest) ρ H := SL.pu (p_add rfl hx hy (w64 hr)) hg hd h
theorem W.sb (h : SL P C L Q rest (pt ρ d' (.int .i64 (m - q))) H) (hx : ev ρ x = some (.int .i64 m) := by exact rfl) (hy : ev ρ y = some (.int .i64 q) := by exact rfl) (hr : -9223372036854775808 ≤ m - q ∧ m - q ≤ 9223372036854775807 := by omega) (hg : gd L ρ ⟨d, .binOp .sub t x y t', ty, pos, af, g⟩ = some true := by exact rfl) (hd : dk C.n d = some d' := by exact rfl) : SL P C L Q (⟨d, .binOp .sub t x y t', ty, pos, af, g⟩ :: rest) ρ H := SL.pu (p_sub rfl hx hy (w64 hr)) hg hd h
theorem W.ml (h : SL P C L Q rest (pt ρ d' (.int .i64 (m * q))) H) (hx : ev ρ x = some (.int .i64 m) := by exact rfl) (hy : ev ρ y = some (.int .i64 q) := by exact rfl) (hr : -9223372036854775808 ≤ m * q ∧ m * q ≤ 9223372036854775807 := by omega) (hg : gd L ρ ⟨d, .binOp .mul t x y t', ty, pos, af, g⟩ = some true := by exact rfl) (hd : dk C.n d = some d' := by exact rfl) : SL P C L Q (⟨d, .binOp .mul t x y t', ty, pos, af, g⟩ :: rest) ρ H := SL.pu (p_mul rfl hx hy (w64 hr)) hg hd h
theorem W.ua {bo : BinOp} (h : SL P C L Q rest (pt ρ d' (.int k r)) H) (hx : ev ρ x = some (.int k m) := by exact rfl) (hy : ev ρ y = some (.int k q) := by exact rfl) (i0 : UAr bo k m q r := by infer_instance) (hg : gd L ρ ⟨d, .binOp bo t x y t', ty, pos, af, g⟩ = some true := by exact rfl) (hd : dk C.n d = some d' := by exact rfl) : SL P C L Q (⟨d, .binOp bo t x y t', ty, pos, af, g⟩ :: rest) ρ H := SL.pu (p_uar rfl hx hy) hg hd h
theorem W.qu (h : SL P C L Q rest (pt ρ d' (.int .i64 (m / q))) H) (hx : ev ρ x = some (.int .i64 m) := by exact rfl) (hy : ev ρ y = some (.int .i64 q) := by exact rfl) (h0 : 0 ≤ m := by omega) (h1 : m ≤ 9223372036854775807 := by omega) (hn : 0 < q := by omega) (hg : gd L ρ ⟨d, .binOp .quo t x y t', ty, pos, af, g⟩ = some true := by exact rfl) (hd : dk C.n d = some d' := by exact rfl) : SL P C L Q (⟨d, .binOp .quo t x y t', ty, pos, af, g⟩ :: rest) ρ H := SL.pu (p_quoP rfl hx hy h0 h1 hn) hg hd h
theorem W.rm (h : SL P C L Q rest (pt ρ d' (.int k (m % q))) H) (hx : ev ρ x = some (.int k m) := by exact rfl) (hy : ev ρ y = some (.int k q) := by exact rfl) (h0 : 0 ≤ m := by omega) (hn : 0 < q := by omega) (hg : gd L ρ ⟨d, .binOp .rem t x y t', ty, pos, af, g⟩ = some true := by exact rfl) (hd : dk C.n d = some d' := by exact rfl) : SL P C L Q (⟨d, .binOp .rem t x y t', ty, pos, af, g⟩ :: rest) ρ H := SL.pu (p_remP rfl hx hy h0 hn) hg hd h
theorem W.en {p : Option Addr} [PtrTy P t] (h : SL P C L Q rest (pt ρ d' (.bool p.isNone)) H) (hx : ev ρ x = some (.pointer p) := by exact rfl) (hy : ev ρ y = some (.pointer none) := by exact rfl) (hg : gd L ρ ⟨d, .binOp .eql t x y t', ty, pos, af, g⟩ = some true := by exact rfl) (hd : dk C.n d = some d' := by exact rfl) : SL P C L Q (⟨d, .binOp .eql t x y t', ty, pos, af, g⟩ :: rest) ρ H := SL.pu (p_eqnil rfl hx hy) hg hd h
theorem W.nn {p : Option Addr} [PtrTy P t] (h : SL P C L Q rest (pt ρ d' (.bool p.isSome)) H) (hx : ev ρ x = some (.pointer p) := by exact rfl) (hy : ev ρ y = some (.pointer none) := by exact rfl) (hg : gd L ρ ⟨d, .binOp .neq t x y t', ty, pos, af, g⟩ = some true := by exact rfl) (hd : dk C.n d = some d' := by exact rfl) : SL P C L Q (⟨d, .binOp .neq t x y t', ty, pos, af, g⟩ :: rest) ρ H := SL.pu (p_nenil rfl hx hy) hg hd h
theorem W.es {p : Option Addr} [SliceTy P t e n] (h : SL P C L Q rest (pt ρ d' (.bool p.isNone)) H) (hx : ev ρ x = some (.slice p len cap) := by exact rfl) (hy : ev ρ y = some (.slice none 0 0) := by exact rfl) (hg : gd L ρ ⟨d, .binOp .eql t x y t', ty, pos, af, g⟩ = some true := by exact rfl) (hd : dk C.n d = some d' := by exact rfl) : SL P C L Q (⟨d, .binOp .eql t x y t', ty, pos, af, g⟩ :: rest) ρ H := SL.pu (p_eqslnil rfl hx hy) hg hd h
theorem W.ns {p : Option Addr} [SliceTy P t e n] (h : SL P C L Q rest (pt ρ d' (.bool p.isSome)) H) (hx : ev ρ x = some (.slice p len cap) := by exact rfl) (hy : ev ρ y = some (.slice none 0 0) := by exact rfl) (hg : gd L ρ ⟨d, .binOp .neq t x y t', ty, pos, af, g⟩ = some true := by exact rfl) (hd : dk C.n d = some d' := by exact rfl) : SL P C L Q (⟨d, .binOp .neq t x y t', ty, pos, af, g⟩ :: rest) ρ H := SL.pu (p_neslnil rfl hx hy) hg hd h
theorem W.ln {p : Option Addr} [SliceTy P t e n] (h : SL P C L Q rest (pt ρ d' (.int .i64 len)) H) (hx : ev ρ x = some (.slice p len cap) := by exact rfl) (hg : gd L ρ ⟨d, .call { callee := .builtin .len, args := #[x], argTypes := #[t] }, ty, pos, af, g⟩ = some true := by exact rfl) (hd : dk C.n d = some d' := by exact rfl) : SL P C L Q (⟨d, .call { callee := .builtin .len, args := #[x], argTypes := #[t] }, ty, pos, af, g⟩ :: rest) ρ H := SL.pu (p_len_slice rfl hx) hg hd h
theorem W.lr [ArrTy P t len e n] (h : SL P C L Q rest (pt ρ d' (.int .i64 len)) H) (hx : ev ρ x = some v := by exact rfl) (hg : gd L ρ ⟨d, .call { callee := .builtin .len, args := #[x], argTypes := #[t] }, ty, pos, af, g⟩ = some true := by exact rfl) (hd : dk C.n d = some d' := by exact rfl) : SL P C L Q (⟨d, .call { callee := .builtin .len, args := #[x], argTypes := #[t] }, ty, pos, af, g⟩ :: rest) ρ H := SL.pu (p_len_arr rfl hx) hg hd h
theorem W.lt {s : ByteArray} [StrTy P t] (h : SL P C L Q rest (pt ρ d' (.int .i64 s.size)) H) (hx : ev ρ x = some (.string s) := by exact rfl) (hg : gd L ρ ⟨d, .call { callee := .builtin .len, args := #[x], argTypes := #[t] }, ty, pos, af, g⟩ = some true := by exact rfl) (hd : dk C.n d = some d' := by exact rfl) : SL P C L Q (⟨d, .call { callee := .builtin .len, args := #[x], argTypes := #[t] }, ty, pos, af, g⟩ :: rest) ρ H := SL.pu (p_len_str rfl hx) hg hd h
theorem W.cp {p : Option Addr} [SliceTy P t e n] (h : SL P C L Q rest (pt ρ d' (.int .i64 cap)) H) (hx : ev ρ x = some (.slice p len cap) := by exact rfl) (hg : gd L ρ ⟨d, .call { callee := .builtin .cap, args := #[x], argTypes := #[t] }, ty, pos, af, g⟩ = some true := by exact rfl) (hd : dk C.n d = some d' := by exact rfl) : SL P C L Q (⟨d, .call { callee := .builtin .cap, args := #[x], argTypes := #[t] }, ty, pos, af, g⟩ :: rest) ρ H := SL.pu (p_cap_slice rfl hx) hg hd h
theorem W.mn {ats : Array TypeId} (h : SL P C L Q rest (pt ρ d' (.int k (min m q))) H) (hx : ev ρ x = some (.int k m) := by exact rfl) (hy : ev ρ y = some (.int k q) := by exact rfl) (hg : gd L ρ ⟨d, .call { callee := .builtin .min, args := #[x, y], argTypes := ats }, ty, pos, af, g⟩ = some true := by exact rfl) (hd : dk C.n d = some d' := by exact rfl) : SL P C L Q (⟨d, .call { callee := .builtin .min, args := #[x, y], argTypes := ats }, ty, pos, af, g⟩ :: rest) ρ H := SL.pu (p_min rfl hx hy rfl) hg hd h
theorem W.mx {ats : Array TypeId} (h : SL P C L Q rest (pt ρ d' (.int k (max m q))) H) (hx : ev ρ x = some (.int k m) := by exact rfl) (hy : ev ρ y = some (.int k q) := by exact rfl) (hg : gd L ρ ⟨d, .call { callee := .builtin .max, args := #[x, y], argTypes := ats }, ty, pos, af, g⟩ = some true := by exact rfl) (hd : dk C.n d = some d' := by exact rfl) : SL P C L Q (⟨d, .call { callee := .builtin .max, args := #[x, y], argTypes := ats }, ty, pos, af, g⟩ :: rest) ρ H := SL.pu (p_max rfl hx hy rfl) hg hd h
theorem W.ix [SliceTy P t e n] (h : SL P C L Q rest (pt ρ d' (.pointer (some ⟨b, c, none⟩))) H) (hx : ev ρ x = some (.slice (some ⟨b, j, none⟩) len cap) := by exact rfl) (hy : ev ρ y = some (.int k m) := by exact rfl) (hi : NatI m i := by infer_instance) (ha : AdN j i n c := by infer_instance) (h1 : i < len := by omega) (hg : gd L ρ ⟨d, .indexAddr t x y, ty, pos, af, g⟩ = some true := by exact rfl) (hd : dk C.n d = some d' := by exact rfl) : SL P C L Q (⟨d, .indexAddr t x y, ty, pos, af, g⟩ :: rest) ρ H :=
  SL.pu (p_indexAddr rfl hx hy (by rw [hi.ok]; omega) (by rw [hi.ok]; omega) (by rw [hi.ok, Int.toNat_natCast]; exact ha.ok)) hg hd h
theorem W.ixa [ArrTy P t len e n] (h : SL P C L Q rest (pt ρ d' (.pointer (some ⟨b, c, none⟩))) H) (hx : ev ρ x = some (.pointer (some ⟨b, j, none⟩)) := by exact rfl) (hy : ev ρ y = some (.int k m) := by exact rfl) (hi : NatI m i := by infer_instance) (ha : AdN j i n c := by infer_instance) (h1 : i < len := by omega) (hg : gd L ρ ⟨d, .indexAddr t x y, ty, pos, af, g⟩ = some true := by exact rfl) (hd : dk C.n d = some d' := by exact rfl) : SL P C L Q (⟨d, .indexAddr t x y, ty, pos, af, g⟩ :: rest) ρ H :=
  SL.pu (p_indexAddr_arr rfl hx hy (by rw [hi.ok]; omega) (by rw [hi.ok]; omega) (by rw [hi.ok, Int.toNat_natCast]; exact ha.ok)) hg hd h
theorem W.sk (h : SL P C L Q rest (pt ρ d' undef) H) {op : Go.Op} {gg : Nat × Bool} (hg : gd L ρ ⟨d, op, ty, pos, af, some gg⟩ = some false := by exact rfl) (hd : dk C.n d = some d' := by exact rfl) : SL P C L Q (⟨d, op, ty, pos, af, some gg⟩ :: rest) ρ H := SL.sk hg hd h
theorem W.bx (h : ∀ b, SL P C L Q rest (pt ρ d' (.pointer (some ⟨b, 0, none⟩))) ((b, cl [v] t) :: H)) (hx : ev ρ x = some v := by exact rfl) (i0 : One v := by infer_instance) (hg : gd L ρ ⟨d, .box t x, ty, pos, af, g⟩ = some true := by exact rfl) (hd : dk C.n d = some d' := by exact rfl) : SL P C L Q (⟨d, .box t x, ty, pos, af, g⟩ :: rest) ρ H := SL.box rfl hg hd hx h
theorem W.bxa (h : ∀ b, SL P C L Q rest (pt ρ d' (.pointer (some ⟨b, 0, none⟩))) ((b, cl l t) :: H)) (hx : ev ρ x = some (.agg l.toArray) := by exact rfl) (hg : gd L ρ ⟨d, .box t x, ty, pos, af, g⟩ = some true := by exact rfl) (hd : dk C.n d = some d' := by exact rfl) : SL P C L Q (⟨d, .box t x, ty, pos, af, g⟩ :: rest) ρ H := SL.box_a rfl hg hd hx h
theorem W.al {zv : List Value} [ZeroTy P t zv] (h : ∀ b, SL P C L Q rest (pt ρ d' (.pointer (some ⟨b, 0, none⟩))) ((b, cl zv t) :: H)) (hg : gd L ρ ⟨d, .alloc t, ty, pos, af, g⟩ = some true := by exact rfl) (hd : dk C.n d = some d' := by exact rfl) : SL P C L Q (⟨d, .alloc t, ty, pos, af, g⟩ :: rest) ρ H := SL.alloc rfl hg hd h
theorem W.st [OneTy P t] (h : SL P C L Q rest (pt ρ d' undef) H') (hx : ev ρ x = some (.pointer (some ⟨b, i, none⟩)) := by exact rfl) (hy : ev ρ y = some v := by exact rfl) (i0 : One v := by infer_instance) (i34 : At H b (cl l T) := by infer_instance) (i79 : Upd H b (cl (l.set i v) T) H' := by infer_instance) (hi : i < l.length := by first | assumption | exact Nat.le_of_ble_eq_true rfl) (hg : gd L ρ ⟨d, .store t x y, ty, pos, af, g⟩ = some true := by exact rfl) (hd : dk C.n d = some d' := by exact rfl) : SL P C L Q (⟨d, .store t x y, ty, pos, af, g⟩ :: rest) ρ H := SL.store rfl hg hd hx hy hi h
theorem W.sw [RowTy P t n] (h : SL P C L Q rest (pt ρ d' undef) H') (hx : ev ρ x = some (.pointer (some ⟨b, 0, none⟩)) := by exact rfl) (hy : ev ρ y = some (.agg l'.toArray) := by exact rfl) (i0 : OC l' := by infer_instance) (i34 : At H b (cl l T) := by infer_instance) (i79 : Upd H b (cl l' T) H' := by infer_instance) (hr : l'.length = n := by first | assumption | exact rfl) (hz : l.length = n := by first | assumption | exact rfl) (hg : gd L ρ ⟨d, .store t x y, ty, pos, af, g⟩ = some true := by exact rfl) (hd : dk C.n d = some d' := by exact rfl) : SL P C L Q (⟨d, .store t x y, ty, pos, af, g⟩ :: rest) ρ H := SL.store_w rfl hg hd hx hy hr hz h
theorem W.sa {rv : List Value} [RowTy P t n] (h : SL P C L Q rest (pt ρ d' undef) H') (hx : ev ρ x = some (.pointer (some ⟨b, i, none⟩)) := by exact rfl) (hy : ev ρ y = some (.agg rv.toArray) := by exact rfl) (i0 : OC rv := by infer_instance) (i34 : At H b (cl l T) := by infer_instance) (i79 : Upd H b (cl (l.take i ++ rv ++ l.drop (i + n)) T) H' := by infer_instance) (hr : rv.length = n := by first | assumption | exact rfl) (hi : i + n ≤ l.length := by first | assumption | exact Nat.le_of_ble_eq_true rfl) (hg : gd L ρ ⟨d, .store t x y, ty, pos, af, g⟩ = some true := by exact rfl) (hd : dk C.n d = some d' := by exact rfl) : SL P C L Q (⟨d, .store t x y, ty, pos, af, g⟩ :: rest) ρ H := SL.store_a rfl hg hd hx hy hr hi rfl h
/-- A call, by its contract. -/
theorem W.call {f : FuncId} {xs : Array Operand} {ats : Array TypeId} {vs : List Value} {Hc rr : Hp} {Pre : World → Prop} {R : Value → Hp → Prop} [IsFn P f] (ht : Tri P f vs Hc Pre R) [Part H Hc rr] (hk : ∀ v H', R v H' → SL P C L Q rest (pt ρ d' v) (H' ++ rr)) (hx : evs ρ xs.toList = some vs := by exact rfl) (hpre : ∀ w, St C.K C.w0 H w → Pre w := by exact fun _ _ => trivial) (hg : gd L ρ ⟨d, .call { callee := .value (.func f), args := xs, argTypes := ats }, ty, pos, af, g⟩ = some true := by exact rfl) (hd : dk C.n d = some d' := by exact rfl) :
    SL P C L Q (⟨d, .call { callee := .value (.func f), args := xs, argTypes := ats }, ty, pos, af, g⟩ :: rest) ρ H := SL.call Hc rfl hg hd hx ht hpre hk
/-- The arguments are spelled otherwise. -/
theorem W.callE {f : FuncId} {xs : Array Operand} {ats : Array TypeId} {vs vs' : List Value} {Hc rr : Hp} {Pre : World → Prop} {R : Value → Hp → Prop} [IsFn P f] (ht : Tri P f vs Hc Pre R) [Part H Hc rr] (he : vs' = vs) (hk : ∀ v H', R v H' → SL P C L Q rest (pt ρ d' v) (H' ++ rr)) (hx : evs ρ xs.toList = some vs' := by exact rfl) (hpre : ∀ w, St C.K C.w0 H w → Pre w := by exact fun _ _ => trivial) (hg : gd L ρ ⟨d, .call { callee := .value (.func f), args := xs, argTypes := ats }, ty, pos, af, g⟩ = some true := by exact rfl) (hd : dk C.n d = some d' := by exact rfl) :
    SL P C L Q (⟨d, .call { callee := .value (.func f), args := xs, argTypes := ats }, ty, pos, af, g⟩ :: rest) ρ H := W.call ht hk (he ▸ hx) hpre hg hd
end
section
variable {P : Program} {C : Ctx} {ρ : Fr} {H : Hp} {fn : Func} {R : Value → Hp → Prop} {e : Exit} {t u : Nat} {v v2 : Value}
theorem F.f0 (hR : R (.tuple #[]) H) (he : e = .ret ∨ e = .normal := by first | exact .inl rfl | exact .inr rfl) (hrs : fn.results = #[] := by exact rfl) : Fin P C fn R e ρ H := Fin.s0 he hrs hR
theorem F.f1 (hR : R v H) (he : e = .ret ∨ e = .normal := by first | exact .inl rfl | exact .inr rfl) (hrs : fn.results = #[.tmp t] := by exact rfl) (ht : lk ρ t = some v := by exact rfl) : Fin P C fn R e ρ H := Fin.s1 he hrs ht hR
theorem F.f2 (hR : R (.tuple #[v, v2]) H) (he : e = .ret ∨ e = .normal := by first | exact .inl rfl | exact .inr rfl) (hrs : fn.results = #[.tmp t, .tmp u] := by exact rfl) (ht : lk ρ t = some v := by exact rfl) (hu : lk ρ u = some v2 := by exact rfl) : Fin P C fn R e ρ H := Fin.s2 he hrs ht hu hR
end

theorem SW.cond_d {P : Program} {C : Ctx} {Q : Exit → Fr → Hp → Prop} {ρ : Fr} {H : Hp} {c : Operand} {x y : Code} {p : Prop} [Decidable p] (hc : ev ρ c = some (.bool (decide p))) (ht : p → SW P C x Q ρ H) (hf : ¬ p → SW P C y Q ρ H) : SW P C (.cond c x y) Q ρ H :=
  SW.cond_b hc (fun e => ht (of_decide_eq_true e)) (fun e => hf (of_decide_eq_false e))

/-! ### Loops: what is not written stays -/
def selF (ρ : Fr) : List Nat → Option Fr
  | [] => some []
  | t :: r => match lk ρ t, selF ρ r with
    | some v, some s => some ((t, v) :: s)
    | _, _ => none
theorem selF.sub {ρ : Fr} : ∀ {ts : List Nat} {r : Fr}, selF ρ ts = some r → subF r ρ
  | [], r, h => by simp [selF] at h; subst h; trivial
  | t :: ts, r, h => by
    unfold selF at h
    split at h
    · rename_i v s hv hs
      simp at h; subst h
      exact ⟨hv, selF.sub hs⟩
    · cases h
theorem subF.append {ρ : Fr} : ∀ {a b : Fr}, subF a ρ → subF b ρ → subF (a ++ b) ρ
  | [], b, _, h => h
  | (k, v) :: a, b, ⟨h1, h2⟩, h => ⟨h1, subF.append h2 h⟩
section
variable {P : Program} {C : Ctx} {Q : Exit → Fr → Hp → Prop} {ρ : Fr} {H : Hp} {α : Type}
def HandF (F : α → Fr) (ρk : Fr) (G : α → Hp) (s : Hp) (M : α → Nat) (I : α → Prop) (a : α) : Fr → Hp → Prop := HandN (fun x => F x ++ ρk) (fun x => G x ++ s) M I a
theorem HandF.mk {F : α → Fr} {ρk : Fr} {G : α → Hp} {s s' : Hp} {M : α → Nat} {I : α → Prop} {a : α} (a' : α) (hi : I a') (hM : M a' < M a := by (first | omega | (dsimp only; omega))) [hp : Part H (G a' ++ s) s'] (hr : subF (F a' ++ ρk) ρ := by (repeat' first | exact trivial | refine And.intro rfl ?_)) : HandF F ρk G s M I a ρ H := ⟨a', s', hM, hr, hp.perm, hi⟩
theorem SW.loopF {c : Code} (ts : List Nat) (F : α → Fr) (G : α → Hp) (M : α → Nat) (I : α → Prop) (a0 : α) {s : Hp} {ρk : Fr} [hp : Part H (G a0) s] (h0 : I a0)
    (round : ∀ a, I a → SW P C c (thn (HandF F ρk G s M I a) Q) (F a ++ ρk) (G a ++ s)) (hk : selF ρ ts = some ρk := by exact rfl) (hr : subF (F a0) ρ := by (repeat' first | exact trivial | refine And.intro rfl ?_)) : SW P C (.loop c) Q ρ H :=
  SW.loopN (fun x => F x ++ ρk) (fun x => G x ++ s) M I a0 (s := []) (hr.append (selF.sub hk)) ⟨by rw [List.append_nil]; exact hp.perm⟩ h0 round
end
section
variable {P : Program} {C : Ctx} {Q : Exit → Fr → Hp → Prop} {ρ : Fr} {H : Hp} {α : Type}
/-- The blocks that change by their numbers. -/
theorem SW.loopG {c : Code} (ts bs : List Nat) (F : α → Fr) (G : α → Hp) (M : α → Nat) (I : α → Prop) (a0 : α) {R s : Hp} {ρk : Fr} [hp : Sel H bs R s] (h0 : I a0)
    (round : ∀ a, I a → SW P C c (thn (HandF F ρk G s M I a) Q) (F a ++ ρk) (G a ++ s)) (hG : R = G a0 := by exact rfl) (hk : selF ρ ts = some ρk := by exact rfl) (hr : subF (F a0) ρ := by (repeat' first | exact trivial | refine And.intro rfl ?_)) : SW P C (.loop c) Q ρ H :=
  SW.loopF (hp := ⟨hG ▸ hp.perm⟩) ts F G M I a0 h0 round hk hr
end

/-! ### Where ways meet -/
section
variable {P : Program} {C : Ctx} {Q : Exit → Fr → Hp → Prop} {ρ : Fr} {H : Hp} {α : Type}
def CutF (F : α → Fr) (ρk : Fr) (G : α → Hp) (s : Hp) (I : α → Prop) (ρ : Fr) (H : Hp) : Prop := ∃ a r, I a ∧ subF (F a ++ ρk) ρ ∧ H.Perm ((G a ++ s) ++ r)
theorem CutF.mk {F : α → Fr} {ρk : Fr} {G : α → Hp} {s r : Hp} {I : α → Prop} (a : α) (hi : I a) [hp : Part H (G a ++ s) r] (hr : subF (F a ++ ρk) ρ := by (repeat' first | exact trivial | refine And.intro rfl ?_)) : CutF F ρk G s I ρ H := ⟨a, r, hi, hr, hp.perm⟩
/-- 'ts': slots that stay and are needed; 'G0': the blocks that change ('bs': by their numbers). -/
theorem SW.cutH {x y : Code} (ts : List Nat) (G0 : Hp) (F : α → Fr) (G : α → Hp) (I : α → Prop) {ρk : Fr} {s : Hp} [hp : Part H G0 s] (h1 : SW P C x (thn (CutF F ρk G s I) Q) ρ H) (h2 : ∀ a, I a → SW P C y Q (F a ++ ρk) (G a ++ s)) (hk : selF ρ ts = some ρk := by exact rfl) : SW P C x (thn (SW P C y Q) Q) ρ H :=
  SW.mono h1 fun e ρ' H' hq => by
    cases e <;> first
      | exact hq
      | (obtain ⟨a, r, hi, hr, hp⟩ := hq
         exact SW.weaken hr ⟨hp⟩ (h2 a hi))
theorem SW.cut {x y : Code} (ts bs : List Nat) (F : α → Fr) (G : α → Hp) (I : α → Prop) {ρk : Fr} {R s : Hp} [hp : Sel H bs R s] (h1 : SW P C x (thn (CutF F ρk G s I) Q) ρ H) (h2 : ∀ a, I a → SW P C y Q (F a ++ ρk) (G a ++ s)) (hk : selF ρ ts = some ρk := by exact rfl) : SW P C x (thn (SW P C y Q) Q) ρ H :=
  SW.cutH (hp := ⟨hp.perm⟩) ts R F G I h1 h2 hk
end
end Go.Proofs.Ytcmjkihddpppaaa
