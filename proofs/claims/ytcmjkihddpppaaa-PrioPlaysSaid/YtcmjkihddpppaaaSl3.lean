/- The operations that only read: what each yields. -/
import Derived.Test.YtcmjkihddpppaaaSl2
import Derived.Test.YtcmjkihddpppaaaCls
set_option linter.unusedVariables false
set_option linter.unusedSimpArgs false
namespace Go.Proofs.Ytcmjkihddpppaaa
open Go

section
variable {P : Program} {C : Ctx} {ρ : Fr} {H : Hp} {o : Oper}

theorem run_isAgg_f (t : TypeId) [h : ScalarTy P t] (w : World) : (isAgg t).run P w = .ok false w := by
  obtain ⟨d, hd, hr⟩ := h.ok
  unfold isAgg
  rw [Sem.run_bind, run_underlying hd w]
  cases d <;> simp_all [TypeDesc.isRow]
theorem run_isAgg_t (t : TypeId) {n : Nat} [h : RowTy P t n] (w : World) : (isAgg t).run P w = .ok true w := by
  obtain ⟨d, hd, hr⟩ := h.ok
  unfold isAgg
  rw [Sem.run_bind, run_underlying hd w]
  cases d <;> simp_all [TypeDesc.isRow]
theorem run_sizeOf {t : TypeId} {n : Nat} (h : (P.info? t).map (·.size) = some n) (w : World) : (sizeOf t).run P w = .ok n w := by
  cases hq : P.info? t with
  | none => simp [hq] at h
  | some i => simp [hq] at h; simp [sizeOf, typeInfo, hq, h]

theorem cell_cl {w : World} {b : Nat} {l : List Value} {T : TypeId} {fz : Nat × Nat} (hb : w.heap[b]? = some (.cells l.toArray T fz)) (i : Nat) : w.cell? ⟨b, i, none⟩ = l[i]? := by
  rw [cell_of_row w b i _ T fz hb]; simp

theorem add_mid (b o j : Nat) : (⟨b, o, none⟩ : Addr).add j = ⟨b, o + j, none⟩ := by unfold Addr.add; split <;> simp_all

theorem run_load_s {w : World} {t : TypeId} [ScalarTy P t] {b i : Nat} {l : List Value} {T : TypeId} {fz : Nat × Nat} {v : Value} (hb : w.heap[b]? = some (.cells l.toArray T fz)) (hv : l[i]? = some v) :
    (loadVar t ⟨b, i, none⟩).run P w = .ok v w := by
  simp [loadVar, run_isAgg_f, cell_cl hb, hv]
theorem run_load_a {w : World} {t : TypeId} {n : Nat} [hr : RowTy P t n] {b i : Nat} {l : List Value} {T : TypeId} {fz : Nat × Nat} (hb : w.heap[b]? = some (.cells l.toArray T fz)) {r : List Value} (hv : (l.drop i).take n = r) (hn : r.length = n) :
    (loadVar t ⟨b, i, none⟩).run P w = .ok (.agg r.toArray) w := by
  obtain ⟨d, hd, hdr⟩ := hr.ok
  refine run_loadVar_mid w b i t r d (fun j v hj => ?_) hd hdr (by rw [hn]; exact hr.size)
  rw [cell_cl hb, ← hj, ← hv, List.getElem?_take]
  have : j < n := by have := (List.getElem?_eq_some_iff.1 hj).1; omega
  simp [this]

/-! ### Loads -/
theorem p_move {x : Operand} {v : Value} (ho : o.op = .move x) (hx : ev ρ x = some v) : Pu P C ρ H o v := fun a w hf _ => by
  unfold execOp; rw [ho]; simp [hf.eval hx]
theorem p_assign {x : Operand} {v : Value} (ho : o.op = .assign x) (hx : ev ρ x = some v) : Pu P C ρ H o v := fun a w hf _ => by
  unfold execOp; rw [ho]; simp [hf.eval hx]
theorem p_pick_t {c x y : Operand} {v : Value} (ho : o.op = .pick c x y) (hc : ev ρ c = some (.bool true)) (hx : ev ρ x = some v) : Pu P C ρ H o v := fun a w hf _ => by
  unfold execOp; rw [ho]; simp [hf.eval hc, hf.eval hx, asBool]
theorem p_pick_f {c x y : Operand} {v : Value} (ho : o.op = .pick c x y) (hc : ev ρ c = some (.bool false)) (hx : ev ρ y = some v) : Pu P C ρ H o v := fun a w hf _ => by
  unfold execOp; rw [ho]; simp [hf.eval hc, hf.eval hx, asBool]
theorem p_load_s {t : TypeId} {x : Operand} {b i : Nat} {l : List Value} {T : TypeId} {v : Value} (ho : o.op = .load t x) (hx : ev ρ x = some (.pointer (some ⟨b, i, none⟩))) [ScalarTy P t] [At H b (cl l T)] (hv : l[i]? = some v) : Pu P C ρ H o v := fun a w hf hs => by
  unfold execOp; rw [ho]; simp [hf.eval hx, Instr.loadAt, Instr.sureAddr, run_load_s hs.at hv]
theorem p_load_a {t : TypeId} {n : Nat} {x : Operand} {b i : Nat} {l r : List Value} {T : TypeId} (ho : o.op = .load t x) (hx : ev ρ x = some (.pointer (some ⟨b, i, none⟩))) [RowTy P t n] [At H b (cl l T)] (hv : (l.drop i).take n = r) (hn : r.length = n) : Pu P C ρ H o (.agg r.toArray) := fun a w hf hs => by
  unfold execOp; rw [ho]; simp [hf.eval hx, Instr.loadAt, Instr.sureAddr, run_load_a hs.at hv hn]
/-- Out of a block that was there and is not the call's. -/
theorem p_load_sR {t : TypeId} {x : Operand} {b i : Nat} {l : List Value} {T : TypeId} {fz : Nat × Nat} {v : Value} (ho : o.op = .load t x) (hx : ev ρ x = some (.pointer (some ⟨b, i, none⟩))) [ScalarTy P t] (hb : C.w0.heap[b]? = some (.cells l.toArray T fz)) (hk : b ∉ C.K) (hv : l[i]? = some v) : Pu P C ρ H o v := fun a w hf hs => by
  unfold execOp; rw [ho]; simp [hf.eval hx, Instr.loadAt, Instr.sureAddr, run_load_s (hs.ro hb hk) hv]
theorem p_load_aR {t : TypeId} {n : Nat} {x : Operand} {b i : Nat} {l r : List Value} {T : TypeId} {fz : Nat × Nat} (ho : o.op = .load t x) (hx : ev ρ x = some (.pointer (some ⟨b, i, none⟩))) [RowTy P t n] (hb : C.w0.heap[b]? = some (.cells l.toArray T fz)) (hk : b ∉ C.K) (hv : (l.drop i).take n = r) (hn : r.length = n) : Pu P C ρ H o (.agg r.toArray) := fun a w hf hs => by
  unfold execOp; rw [ho]; simp [hf.eval hx, Instr.loadAt, Instr.sureAddr, run_load_a (hs.ro hb hk) hv hn]

/-! ### Addresses -/
theorem p_nil {x : Operand} {ad : Addr} (ho : o.op = .nilCheck x) (hx : ev ρ x = some (.pointer (some ad))) : Pu P C ρ H o (.pointer (some ad)) := fun a w hf _ => by
  unfold execOp; rw [ho]; simp [hf.eval hx]
theorem p_fieldAddr {s i t off : Nat} {x : Operand} {b j : Nat} (ho : o.op = .fieldAddr s x i) (hx : ev ρ x = some (.pointer (some ⟨b, j, none⟩))) [h : FieldTy P s i t off] {j' : Nat} (hj : j + off = j') : Pu P C ρ H o (.pointer (some ⟨b, j', none⟩)) := fun a w hf _ => by
  obtain ⟨fs, f, hu, hi, hof, ht⟩ := h.ok
  obtain ⟨m, hm, hm0⟩ := h.nz
  subst hj
  unfold execOp; rw [ho]
  simp [hf.eval hx, Instr.fieldAt, run_underlying hu, hi, Instr.sureAddr, fieldPlace, run_sizeOf (ht ▸ hm), hm0, add_mid, hof]
theorem p_field {s i t off : Nat} {x : Operand} {l : List Value} {v : Value} (ho : o.op = .field s x i) (hx : ev ρ x = some (.agg l.toArray)) [h : FieldTy P s i t off] [ScalarTy P t] (hv : l[off]? = some v) : Pu P C ρ H o v := fun a w hf _ => by
  obtain ⟨fs, f, hu, hi, hof, ht⟩ := h.ok
  subst hof ht
  unfold execOp; rw [ho]
  simp [hf.eval hx, Instr.field, run_underlying hu, hi, asAgg, part, run_isAgg_f, hv]
theorem p_field_a {s i t off n : Nat} {x : Operand} {l r : List Value} (ho : o.op = .field s x i) (hx : ev ρ x = some (.agg l.toArray)) [h : FieldTy P s i t off] [hr : RowTy P t n] (hv : (l.drop off).take n = r) : Pu P C ρ H o (.agg r.toArray) := fun a w hf _ => by
  obtain ⟨fs, f, hu, hi, hof, ht⟩ := h.ok
  subst hof ht
  unfold execOp; rw [ho]
  simp [hf.eval hx, Instr.field, run_underlying hu, hi, asAgg, part, run_isAgg_t, run_sizeOf hr.size, ← hv, List.take_drop]
theorem p_indexAddr {t e n : Nat} {x y : Operand} {b j len cap : Nat} {kk : IntKind} {i : Int} (ho : o.op = .indexAddr t x y) (hx : ev ρ x = some (.slice (some ⟨b, j, none⟩) len cap)) (hy : ev ρ y = some (.int kk i)) [h : SliceTy P t e n]
    (h0 : 0 ≤ i) (h1 : i < len) {j' : Nat} (hj : j + i.toNat * n = j') : Pu P C ρ H o (.pointer (some ⟨b, j', none⟩)) := fun a w hf _ => by
  subst hj
  unfold execOp; rw [ho]
  simp [hf.eval hx, hf.eval hy, Instr.indexAt, run_underlying h.ok, asIntOf, h0, h1, run_sizeOf h.size, add_mid]
theorem p_indexAddr_arr {t e n len : Nat} {x y : Operand} {b j : Nat} {kk : IntKind} {i : Int} (ho : o.op = .indexAddr t x y) (hx : ev ρ x = some (.pointer (some ⟨b, j, none⟩))) (hy : ev ρ y = some (.int kk i)) [h : ArrTy P t len e n]
    (h0 : 0 ≤ i) (h1 : i < len) {j' : Nat} (hj : j + i.toNat * n = j') : Pu P C ρ H o (.pointer (some ⟨b, j', none⟩)) := fun a w hf _ => by
  subst hj
  unfold execOp; rw [ho]
  simp [hf.eval hx, hf.eval hy, Instr.indexAt, run_underlying h.ok, asIntOf, Instr.sureAddr, h0, h1, run_sizeOf h.size, add_mid]
theorem p_index {t e n len : Nat} {x y : Operand} {l : List Value} {kk : IntKind} {i : Int} {v : Value} (ho : o.op = .index t x y) (hx : ev ρ x = some (.agg l.toArray)) (hy : ev ρ y = some (.int kk i)) [h : ArrTy P t len e n] [ScalarTy P e]
    (h0 : 0 ≤ i) (h1 : i < len) (hv : l[i.toNat * n]? = some v) : Pu P C ρ H o v := fun a w hf _ => by
  unfold execOp; rw [ho]
  simp [hf.eval hx, hf.eval hy, Instr.index, run_underlying h.ok, asIntOf, h0, h1, run_sizeOf h.size, part, run_isAgg_f, hv]

/-! ### Numbers -/
section
variable {t t' : TypeId} {x y : Operand} {k : IntKind} {m n r : Int}
theorem eqGuard_int (op : BinOp) (w : World) (k k' : IntKind) (m n : Int) : (eqGuard op t x y (.int k m) (.int k' n)).run P w = .ok () w := by
  cases op <;> simp [eqGuard]
theorem p_add (ho : o.op = .binOp .add t x y t') (hx : ev ρ x = some (.int k m)) (hy : ev ρ y = some (.int k n)) (hr : k.wrap (m + n) = r) : Pu P C ρ H o (.int k r) := fun a w hf _ => by
  subst hr; unfold execOp; rw [ho]; simp [hf.eval hx, hf.eval hy, eqGuard_int, binOp, Op.intArith]
theorem p_sub (ho : o.op = .binOp .sub t x y t') (hx : ev ρ x = some (.int k m)) (hy : ev ρ y = some (.int k n)) (hr : k.wrap (m - n) = r) : Pu P C ρ H o (.int k r) := fun a w hf _ => by
  subst hr; unfold execOp; rw [ho]; simp [hf.eval hx, hf.eval hy, eqGuard_int, binOp, Op.intArith]
theorem p_mul (ho : o.op = .binOp .mul t x y t') (hx : ev ρ x = some (.int k m)) (hy : ev ρ y = some (.int k n)) (hr : k.wrap (m * n) = r) : Pu P C ρ H o (.int k r) := fun a w hf _ => by
  subst hr; unfold execOp; rw [ho]; simp [hf.eval hx, hf.eval hy, eqGuard_int, binOp, Op.intArith]
theorem p_quo (ho : o.op = .binOp .quo t x y t') (hx : ev ρ x = some (.int k m)) (hy : ev ρ y = some (.int k n)) (hn : n ≠ 0) (hr : k.wrap (m.tdiv n) = r) : Pu P C ρ H o (.int k r) := fun a w hf _ => by
  subst hr; unfold execOp; rw [ho]; simp [hf.eval hx, hf.eval hy, eqGuard_int, binOp, Op.intDiv, hn]
theorem p_rem (ho : o.op = .binOp .rem t x y t') (hx : ev ρ x = some (.int k m)) (hy : ev ρ y = some (.int k n)) (hn : n ≠ 0) (hr : m.tmod n = r) : Pu P C ρ H o (.int k r) := fun a w hf _ => by
  subst hr; unfold execOp; rw [ho]; simp [hf.eval hx, hf.eval hy, eqGuard_int, binOp, Op.intDiv, hn]
theorem p_lss (ho : o.op = .binOp .lss t x y t') (hx : ev ρ x = some (.int k m)) (hy : ev ρ y = some (.int k n)) : Pu P C ρ H o (.bool (decide (m < n))) := fun a w hf _ => by
  unfold execOp; rw [ho]; simp [hf.eval hx, hf.eval hy, eqGuard_int, binOp, Op.intCmp]
theorem p_leq (ho : o.op = .binOp .leq t x y t') (hx : ev ρ x = some (.int k m)) (hy : ev ρ y = some (.int k n)) : Pu P C ρ H o (.bool (decide (m ≤ n))) := fun a w hf _ => by
  unfold execOp; rw [ho]; simp [hf.eval hx, hf.eval hy, eqGuard_int, binOp, Op.intCmp]
theorem p_gtr (ho : o.op = .binOp .gtr t x y t') (hx : ev ρ x = some (.int k m)) (hy : ev ρ y = some (.int k n)) : Pu P C ρ H o (.bool (decide (n < m))) := fun a w hf _ => by
  unfold execOp; rw [ho]; simp [hf.eval hx, hf.eval hy, eqGuard_int, binOp, Op.intCmp]
theorem p_geq (ho : o.op = .binOp .geq t x y t') (hx : ev ρ x = some (.int k m)) (hy : ev ρ y = some (.int k n)) : Pu P C ρ H o (.bool (decide (n ≤ m))) := fun a w hf _ => by
  unfold execOp; rw [ho]; simp [hf.eval hx, hf.eval hy, eqGuard_int, binOp, Op.intCmp]
theorem p_eql (ho : o.op = .binOp .eql t x y t') (hx : ev ρ x = some (.int k m)) (hy : ev ρ y = some (.int k n)) : Pu P C ρ H o (.bool (decide (m = n))) := fun a w hf _ => by
  unfold execOp; rw [ho]; simp [hf.eval hx, hf.eval hy, eqGuard_int, binOp, Op.intCmp]; rfl
theorem p_neq (ho : o.op = .binOp .neq t x y t') (hx : ev ρ x = some (.int k m)) (hy : ev ρ y = some (.int k n)) : Pu P C ρ H o (.bool (decide (m ≠ n))) := fun a w hf _ => by
  unfold execOp; rw [ho]; simp [hf.eval hx, hf.eval hy, eqGuard_int, binOp, Op.intCmp, bne]; rfl
theorem p_not {b : Bool} (ho : o.op = .unOp .not t x) (hx : ev ρ x = some (.bool b)) : Pu P C ρ H o (.bool (!b)) := fun a w hf _ => by
  unfold execOp; rw [ho]; simp [hf.eval hx, Op.unary]
theorem p_and (ho : o.op = .binOp .and t x y t') (hx : ev ρ x = some (.int k m)) (hy : ev ρ y = some (.int k n)) (hr : k.wrap ((BitVec.ofInt k.bits m &&& BitVec.ofInt k.bits n).toNat) = r) : Pu P C ρ H o (.int k r) := fun a w hf _ => by
  subst hr; unfold execOp; rw [ho]; simp only [hf.eval hx, hf.eval hy, Sem.run_bind, eqGuard_int, Result.andThen_ok, binOp, Op.intBits, ne_eq, not_true_eq_false, if_false, Sem.run_pure]
theorem p_or (ho : o.op = .binOp .or t x y t') (hx : ev ρ x = some (.int k m)) (hy : ev ρ y = some (.int k n)) (hr : k.wrap ((BitVec.ofInt k.bits m ||| BitVec.ofInt k.bits n).toNat) = r) : Pu P C ρ H o (.int k r) := fun a w hf _ => by
  subst hr; unfold execOp; rw [ho]; simp only [hf.eval hx, hf.eval hy, Sem.run_bind, eqGuard_int, Result.andThen_ok, binOp, Op.intBits, ne_eq, not_true_eq_false, if_false, Sem.run_pure]
theorem p_xor (ho : o.op = .binOp .xor t x y t') (hx : ev ρ x = some (.int k m)) (hy : ev ρ y = some (.int k n)) (hr : k.wrap ((BitVec.ofInt k.bits m ^^^ BitVec.ofInt k.bits n).toNat) = r) : Pu P C ρ H o (.int k r) := fun a w hf _ => by
  subst hr; unfold execOp; rw [ho]; simp only [hf.eval hx, hf.eval hy, Sem.run_bind, eqGuard_int, Result.andThen_ok, binOp, Op.intBits, ne_eq, not_true_eq_false, if_false, Sem.run_pure]
theorem eqGuard_sh (op : BinOp) (hop : op = .shl ∨ op = .shr) (w : World) (a b : Value) : (eqGuard op t x y a b).run P w = .ok () w := by
  rcases hop with rfl | rfl <;> simp [eqGuard]
theorem p_shl {k2 : IntKind} (ho : o.op = .binOp .shl t x y t') (hx : ev ρ x = some (.int k m)) (hy : ev ρ y = some (.int k2 n)) (hn : 0 ≤ n) (hr : k.wrap (m * 2 ^ (min n.toNat k.bits)) = r) : Pu P C ρ H o (.int k r) := fun a w hf _ => by
  have : ¬ n < 0 := by omega
  subst hr; unfold execOp; rw [ho]; simp only [hf.eval hx, hf.eval hy, Sem.run_bind, eqGuard_sh _ (.inl rfl), Result.andThen_ok, binOp, Op.shift, this, if_false, Sem.run_pure]
theorem p_shr {k2 : IntKind} (ho : o.op = .binOp .shr t x y t') (hx : ev ρ x = some (.int k m)) (hy : ev ρ y = some (.int k2 n)) (hn : 0 ≤ n) (hr : m.fdiv (2 ^ (min n.toNat k.bits)) = r) : Pu P C ρ H o (.int k r) := fun a w hf _ => by
  have : ¬ n < 0 := by omega
  subst hr; unfold execOp; rw [ho]; simp only [hf.eval hx, hf.eval hy, Sem.run_bind, eqGuard_sh _ (.inr rfl), Result.andThen_ok, binOp, Op.shift, this, if_false, Sem.run_pure]
end
theorem w64 {n : Int} (h : -9223372036854775808 ≤ n ∧ n ≤ 9223372036854775807) : IntKind.i64.wrap n = n := IntWalk.i64_in n h
theorem Pu.t {p : Prop} [Decidable p] (h : Pu P C ρ H o (.bool (decide p))) (hp : p) : Pu P C ρ H o (.bool true) := by rw [decide_eq_true hp] at h; exact h
theorem Pu.f {p : Prop} [Decidable p] (h : Pu P C ρ H o (.bool (decide p))) (hp : ¬ p) : Pu P C ρ H o (.bool false) := by rw [decide_eq_false hp] at h; exact h
/-! ### nil -/
theorem eqGuard_ptr (op : BinOp) (t : TypeId) (x y : Operand) (w : World) (p q : Option Addr) : (eqGuard op t x y (.pointer p) (.pointer q)).run P w = .ok () w := by
  cases op <;> simp [eqGuard]
theorem run_eq_nil {t : TypeId} [h : PtrTy P t] (p : Option Addr) (w : World) : (Op.equal t (.pointer p) (.pointer none)).run P w = .ok p.isNone w := by
  obtain ⟨e, he⟩ := h.ok
  cases p with
  | none => unfold Op.equal Op.maxDepth Op.equalIn; simp [run_underlying he]
  | some a => unfold Op.equal Op.maxDepth Op.equalIn; simp [run_underlying he]
theorem p_eqnil {t t' : TypeId} {x y : Operand} {p : Option Addr} (ho : o.op = .binOp .eql t x y t') (hx : ev ρ x = some (.pointer p)) (hy : ev ρ y = some (.pointer none)) [PtrTy P t] : Pu P C ρ H o (.bool p.isNone) := fun a w hf _ => by
  unfold execOp; rw [ho]; simp [hf.eval hx, hf.eval hy, eqGuard_ptr, binOp, run_eq_nil]
theorem p_nenil {t t' : TypeId} {x y : Operand} {p : Option Addr} (ho : o.op = .binOp .neq t x y t') (hx : ev ρ x = some (.pointer p)) (hy : ev ρ y = some (.pointer none)) [PtrTy P t] : Pu P C ρ H o (.bool p.isSome) := fun a w hf _ => by
  unfold execOp; rw [ho]; cases p <;> simp [hf.eval hx, hf.eval hy, eqGuard_ptr, binOp, run_eq_nil]
end
end Go.Proofs.Ytcmjkihddpppaaa
