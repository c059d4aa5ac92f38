/- When two values of a struct are the same. -/
import Derived.Test.YtcmjkihddpppaaaSl9
import Derived.ChangeKeysEq
import Derived.Laws.StructEq
set_option linter.unusedVariables false
set_option linter.unusedSimpArgs false
namespace Go.Proofs.Ytcmjkihddpppaaa
open Go

section
variable {P : Program}
def vof (agg : Bool) (l : List Value) : Value := bif agg then .agg l.toArray else l.headD undef
/-- How values of a type are compared. -/
structure EqOk (P : Program) (t : TypeId) (agg : Bool) (n D : Nat) (p : List Value → Prop) : Prop where
  part : ∀ (xs : List Value) (off : Nat) (w : World), off + n ≤ xs.length → (Go.part t xs.toArray off).run P w = .ok (vof agg ((xs.drop off).take n)) w
  eq : ∀ (d : Nat) (w : World) (xs ys : List Value), p xs → p ys → ∃ b, (Op.equalIn (d + D) t (vof agg xs) (vof agg ys)).run P w = .ok b w ∧ (b = true ↔ xs = ys)

theorem part_s {t : TypeId} [ScalarTy P t] (xs : List Value) (off : Nat) (w : World) (h : off + 1 ≤ xs.length) : (Go.part t xs.toArray off).run P w = .ok (vof false ((xs.drop off).take 1)) w := by
  have hx : xs[off]? = some (xs[off]'(by omega)) := List.getElem?_eq_getElem _
  have : (xs.drop off).take 1 = [xs[off]'(by omega)] := by
    rw [List.drop_eq_getElem_cons (by omega)]; rfl
  rw [this]
  simp [Go.part, run_isAgg_f, hx, vof]
theorem part_a {t n : Nat} [hr : RowTy P t n] (xs : List Value) (off : Nat) (w : World) : (Go.part t xs.toArray off).run P w = .ok (vof true ((xs.drop off).take n)) w := by
  simp [Go.part, run_isAgg_t, run_sizeOf hr.size, vof, List.take_drop]

theorem EqOk.int {t : TypeId} {k : IntKind} [ScalarTy P t] (hu : P.underlying t = some (.int k)) : EqOk P t false 1 1 (fun l => ∃ n, l = [.int k n]) where
  part := part_s
  eq := fun d w xs ys ⟨m, hx⟩ ⟨n, hy⟩ => by
    subst hx hy
    refine ⟨m == n, by simp [vof, Op.equalIn, run_underlying hu], by simp⟩
theorem EqOk.bool {t : TypeId} [ScalarTy P t] (hu : P.underlying t = some .bool) : EqOk P t false 1 1 (fun l => ∃ n, l = [.bool n]) where
  part := part_s
  eq := fun d w xs ys ⟨m, hx⟩ ⟨n, hy⟩ => by
    subst hx hy
    refine ⟨m == n, by simp [vof, Op.equalIn, run_underlying hu], by simp⟩

theorem eqItems_ok {e : TypeId} {agg : Bool} {n D : Nat} {p : List Value → Prop} (h : EqOk P e agg n D p) (d : Nat) (w : World) (xs ys : List Value) (hx : ∀ i, (i + 1) * n ≤ xs.length → p ((xs.drop (i * n)).take n)) (hy : ∀ i, (i + 1) * n ≤ ys.length → p ((ys.drop (i * n)).take n)) :
    ∀ (is : List Nat), (∀ i ∈ is, (i + 1) * n ≤ xs.length ∧ (i + 1) * n ≤ ys.length) → ∃ b, (Op.eqItems (d + D) e n xs.toArray ys.toArray is).run P w = .ok b w ∧ (b = true ↔ ∀ i ∈ is, (xs.drop (i * n)).take n = (ys.drop (i * n)).take n)
  | [], _ => ⟨true, by simp [Op.eqItems], by simp⟩
  | i :: is, hi => by
    obtain ⟨h1, h2⟩ := hi i (by simp)
    obtain ⟨b, hb, hbi⟩ := h.eq d w _ _ (hx i h1) (hy i h2)
    obtain ⟨b2, hb2, hbi2⟩ := eqItems_ok h d w xs ys hx hy is (fun j hj => hi j (by simp [hj]))
    have e1 := h.part xs (i * n) w (by rw [Nat.add_mul] at h1; omega)
    have e2 := h.part ys (i * n) w (by rw [Nat.add_mul] at h2; omega)
    unfold Op.eqItems
    cases b
    · refine ⟨false, by simp [e1, e2, hb], ?_⟩
      simp only [Bool.false_eq_true, false_iff] at hbi ⊢
      exact fun hall => hbi (hall i (by simp))
    · refine ⟨b2, by simp [e1, e2, hb, hb2], ?_⟩
      rw [hbi2]
      have := hbi.1 rfl
      constructor
      · intro ha j hj
        rcases List.mem_cons.1 hj with rfl | hj
        · exact this
        · exact ha j hj
      · exact fun ha j hj => ha j (by simp [hj])

theorem chunks_eq (n : Nat) : ∀ (len : Nat) (xs ys : List Value), xs.length = len * n → ys.length = len * n → (∀ i ∈ List.range len, (xs.drop (i * n)).take n = (ys.drop (i * n)).take n) → xs = ys
  | 0, xs, ys, hx, hy, _ => by
    rw [List.eq_nil_of_length_eq_zero (by omega : xs.length = 0), List.eq_nil_of_length_eq_zero (by omega : ys.length = 0)]
  | len + 1, xs, ys, hx, hy, h => by
    rw [← List.take_append_drop n xs, ← List.take_append_drop n ys]
    have h0 := h 0 (by simp)
    simp only [Nat.zero_mul, List.drop_zero] at h0
    rw [Nat.add_mul] at hx hy
    congr 1
    refine chunks_eq n len _ _ (by rw [List.length_drop]; omega) (by rw [List.length_drop]; omega) fun i hi => ?_
    have := h (i + 1) (by simp only [List.mem_range] at hi ⊢; omega)
    rw [List.drop_drop, List.drop_drop]
    have e : n + i * n = (i + 1) * n := by rw [Nat.add_mul]; omega
    rw [e]; exact this

theorem EqOk.array {t e : TypeId} {len n D : Nat} {agg : Bool} {p : List Value → Prop} {m : Nat} [hr : RowTy P t m] (hu : P.underlying t = some (.array len e)) (he : (P.info? e).map (·.size) = some n) (hm : m = len * n) (h : EqOk P e agg n D p) :
    EqOk P t true m (D + 1) (fun l => l.length = m ∧ ∀ i, (i + 1) * n ≤ l.length → p ((l.drop (i * n)).take n)) where
  part := fun xs off w _ => part_a xs off w
  eq := fun d w xs ys ⟨hx, px⟩ ⟨hy, py⟩ => by
    subst hm
    have hc : P.cellsOf e = n := by
      unfold Program.cellsOf
      cases hi : P.info? e with
      | none => rw [hi] at he; simp at he
      | some i => rw [hi] at he; simpa using he
    obtain ⟨i, hi⟩ : ∃ i, P.info? e = some i := by
      cases hi : P.info? e with
      | none => rw [hi] at he; simp at he
      | some i => exact ⟨i, rfl⟩
    obtain ⟨b, hb, hbi⟩ := eqItems_ok h d w xs ys px py (List.range len) (fun i hi => by
      have : (i + 1) * n ≤ len * n := Nat.mul_le_mul_right n (List.mem_range.1 hi)
      omega)
    refine ⟨b, ?_, hbi.trans ⟨fun ha => chunks_eq n len xs ys hx hy ha, fun e i _ => by rw [e]⟩⟩
    have := run_equalIn_array (P := P) (w := w) (d + D) (t := t) xs.toArray ys.toArray hu hi
    rw [hc] at this
    exact this.trans hb

/-- The fields of a struct, one behind the other. -/
inductive Cov (P : Program) (D : Nat) : List Field → Nat → Nat → (List Value → Prop) → Prop
  | nil (n : Nat) : Cov P D [] n n (fun l => l.length = n)
  | cons {f : Field} {fs : List Field} {off n total D' : Nat} {agg : Bool} {p q : List Value → Prop} (h1 : f.name ≠ "_") (h2 : f.offset = off) (h3 : EqOk P f.type agg n D' p) (h4 : D' ≤ D) (h5 : Cov P D fs (off + n) total q) :
      Cov P D (f :: fs) off total (fun l => p ((l.drop off).take n) ∧ q l)
theorem Cov.len {D : Nat} {fs : List Field} {off total : Nat} {q : List Value → Prop} (h : Cov P D fs off total q) : off ≤ total ∧ ∀ l, q l → l.length = total := by
  induction h with
  | nil n => exact ⟨Nat.le_refl _, fun l h => h⟩
  | cons h1 h2 h3 h4 h5 ih => exact ⟨by omega, fun l h => ih.2 l h.2⟩
theorem Cov.eq {D : Nat} {fs : List Field} {off total : Nat} {q : List Value → Prop} (h : Cov P D fs off total q) (d : Nat) (w : World) (xs ys : List Value) : q xs → q ys →
    ∃ b, (Op.eqFields (d + D) xs.toArray ys.toArray fs).run P w = .ok b w ∧ (b = true ↔ xs.drop off = ys.drop off) := by
  induction h with
  | nil n =>
    intro hx hy
    refine ⟨true, by simp [Op.eqFields], ?_⟩
    rw [List.drop_eq_nil_of_le (by omega), List.drop_eq_nil_of_le (by omega)]; simp
  | @cons f fs off n total D' agg p q h1 h2 h3 h4 h5 ih =>
    intro hx hy
    obtain ⟨b2, hb2, hi2⟩ := ih hx.2 hy.2
    have hl := h5.len
    have hlx := hl.2 _ hx.2
    have hly := hl.2 _ hy.2
    have e1 := h3.part xs off w (by omega)
    have e2 := h3.part ys off w (by omega)
    obtain ⟨b, hb, hi⟩ := h3.eq (d + (D - D')) w _ _ hx.1 hy.1
    have hd : d + (D - D') + D' = d + D := by omega
    rw [hd] at hb
    subst h2
    unfold Op.eqFields
    have key : xs.drop f.offset = ys.drop f.offset ↔ (xs.drop f.offset).take n = (ys.drop f.offset).take n ∧ xs.drop (f.offset + n) = ys.drop (f.offset + n) := by
      constructor
      · intro h; exact ⟨by rw [h], by rw [← List.drop_drop, ← List.drop_drop, h]⟩
      · rintro ⟨ha, hb⟩
        rw [← List.take_append_drop n (xs.drop f.offset), ← List.take_append_drop n (ys.drop f.offset), ha, List.drop_drop, List.drop_drop, hb]
    cases b
    · refine ⟨false, by simp [h1, e1, e2, hb], ?_⟩
      rw [key, ← hi]; simp
    · refine ⟨b2, by simp [h1, e1, e2, hb, hb2], ?_⟩
      rw [key, ← hi, ← hi2]; simp
/-- A struct that can be compared. -/
class EqS (P : Program) (t : TypeId) (q : outParam (List Value → Prop)) : Prop where
  under : P.underlying t = some (.struct (P.fieldsOf t))
  held : P.stoodInHeld t = false
  guard : P.eqGuardType P.depth t = false
  cov : ∃ fs D total, P.underlying t = some (.struct fs) ∧ D ≤ 9000 ∧ Cov P D fs.toList 0 total q
theorem EqS.eq {t : TypeId} {q : List Value → Prop} [h : EqS P t q] (w : World) (xs ys : List Value) (hx : q xs) (hy : q ys) : ∃ b, (Op.equal t (.agg xs.toArray) (.agg ys.toArray)).run P w = .ok b w ∧ (b = true ↔ xs = ys) := by
  obtain ⟨fs, D, total, hu, hD, hc⟩ := h.cov
  have hfs : P.fieldsOf t = fs := by have := h.under; rw [hu] at this; injection this with this; injection this with this; exact this.symm
  rw [← hfs] at hc
  obtain ⟨b, hb, hi⟩ := hc.eq (9999 - D) w xs ys hx hy
  refine ⟨b, ?_, by simpa using hi⟩
  have : 9999 - D + D = 9999 := by omega
  rw [this] at hb
  exact (run_equalIn_agg w 9999 t _ _ h.under h.held).trans hb
variable {C : Ctx} {ρ : Fr} {H : Hp} {o : Oper} {t t' : TypeId} {x y : Operand} {l l' : List Value} {q : List Value → Prop}
theorem p_eqS_t (ho : o.op = .binOp .eql t x y t') (hx : ev ρ x = some (.agg l.toArray)) (hy : ev ρ y = some (.agg l'.toArray)) [h : EqS P t q] (h1 : q l) (h2 : q l') (he : l = l') : Pu P C ρ H o (.bool true) := fun a w hf _ => by
  obtain ⟨b, hb, hi⟩ := EqS.eq (P := P) (t := t) w l l' h1 h2
  have : b = true := hi.2 he
  subst this
  unfold execOp; rw [ho]; simp [hf.eval hx, hf.eval hy, run_eqGuard_agg _ _ _ _ _ _ _ h.guard, binOp, hb]
theorem p_eqS_f (ho : o.op = .binOp .eql t x y t') (hx : ev ρ x = some (.agg l.toArray)) (hy : ev ρ y = some (.agg l'.toArray)) [h : EqS P t q] (h1 : q l) (h2 : q l') (he : l ≠ l') : Pu P C ρ H o (.bool false) := fun a w hf _ => by
  obtain ⟨b, hb, hi⟩ := EqS.eq (P := P) (t := t) w l l' h1 h2
  have : b = false := by cases b with
    | false => rfl
    | true => exact absurd (hi.1 rfl) he
  subst this
  unfold execOp; rw [ho]; simp [hf.eval hx, hf.eval hy, run_eqGuard_agg _ _ _ _ _ _ _ h.guard, binOp, hb]
theorem p_neS_t (ho : o.op = .binOp .neq t x y t') (hx : ev ρ x = some (.agg l.toArray)) (hy : ev ρ y = some (.agg l'.toArray)) [h : EqS P t q] (h1 : q l) (h2 : q l') (he : l ≠ l') : Pu P C ρ H o (.bool true) := fun a w hf _ => by
  obtain ⟨b, hb, hi⟩ := EqS.eq (P := P) (t := t) w l l' h1 h2
  have : b = false := by cases b with
    | false => rfl
    | true => exact absurd (hi.1 rfl) he
  subst this
  unfold execOp; rw [ho]; simp [hf.eval hx, hf.eval hy, run_eqGuard_agg _ _ _ _ _ _ _ h.guard, binOp, hb]
theorem p_neS_f (ho : o.op = .binOp .neq t x y t') (hx : ev ρ x = some (.agg l.toArray)) (hy : ev ρ y = some (.agg l'.toArray)) [h : EqS P t q] (h1 : q l) (h2 : q l') (he : l = l') : Pu P C ρ H o (.bool false) := fun a w hf _ => by
  obtain ⟨b, hb, hi⟩ := EqS.eq (P := P) (t := t) w l l' h1 h2
  have : b = true := hi.2 he
  subst this
  unfold execOp; rw [ho]; simp [hf.eval hx, hf.eval hy, run_eqGuard_agg _ _ _ _ _ _ _ h.guard, binOp, hb]
end
end Go.Proofs.Ytcmjkihddpppaaa
