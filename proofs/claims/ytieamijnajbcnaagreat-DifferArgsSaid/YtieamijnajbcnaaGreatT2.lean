/- Leaves that are set, in plain words: the sums above them, level by level. -/
import Derived.Test.YtieamijnajbcnaaGreatT1
set_option linter.unusedVariables false
set_option linter.unusedSimpArgs false
namespace Go.Proofs.YtieamijnajbcnaaGreat
open Go

/-- Is a place above one of these leaves? -/
def aff (ks : List Nat) (d i : Nat) : Prop := ∃ k ∈ ks, k / 2 ^ d = i
theorem aff_up {ks : List Nat} {d i : Nat} (h : aff ks d i) : aff ks (d + 1) (i / 2) := by
  obtain ⟨k, hk, rfl⟩ := h
  exact ⟨k, hk, by rw [Nat.pow_succ, Nat.div_div_eq_div_mul]⟩
theorem aff_even {ks : List Nat} {d i : Nat} (h : aff ks d (2 * i)) : aff ks (d + 1) i := by
  have := aff_up h
  rwa [show 2 * i / 2 = i by omega] at this
theorem aff_odd {ks : List Nat} {d i : Nat} (h : aff ks d (2 * i + 1)) : aff ks (d + 1) i := by
  have := aff_up h
  rwa [show (2 * i + 1) / 2 = i by omega] at this
theorem unaff {ks : List Nat} {l w : List (List UInt8)} (hw : ∀ i, i ∉ ks → w.getD i z32 = l.getD i z32) : ∀ d i, ¬ aff ks d i → atV w d i = atV l d i := by
  intro d
  induction d with
  | zero =>
    intro i h
    exact hw i fun hi => h ⟨i, hi, by simp⟩
  | succ d ih =>
    intro i h
    unfold atV
    rw [ih (2 * i) fun h2 => h (aff_even h2), ih (2 * i + 1) fun h2 => h (aff_odd h2)]
abbrev Pl := Nat × Nat
section
variable {ks : List Nat} {D : Nat} {w : List (List UInt8)} {Q Q' : Pl → Prop} {last p : Pl} {done : List Pl} {cur : Nat → Nat → List UInt8}
end
/-! ### How many -/
def seenS (s : List Nat) (x : Nat) : List Nat := if x ∈ s then s else s ++ [x]
def seenL (xs : List Nat) : List Nat := xs.foldl seenS []
theorem seenS_nd {s : List Nat} (h : s.Nodup) (x : Nat) : (seenS s x).Nodup := by
  unfold seenS
  split
  · exact h
  · rename_i hx
    rw [List.nodup_append]
    exact ⟨h, by simp, fun a ha b hb => by rw [List.mem_singleton] at hb; subst hb; exact fun e => hx (e ▸ ha)⟩
theorem seenS_mem {s : List Nat} {x y : Nat} : y ∈ seenS s x ↔ y ∈ s ∨ y = x := by
  unfold seenS
  split
  · rename_i hx
    exact ⟨.inl, fun h => h.elim id fun e => e ▸ hx⟩
  · simp
theorem seenL_gen (xs : List Nat) : ∀ s : List Nat, s.Nodup → (xs.foldl seenS s).Nodup ∧ ∀ y, y ∈ xs.foldl seenS s ↔ y ∈ s ∨ y ∈ xs := by
  induction xs with
  | nil => intro s h; exact ⟨h, by simp⟩
  | cons x xs ih =>
    intro s h
    obtain ⟨h1, h2⟩ := ih (seenS s x) (seenS_nd h x)
    refine ⟨h1, fun y => ?_⟩
    rw [List.foldl_cons, h2, seenS_mem, List.mem_cons, or_assoc]
theorem seenL_nd (xs : List Nat) : (seenL xs).Nodup := (seenL_gen xs [] List.nodup_nil).1
theorem seenL_mem (xs : List Nat) (y : Nat) : y ∈ seenL xs ↔ y ∈ xs := by
  have := (seenL_gen xs [] List.nodup_nil).2 y
  simpa [seenL] using this
def seenAt (ks : List Nat) (d : Nat) : List Nat := seenL (ks.map fun k => k / 2 ^ d)
/-- How many sums stand above these leaves, up to a level. -/
def aboveV (ks : List Nat) : Nat → Nat
  | 0 => 0
  | D + 1 => aboveV ks D + (seenAt ks (D + 1)).length
def allV (ks : List Nat) : Nat → List Pl
  | 0 => []
  | D + 1 => allV ks D ++ (seenAt ks (D + 1)).map fun i => (D + 1, i)
theorem allV_len (ks : List Nat) (D : Nat) : (allV ks D).length = aboveV ks D := by
  induction D with
  | zero => rfl
  | succ D ih => simp [allV, aboveV, ih]
theorem allV_mem (ks : List Nat) (D : Nat) (p : Pl) : p ∈ allV ks D ↔ (1 ≤ p.1 ∧ p.1 ≤ D) ∧ aff ks p.1 p.2 := by
  induction D with
  | zero => simp [allV]; omega
  | succ D ih =>
    unfold allV
    rw [List.mem_append, ih]
    constructor
    · rintro (⟨h1, h2⟩ | h)
      · exact ⟨by omega, h2⟩
      · obtain ⟨i, hi, rfl⟩ := List.mem_map.1 h
        obtain ⟨k, hk, rfl⟩ := List.mem_map.1 ((seenL_mem _ _).1 hi)
        exact ⟨by dsimp only; omega, k, hk, rfl⟩
    · rintro ⟨h1, h2⟩
      by_cases e : p.1 = D + 1
      · right
        obtain ⟨k, hk, hke⟩ := h2
        refine List.mem_map.2 ⟨p.2, (seenL_mem _ _).2 (List.mem_map.2 ⟨k, hk, by rw [← e]; exact hke⟩), ?_⟩
        rw [← e]
      · exact .inl ⟨by omega, h2⟩
theorem allV_nd (ks : List Nat) (D : Nat) : (allV ks D).Nodup := by
  induction D with
  | zero => exact List.nodup_nil
  | succ D ih =>
    unfold allV
    rw [List.nodup_append]
    refine ⟨ih, ?_, fun a ha b hb => ?_⟩
    · have := seenL_nd (ks.map fun k => k / 2 ^ (D + 1))
      unfold seenAt
      rw [List.nodup_iff_pairwise_ne] at this ⊢
      rw [List.pairwise_map]
      exact this.imp fun h e => h (by simpa using e)
    · obtain ⟨i, -, rfl⟩ := List.mem_map.1 hb
      have := (allV_mem ks D a).1 ha
      intro e
      rw [e] at this
      dsimp only at this
      omega
theorem nodup_le {α : Type} [BEq α] [LawfulBEq α] : ∀ {l m : List α}, l.Nodup → (∀ x ∈ l, x ∈ m) → l.length ≤ m.length := by
  intro l
  induction l with
  | nil => intro m _ _; simp
  | cons a t ih =>
    intro m hn hs
    rw [List.nodup_cons] at hn
    have ha := hs a (List.mem_cons_self ..)
    have := ih (m := m.erase a) hn.2 fun x hx => by
      refine (List.mem_erase_of_ne ?_).2 (hs x (List.mem_cons_of_mem _ hx))
      rintro rfl
      exact hn.1 hx
    rw [List.length_erase_of_mem ha] at this
    have := List.length_pos_of_mem ha
    rw [List.length_cons]
    omega
end Go.Proofs.YtieamijnajbcnaaGreat
