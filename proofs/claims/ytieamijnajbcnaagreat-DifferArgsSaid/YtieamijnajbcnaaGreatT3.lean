/- Two trees held against one another, in plain words. -/
import Derived.Test.YtieamijnajbcnaaGreatT2
set_option linter.unusedVariables false
set_option linter.unusedSimpArgs false
namespace Go.Proofs.YtieamijnajbcnaaGreat
open Go

/-- The numbers of the unlike leaves. -/
def unlike (l m : List (List UInt8)) : List Nat := (List.range l.length).filter fun k => decide (l.getD k z32 ≠ m.getD k z32)
theorem unlike_mem {l m : List (List UInt8)} {k : Nat} : k ∈ unlike l m ↔ k < l.length ∧ l.getD k z32 ≠ m.getD k z32 := by simp [unlike]
theorem unlike_sorted (l m : List (List UInt8)) : (unlike l m).Pairwise (· < ·) := (List.pairwise_lt_range).filter _
theorem unlike_out {l m : List (List UInt8)} (h : l.length = m.length) : ∀ i, i ∉ unlike l m → m.getD i z32 = l.getD i z32 := by
  intro i hi
  rw [unlike_mem] at hi
  rcases Nat.lt_or_ge i l.length with h1 | h1
  · by_cases e : l.getD i z32 = m.getD i z32
    · exact e.symm
    · exact absurd ⟨h1, e⟩ hi
  · rw [List.getD_eq_getElem?_getD, List.getD_eq_getElem?_getD, List.getElem?_eq_none h1, List.getElem?_eq_none (by omega)]
/-- Ahead: the higher ones first, the left ones first. -/
def pah (p q : Pl) : Prop := q.1 < p.1 ∨ (p.1 = q.1 ∧ p.2 < q.2)
theorem pah_tri {p q : Pl} (h : ¬ pah p q) (hn : p ≠ q) : pah q p := by
  unfold pah at *
  rcases Nat.lt_trichotomy p.1 q.1 with h1 | h1 | h1
  · omega
  · rcases Nat.lt_trichotomy p.2 q.2 with h2 | h2 | h2
    · omega
    · exact absurd (Prod.ext h1 h2) hn
    · omega
  · omega
/-- What is looked at: the topmost, and two for each place that has an unlike leaf below it. -/
def lookP (U : List Nat) (D : Nat) (p : Pl) : Prop := (p.1 = D ∧ p.2 = 0) ∨ (p.1 < D ∧ aff U (p.1 + 1) (p.2 / 2))
def parP (p : Pl) : Pl := (p.1 + 1, p.2 / 2)
/-- While two trees are held against one another. -/
structure DI (U : List Nat) (D : Nat) (Q : List Pl) (ds : List Pl) (out : List Nat) : Prop where
  look : ∀ p ∈ Q ++ ds, lookP U D p
  nd : (Q ++ ds).Nodup
  par : ∀ p ∈ Q ++ ds, p = (D, 0) ∨ parP p ∈ ds
  kids : ∀ p ∈ ds, 0 < p.1 → aff U p.1 p.2 → (p.1 - 1, 2 * p.2) ∈ Q ++ ds ∧ (p.1 - 1, 2 * p.2 + 1) ∈ Q ++ ds
  top : (D, 0) ∈ Q ++ ds
  ord : ∀ q ∈ Q, ∀ p ∈ ds, pah p q
  outE : out.Pairwise (· < ·) ∧ ∀ i, i ∈ out ↔ (0, i) ∈ ds ∧ aff U 0 i
theorem DI.start (U : List Nat) (D : Nat) : DI U D [(D, 0)] [] [] := ⟨fun p hp => by simp at hp; subst hp; exact .inl ⟨rfl, rfl⟩, by simp, fun p hp => .inl (by simpa using hp), by simp, by simp, by simp, by simp⟩
theorem DI.perm {U : List Nat} {D : Nat} {Q Q' ds : List Pl} {out : List Nat} (h : DI U D Q ds out) (hp : Q.Perm Q') : DI U D Q' ds out := by
  have hm : ∀ x, x ∈ Q' ++ ds ↔ x ∈ Q ++ ds := fun x => by rw [List.mem_append, List.mem_append, hp.mem_iff]
  exact ⟨fun p h1 => h.look p ((hm p).1 h1), (List.Perm.nodup_iff (hp.append_right ds)).1 h.nd, fun p h1 => h.par p ((hm p).1 h1), fun p h1 h2 h3 => ⟨(hm _).2 (h.kids p h1 h2 h3).1, (hm _).2 (h.kids p h1 h2 h3).2⟩, (hm _).2 h.top, fun q hq => h.ord q (hp.mem_iff.2 hq), h.outE⟩
section
variable {U : List Nat} {D : Nat} {R ks ds : List Pl} {out out' : List Nat} {p : Pl}
/-- One that is looked at: its sums are the same; or it is a leaf; or the two below come up. -/
theorem DI.step (h : DI U D (p :: R) ds out) (hmin : ∀ q ∈ R, ¬ pah q p)
    (hk : (ks = [] ∧ ¬ (0 < p.1 ∧ aff U p.1 p.2)) ∨ (ks = [(p.1 - 1, 2 * p.2), (p.1 - 1, 2 * p.2 + 1)] ∧ 0 < p.1 ∧ aff U p.1 p.2))
    (ho : (out' = out ∧ ¬ (p.1 = 0 ∧ aff U 0 p.2)) ∨ (out' = out ++ [p.2] ∧ p.1 = 0 ∧ aff U 0 p.2)) : DI U D (R ++ ks) (ds ++ [p]) out' := by
  have hnd := h.nd
  rw [List.cons_append, List.nodup_cons] at hnd
  have hpd : p ∉ ds := fun hm => hnd.1 (List.mem_append_right _ hm)
  have hpR : p ∉ R := fun hm => hnd.1 (List.mem_append_left _ hm)
  have hpD : p.1 ≤ D := by
    rcases h.look p (by simp) with h1 | h1
    · omega
    · omega
  have hmem : ∀ x, x ∈ (R ++ ks) ++ (ds ++ [p]) ↔ x ∈ (p :: R) ++ ds ∨ x ∈ ks := fun x => by
    simp only [List.mem_append, List.mem_cons, List.not_mem_nil, or_false]
    constructor
    · rintro ((h1 | h1) | (h1 | h1)) <;> simp [h1]
    · rintro (((h1 | h1) | h1) | h1) <;> simp [h1]
  have hkP : ∀ c ∈ ks, c.1 + 1 = p.1 ∧ c.2 / 2 = p.2 ∧ aff U p.1 p.2 := fun c hc => by
    rcases hk with ⟨rfl, -⟩ | ⟨rfl, h1, h2⟩
    · simp at hc
    · simp only [List.mem_cons, List.not_mem_nil, or_false] at hc
      rcases hc with rfl | rfl
      · exact ⟨by dsimp only; omega, by dsimp only; omega, h2⟩
      · exact ⟨by dsimp only; omega, by dsimp only; omega, h2⟩
  have hpar : ∀ c ∈ ks, parP c = p := fun c hc => by
    obtain ⟨h1, h2, -⟩ := hkP c hc
    exact Prod.ext h1 h2
  refine ⟨fun x hx => ?_, ?_, fun x hx => ?_, fun x hx h0 ha => ?_, (hmem _).2 (.inl h.top), fun q hq x hx => ?_, ?_⟩
  · rcases (hmem x).1 hx with h1 | h1
    · exact h.look x h1
    · obtain ⟨g1, g2, g3⟩ := hkP x h1
      exact .inr ⟨by omega, by rw [g1, g2]; exact g3⟩
  · have hperm : ((R ++ ks) ++ (ds ++ [p])).Perm (((p :: R) ++ ds) ++ ks) := by
      refine List.perm_iff_count.2 fun a => ?_
      simp only [List.count_append, List.count_cons, List.count_nil]
      omega
    rw [hperm.nodup_iff, List.nodup_append]
    refine ⟨h.nd, ?_, fun a ha c hc e => ?_⟩
    · rcases hk with ⟨rfl, -⟩ | ⟨rfl, -, -⟩
      · exact List.nodup_nil
      · simp
    · subst e
      rcases h.par a ha with h1 | h1
      · obtain ⟨g1, -, -⟩ := hkP a hc
        rw [h1] at g1
        dsimp only at g1
        omega
      · rw [hpar a hc] at h1
        exact hpd h1
  · rcases (hmem x).1 hx with h1 | h1
    · rcases h.par x h1 with h2 | h2
      · exact .inl h2
      · exact .inr (List.mem_append_left _ h2)
    · exact .inr (by rw [hpar x h1]; simp)
  · rcases List.mem_append.1 hx with h1 | h1
    · obtain ⟨g1, g2⟩ := h.kids x h1 h0 ha
      exact ⟨(hmem _).2 (.inl g1), (hmem _).2 (.inl g2)⟩
    · rw [List.mem_singleton] at h1
      subst h1
      rcases hk with ⟨-, h2⟩ | ⟨rfl, -, -⟩
      · exact absurd ⟨h0, ha⟩ h2
      · exact ⟨(hmem _).2 (.inr (by simp)), (hmem _).2 (.inr (by simp))⟩
  · rcases List.mem_append.1 hq with h1 | h1 <;> rcases List.mem_append.1 hx with h2 | h2
    · exact h.ord q (List.mem_cons_of_mem _ h1) x h2
    · rw [List.mem_singleton] at h2
      subst h2
      exact pah_tri (hmin q h1) fun e => hpR (e ▸ h1)
    · have := h.ord p (List.mem_cons_self ..) x h2
      obtain ⟨g1, -, -⟩ := hkP q h1
      unfold pah at *
      omega
    · rw [List.mem_singleton] at h2
      subst h2
      obtain ⟨g1, -, -⟩ := hkP q h1
      unfold pah
      omega
  · obtain ⟨o1, o2⟩ := h.outE
    rcases ho with ⟨rfl, hno⟩ | ⟨rfl, hp0, hpa⟩
    · refine ⟨o1, fun i => (o2 i).trans ⟨fun ⟨h1, h2⟩ => ⟨List.mem_append_left _ h1, h2⟩, fun ⟨h1, h2⟩ => ⟨?_, h2⟩⟩⟩
      rcases List.mem_append.1 h1 with h3 | h3
      · exact h3
      · rw [List.mem_singleton] at h3
        exact absurd ⟨by rw [← h3], by rw [← h3]; exact h2⟩ hno
    · refine ⟨?_, fun i => ?_⟩
      · rw [List.pairwise_append]
        refine ⟨o1, by simp, fun i hi j hj => ?_⟩
        rw [List.mem_singleton] at hj
        subst hj
        have h3 := h.ord p (List.mem_cons_self ..) (0, i) ((o2 i).1 hi).1
        unfold pah at h3
        dsimp only at h3
        omega
      · rw [List.mem_append, List.mem_append, List.mem_singleton, List.mem_singleton, o2 i]
        constructor
        · rintro (⟨h1, h2⟩ | rfl)
          · exact ⟨.inl h1, h2⟩
          · exact ⟨.inr (Prod.ext hp0.symm rfl), hpa⟩
        · rintro ⟨h1 | h1, h2⟩
          · exact .inl ⟨h1, h2⟩
          · exact .inr (by rw [← h1])
theorem sorted_eq : ∀ {l m : List Nat}, l.Pairwise (· < ·) → m.Pairwise (· < ·) → (∀ i, i ∈ l ↔ i ∈ m) → l = m := by
  intro l
  induction l with
  | nil =>
    intro m _ _ h
    cases m with
    | nil => rfl
    | cons b u => exact absurd ((h b).2 (List.mem_cons_self ..)) (by simp)
  | cons a t ih =>
    intro m h1 h2 h
    cases m with
    | nil => exact absurd ((h a).1 (List.mem_cons_self ..)) (by simp)
    | cons b u =>
      rw [List.pairwise_cons] at h1 h2
      have hab : a = b := by
        rcases List.mem_cons.1 ((h a).1 (List.mem_cons_self ..)) with e | e
        · exact e
        · rcases List.mem_cons.1 ((h b).2 (List.mem_cons_self ..)) with e2 | e2
          · exact e2.symm
          · have := h1.1 b e2
            have := h2.1 a e
            omega
      subst hab
      rw [ih h1.2 h2.2 fun i => ?_]
      constructor
      · intro hi
        rcases List.mem_cons.1 ((h i).1 (List.mem_cons_of_mem _ hi)) with e | e
        · have := h1.1 i hi; omega
        · exact e
      · intro hi
        rcases List.mem_cons.1 ((h i).2 (List.mem_cons_of_mem _ hi)) with e | e
        · have := h2.1 i hi; omega
        · exact e
def kidsP (p : Pl) : List Pl := [(p.1 - 1, 2 * p.2), (p.1 - 1, 2 * p.2 + 1)]
theorem kidsP_par {p c : Pl} (h : 1 ≤ p.1) (hc : c ∈ kidsP p) : parP c = p := by
  simp only [kidsP, List.mem_cons, List.not_mem_nil, or_false] at hc
  rcases hc with rfl | rfl <;> exact Prod.ext (by simp only [parP]; omega) (by simp only [parP]; omega)
theorem kids_nd : ∀ {A : List Pl}, A.Nodup → (∀ p ∈ A, 1 ≤ p.1) → (A.flatMap kidsP).Nodup := by
  intro A
  induction A with
  | nil => intro _ _; simp
  | cons a t ih =>
    intro hn h1
    rw [List.nodup_cons] at hn
    rw [List.flatMap_cons, List.nodup_append]
    refine ⟨by simp [kidsP], ih hn.2 fun q hq => h1 q (List.mem_cons_of_mem _ hq), fun x hx y hy e => ?_⟩
    subst e
    obtain ⟨q, hq, hxq⟩ := List.mem_flatMap.1 hy
    have e1 := kidsP_par (h1 a (List.mem_cons_self ..)) hx
    have e2 := kidsP_par (h1 q (List.mem_cons_of_mem _ hq)) hxq
    exact hn.1 (by rw [← e1, e2]; exact hq)
theorem flatMap_kids_len (A : List Pl) : (A.flatMap kidsP).length = 2 * A.length := by
  induction A with
  | nil => rfl
  | cons a t ih => rw [List.flatMap_cons, List.length_append, ih, List.length_cons]; simp [kidsP]; omega
theorem DI.fin (h : DI U D [] ds out) (hU : ∀ k ∈ U, k < 2 ^ D) (hs : U.Pairwise (· < ·)) : out = U ∧ ds.length = 1 + 2 * aboveV U D := by
  have hlook : ∀ p ∈ ds, lookP U D p := fun p hp => h.look p (by simpa using hp)
  have htop : (D, 0) ∈ ds := by simpa using h.top
  have haD : ∀ i, aff U D i → i = 0 := fun i ⟨k, hk, hke⟩ => by
    rw [← hke]; exact Nat.div_eq_of_lt (hU k hk)
  have hall : ∀ n p, D - p.1 = n → lookP U D p → p ∈ ds := by
    intro n
    induction n with
    | zero =>
      intro p hp hl
      rcases hl with ⟨h1, h2⟩ | ⟨h1, -⟩
      · have : p = (D, 0) := Prod.ext h1 h2
        rw [this]; exact htop
      · omega
    | succ n ih =>
      intro p hp hl
      rcases hl with ⟨h1, h2⟩ | ⟨h1, h2⟩
      · omega
      · have hq : (p.1 + 1, p.2 / 2) ∈ ds := by
          refine ih (p.1 + 1, p.2 / 2) (by dsimp only; omega) ?_
          by_cases e : p.1 + 1 = D
          · refine .inl ⟨e, ?_⟩
            rw [e] at h2
            exact haD _ h2
          · exact .inr ⟨by dsimp only; omega, aff_up h2⟩
        obtain ⟨g1, g2⟩ := h.kids _ hq (by dsimp only; omega) h2
        simp only [List.nil_append, Nat.add_sub_cancel] at g1 g2
        rcases Nat.mod_two_eq_zero_or_one p.2 with h9 | h9
        · rwa [show 2 * (p.2 / 2) = p.2 by omega] at g1
        · rwa [show 2 * (p.2 / 2) + 1 = p.2 by omega] at g2
  have hnd : ds.Nodup := by have := h.nd; rwa [List.nil_append] at this
  have haU : ∀ i, aff U 0 i ↔ i ∈ U := fun i => ⟨fun ⟨k, hk, hke⟩ => by rw [Nat.pow_zero, Nat.div_one] at hke; rw [← hke]; exact hk, fun hi => ⟨i, hi, by simp⟩⟩
  constructor
  · refine sorted_eq h.outE.1 hs fun i => ?_
    rw [h.outE.2 i, haU i]
    refine ⟨fun hh => hh.2, fun hi => ⟨hall _ (0, i) rfl ?_, hi⟩⟩
    rcases Nat.eq_zero_or_pos D with h0 | h0
    · subst h0
      have := hU i hi
      exact .inl ⟨rfl, by dsimp only; simp at this; exact this⟩
    · exact .inr ⟨h0, aff_up ((haU i).2 hi)⟩
  · have hV : ((D, 0) :: (allV U D).flatMap kidsP).Nodup := by
      rw [List.nodup_cons]
      refine ⟨fun hm => ?_, kids_nd (allV_nd U D) fun p hp => ((allV_mem U D p).1 hp).1.1⟩
      obtain ⟨q, hq, hqm⟩ := List.mem_flatMap.1 hm
      obtain ⟨⟨a1, a2⟩, -⟩ := (allV_mem U D q).1 hq
      have := congrArg Prod.fst (kidsP_par a1 hqm)
      simp only [parP] at this
      omega
    have hmem : ∀ x, x ∈ (D, 0) :: (allV U D).flatMap kidsP ↔ lookP U D x := fun x => by
      rw [List.mem_cons, List.mem_flatMap]
      constructor
      · rintro (rfl | ⟨q, hq, hx⟩)
        · exact .inl ⟨rfl, rfl⟩
        · obtain ⟨⟨a1, a2⟩, a3⟩ := (allV_mem U D q).1 hq
          have hp := kidsP_par a1 hx
          refine .inr ⟨?_, ?_⟩
          · have := congrArg Prod.fst hp; simp only [parP] at this; omega
          · have e1 := congrArg Prod.fst hp
            have e2 := congrArg Prod.snd hp
            simp only [parP] at e1 e2
            rw [e1, e2]; exact a3
      · rintro (⟨h1, h2⟩ | ⟨h1, h2⟩)
        · exact .inl (Prod.ext h1 h2)
        · refine .inr ⟨(x.1 + 1, x.2 / 2), (allV_mem U D _).2 ⟨⟨by dsimp only; omega, by dsimp only; omega⟩, h2⟩, ?_⟩
          simp only [kidsP, List.mem_cons, List.not_mem_nil, or_false, Nat.add_sub_cancel]
          rcases Nat.mod_two_eq_zero_or_one x.2 with h9 | h9
          · exact .inl (Prod.ext rfl (by dsimp only; omega))
          · exact .inr (Prod.ext rfl (by dsimp only; omega))
    have hlen : ((D, 0) :: (allV U D).flatMap kidsP).length = 1 + 2 * aboveV U D := by
      rw [List.length_cons, flatMap_kids_len, allV_len]; omega
    rw [← hlen]
    exact Nat.le_antisymm (nodup_le hnd fun x hx => (hmem x).2 (hlook x hx)) (nodup_le hV fun x hx => hall _ x rfl ((hmem x).1 hx))
end
end Go.Proofs.YtieamijnajbcnaaGreat
