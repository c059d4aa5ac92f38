/- Allocations that come in any order. -/
import Derived.Test.YtcmjkihddpppaaaSl9
set_option linter.unusedVariables false
set_option linter.unusedSimpArgs false
namespace Go.Proofs.Ytcmjkihddpppaaa
open Go

/-- An allocation: operation i lays 'obj' in a new block b; slot d is 'val b'. -/
structure AOp where
  i : Nat
  d : Nat
  val : Nat → Value
  obj : Obj

def setAll (l : Array Bool) (is : List Nat) : Array Bool := is.foldl (fun a i => a.setIfInBounds i true) l
theorem setAll_get (is : List Nat) : ∀ (l : Array Bool) (j : Nat), (setAll l is)[j]? = if j ∈ is then l[j]?.map (fun _ => true) else l[j]? := by
  induction is with
  | nil => intro l j; simp [setAll]
  | cons i is ih =>
    intro l j
    show (setAll (l.setIfInBounds i true) is)[j]? = _
    rw [ih, Array.getElem?_setIfInBounds]
    by_cases h1 : i = j
    · subst h1
      by_cases h2 : i < l.size
      · simp [h2]
      · simp [h2]
    · by_cases h2 : j ∈ is
      · simp [h1, h2]
      · simp [h1, h2, Ne.symm h1]
theorem setAll_erase (l : Array Bool) (is : List Nat) (i : Nat) (hi : i ∈ is) (hn : is.Nodup) : setAll (l.setIfInBounds i true) (is.erase i) = setAll l is := by
  apply Array.ext_getElem?
  intro j
  rw [setAll_get, setAll_get, Array.getElem?_setIfInBounds]
  have hme : j ∈ is.erase i ↔ j ≠ i ∧ j ∈ is := List.Nodup.mem_erase_iff hn
  simp only [hme]
  by_cases h1 : i = j
  · subst h1
    by_cases h2 : i < l.size
    · simp [h2, hi]
    · simp [h2, hi]
  · by_cases h2 : j ∈ is
    · simp [h1, h2, Ne.symm h1]
    · simp [h1, h2]

def checkA (L : List Oper) : Nat → List Nat → Array Bool → Bool
  | 0, is, _ => is.isEmpty
  | n + 1, is, listed => (Region.ready .any L.toArray listed == is) && !is.isEmpty && is.all fun i => checkA L n (is.erase i) (listed.setIfInBounds i true)
section
variable {P : Program} {C : Ctx} {Q : Exit → Fr → Hp → Prop} {L : List Oper} {R : Hp} {t : Nat}
theorem SA.each {listed : Array Bool} {fuel : Nat} {ρ : Fr} {H : Hp} (is : List Nat) (hok : Region.ready .any L.toArray listed = is) (hne : is ≠ [])
    (h : ∀ i ∈ is, ∃ o, L[i]? = some o ∧ SL P C L (thn (Beh P C L Q R t fuel (listed.setIfInBounds i true)) Q) [o] ρ H) : SA P C L Q R t (fuel + 1) listed ρ H := fun a w hf hs hr =>
  AnyT.all (rs := is) hok hne fun k hk => by
    obtain ⟨o, hi, h⟩ := h k hk
    exact wpOp_of_SL hi h hf hs fun ρ' H' a' w' ⟨⟨r, hp⟩, hsa⟩ hf' hs' => by
      have := (hs'.perm hp).drop
      exact ⟨.inr this, hsa a' w' hf' hs' this⟩

theorem lk_none_of {r : Fr} {d : Nat} (h : d ∉ r.map Prod.fst) {ρ : Fr} (hs : subF r ρ) (v : Value) : subF r ((d, v) :: ρ) := by
  induction r with
  | nil => trivial
  | cons x r ih =>
    obtain ⟨k, u⟩ := x
    simp only [List.map_cons, List.mem_cons, not_or] at h
    refine ⟨?_, ih h.2 hs.2⟩
    show (bif Nat.beq d k then some v else lk ρ k) = some u
    have : Nat.beq d k = false := by
      cases hb : Nat.beq d k with
      | false => rfl
      | true => exact absurd (Nat.eq_of_beq_eq_true hb) h.1
    rw [this]; exact hs.1

theorem perm_filter : ∀ (l : List AOp) (x : AOp), x ∈ l → (l.map AOp.i).Nodup → l.Perm (x :: l.filter fun y => y.i != x.i)
  | [], x, h, _ => by cases h
  | y :: l, x, h, hn => by
    simp only [List.map_cons, List.nodup_cons] at hn
    rcases List.mem_cons.1 h with rfl | h
    · have h1 : l.filter (fun z => z.i != x.i) = l := List.filter_eq_self.2 fun z hz => by
        have : z.i ≠ x.i := fun e => hn.1 (e ▸ List.mem_map.2 ⟨z, hz, rfl⟩)
        simpa using this
      rw [List.filter_cons_of_neg (by simp), h1]
    · have hne : y.i ≠ x.i := fun e => hn.1 (e ▸ List.mem_map.2 ⟨x, h, rfl⟩)
      rw [List.filter_cons_of_pos (by simpa using hne)]
      exact ((perm_filter l x h hn.2).cons y).trans (.swap _ _ _)
theorem SA.weaken {listed : Array Bool} {fuel : Nat} {ρ : Fr} {H : Hp} (ρ1 : Fr) (H1 : Hp) (hr : subF ρ1 ρ) (hp : H.Perm H1) (h : SA P C L Q R t fuel listed ρ1 H1) : SA P C L Q R t fuel listed ρ H := fun a w hf hs hR => h a w (hf.sub hr) (hs.perm hp) hR
/-- Allocations that may come in any order. -/
theorem SA.allocs (base0 : Fr) : ∀ (n : Nat) (todo : List AOp) (base : Fr) (listed : Array Bool) (fuel : Nat) (ρ : Fr) (H : Hp), todo.length = n → (todo.map AOp.i).Nodup → (todo.map AOp.d).Nodup → (∀ x ∈ todo, x.d ∉ base.map Prod.fst) → (∀ x ∈ todo, x.d ∉ base0.map Prod.fst) →
    checkA L n (todo.map AOp.i) listed = true → subF base ρ → subF base0 ρ → (∃ r, H.Perm (R ++ r)) →
    (∀ x ∈ todo, ∃ o, L[x.i]? = some o ∧ ∀ (K : Fr → Hp → Prop) (ρ : Fr) (H : Hp), subF base0 ρ → (∀ b, K ((x.d, x.val b) :: ρ) ((b, x.obj) :: H)) → SL P C L (thn K Q) [o] ρ H) →
    (∀ (f : Nat → Nat) (ρ' : Fr) (H' : Hp), subF base ρ' → (∀ x ∈ todo, lk ρ' x.d = some (x.val (f x.i))) → H'.Perm (todo.map (fun x => (f x.i, x.obj)) ++ H) → SA P C L Q R t fuel (setAll listed (todo.map AOp.i)) ρ' H') →
    SA P C L Q R t (fuel + n) listed ρ H
  | 0, todo, base, listed, fuel, ρ, H, hlen, _, _, _, _, _, hb, _, _, _, hk => by
    have : todo = [] := List.eq_nil_of_length_eq_zero hlen
    subst this
    exact hk id ρ H hb (by simp) (by simp)
  | n + 1, todo, base, listed, fuel, ρ, H, hlen, hni, hnd, hdb, hdb0, hc, hb, hb0, hr, hst, hk => by
    unfold checkA at hc
    simp only [Bool.and_eq_true, List.all_eq_true, beq_iff_eq] at hc
    obtain ⟨⟨hc1, hc2⟩, hc3⟩ := hc
    refine SA.each (todo.map AOp.i) hc1 (by intro h0; rw [h0] at hc2; simp at hc2) fun i hi => ?_
    obtain ⟨x, hx, rfl⟩ := List.mem_map.1 hi
    obtain ⟨o, ho, hstep⟩ := hst x hx
    have hper := perm_filter todo x hx hni
    have hmf : (todo.filter fun y => y.i != x.i).map AOp.i = (todo.map AOp.i).erase x.i := by
      rw [List.Nodup.erase_eq_filter hni, List.filter_map]; rfl
    have hlf : (todo.filter fun y => y.i != x.i).length = n := by
      have := hper.length_eq; simp only [List.length_cons] at this; omega
    have hsub : ∀ y ∈ todo.filter (fun y => y.i != x.i), y ∈ todo ∧ y.i ≠ x.i := fun y hy => by
      have := List.mem_filter.1 hy; exact ⟨this.1, by simpa using this.2⟩
    have hdn : ((x :: todo.filter fun y => y.i != x.i).map AOp.d).Nodup := (hper.map AOp.d).nodup_iff.1 hnd
    simp only [List.map_cons, List.nodup_cons] at hdn
    refine ⟨o, ho, hstep _ ρ H hb0 fun b => ⟨?_, ?_⟩⟩
    · obtain ⟨r, hp⟩ := hr
      exact ⟨(b, x.obj) :: r, (hp.cons _).trans List.perm_middle.symm⟩
    · refine SA.allocs base0 n (todo.filter fun y => y.i != x.i) ((x.d, x.val b) :: base) (listed.setIfInBounds x.i true) fuel _ _ hlf (by rw [hmf]; exact hni.erase _) hdn.2 (fun y hy => ?_) (fun y hy => hdb0 y (hsub y hy).1) (by rw [hmf]; exact hc3 _ hi)
        ⟨?_, lk_none_of (hdb x hx) hb _⟩ (lk_none_of (hdb0 x hx) hb0 _) ?_ (fun y hy => hst y (hsub y hy).1) fun f ρ' H' h1 h2 h3 => ?_
      · simp only [List.map_cons, List.mem_cons, not_or]
        refine ⟨fun e => hdn.1 (e ▸ List.mem_map.2 ⟨y, hy, rfl⟩), hdb y (hsub y hy).1⟩
      · show (bif Nat.beq x.d x.d then some (x.val b) else lk ρ x.d) = some (x.val b)
        rw [Nat.beq_refl]; rfl
      · obtain ⟨r, hp⟩ := hr
        exact ⟨(b, x.obj) :: r, (hp.cons _).trans List.perm_middle.symm⟩
      · rw [hmf, setAll_erase _ _ _ hi hni]
        refine hk (fun j => if j = x.i then b else f j) ρ' H' h1.2 (fun y hy => ?_) (h3.trans ?_)
        · rcases List.mem_cons.1 (hper.mem_iff.1 hy) with rfl | hy2
          · rw [if_pos rfl]; exact h1.1
          · rw [if_neg (hsub y hy2).2]; exact h2 y hy2
        · have e1 : (todo.filter fun y => y.i != x.i).map (fun y => (f y.i, y.obj)) = (todo.filter fun y => y.i != x.i).map (fun y => ((if y.i = x.i then b else f y.i), y.obj)) :=
            List.map_congr_left fun y hy => by rw [if_neg (hsub y hy).2]
          rw [e1]
          refine List.perm_middle.trans ?_
          have := (hper.map (fun y : AOp => ((if y.i = x.i then b else f y.i), y.obj))).append_right H
          simp only [List.map_cons, if_true, List.cons_append] at this
          exact this.symm
end
end Go.Proofs.Ytcmjkihddpppaaa
