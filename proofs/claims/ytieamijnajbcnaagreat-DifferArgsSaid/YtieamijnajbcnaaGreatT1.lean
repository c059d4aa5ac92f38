/- The tree's sums, in plain words. -/
import Derived.Test.YtieamijnajbcnaaGreatAE
set_option linter.unusedVariables false
set_option linter.unusedSimpArgs false
namespace Go.Proofs.YtieamijnajbcnaaGreat
open Go

/-- A number's lowest bytes, the lowest first. -/
def leN (n : Nat) (v : UInt64) : List UInt8 := (List.range n).map (byU v)
theorem leN_len (n : Nat) (v : UInt64) : (leN n v).length = n := by simp [leN]
theorem leN4_inj {a b : Nat} (ha : a < 4294967296) (hb : b < 4294967296) (h : leN 4 (UInt64.ofNat a) = leN 4 (UInt64.ofNat b)) : a = b := by
  have hA : (UInt64.ofNat a).toNat = a := by rw [UInt64.toNat_ofNat']; omega
  have hB : (UInt64.ofNat b).toNat = b := by rw [UInt64.toNat_ofNat']; omega
  have e : ∀ k, k < 4 → byU (UInt64.ofNat a) k = byU (UInt64.ofNat b) k := by
    intro k hk
    have := congrArg (fun l => l[k]?) h
    simpa [leN, hk] using this
  have f : ∀ k, k < 4 → a / 256 ^ k % 256 = b / 256 ^ k % 256 := by
    intro k hk
    have := congrArg UInt8.toNat (e k hk)
    rw [byU_eq _ (by omega), byU_eq _ (by omega), UInt8.toNat_ofNat', UInt8.toNat_ofNat', hA, hB] at this
    exact this
  have f0 := f 0 (by omega)
  have f1 := f 1 (by omega)
  have f2 := f 2 (by omega)
  have f3 := f 3 (by omega)
  simp only [Nat.pow_zero, Nat.pow_succ, Nat.one_mul, Nat.div_one] at f0 f1 f2 f3
  omega
/-! ### How deep -/
def dep (n : Nat) : Nat := if n ≤ 1 then 0 else (n - 1).log2 + 1
theorem dep_le (n : Nat) : n ≤ 2 ^ dep n := by
  unfold dep
  by_cases h : n ≤ 1
  · rw [if_pos h]; simpa using h
  · rw [if_neg h]
    have := Nat.lt_log2_self (n := n - 1)
    omega
theorem dep_lt {n e : Nat} (h : e < dep n) : 2 ^ e < n := by
  unfold dep at h
  by_cases h1 : n ≤ 1
  · rw [if_pos h1] at h; omega
  · rw [if_neg h1] at h
    have h2 := Nat.log2_self_le (n := n - 1) (by omega)
    have h3 : 2 ^ e ≤ 2 ^ (n - 1).log2 := Nat.pow_le_pow_right (by omega) (by omega)
    omega
theorem dep_uniq {n d : Nat} (h1 : n ≤ 2 ^ d) (h2 : ∀ e, e < d → 2 ^ e < n) : d = dep n := by
  rcases Nat.lt_trichotomy d (dep n) with h | h | h
  · have := dep_lt h; omega
  · exact h
  · have := h2 _ h; have := dep_le n; omega
theorem dep_max {n k : Nat} (h : n ≤ 2 ^ k) : dep n ≤ k := by
  rcases Nat.lt_or_ge k (dep n) with h1 | h1
  · have := dep_lt h1; omega
  · exact h1
/-! ### Rows of as many bytes each -/
section
variable {α : Type} {n : Nat}
theorem flatN_len {L : List (List α)} (h : ∀ x ∈ L, x.length = n) : L.flatten.length = L.length * n := by
  induction L with
  | nil => simp
  | cons a t ih =>
    rw [List.flatten_cons, List.length_append, ih fun x hx => h x (List.mem_cons_of_mem _ hx), h a (List.mem_cons_self ..), List.length_cons, Nat.succ_mul, Nat.add_comm]
theorem flatN_take {L : List (List α)} (h : ∀ x ∈ L, x.length = n) (i : Nat) : L.flatten.take (i * n) = (L.take i).flatten := by
  induction L generalizing i with
  | nil => simp
  | cons a t ih =>
    cases i with
    | zero => simp
    | succ i =>
      have ha := h a (List.mem_cons_self ..)
      rw [List.flatten_cons, List.take_succ_cons, List.flatten_cons, List.take_append, ha, List.take_of_length_le (by rw [ha, Nat.succ_mul]; omega), show (i + 1) * n - n = i * n by rw [Nat.succ_mul]; omega, ih fun x hx => h x (List.mem_cons_of_mem _ hx)]
theorem flatN_drop {L : List (List α)} (h : ∀ x ∈ L, x.length = n) (i : Nat) : L.flatten.drop (i * n) = (L.drop i).flatten := by
  induction L generalizing i with
  | nil => simp
  | cons a t ih =>
    cases i with
    | zero => simp
    | succ i =>
      have ha := h a (List.mem_cons_self ..)
      rw [List.flatten_cons, List.drop_succ_cons, List.drop_append, ha, List.drop_of_length_le (by rw [ha, Nat.succ_mul]; omega), List.nil_append, show (i + 1) * n - n = i * n by rw [Nat.succ_mul]; omega, ih fun x hx => h x (List.mem_cons_of_mem _ hx)]
theorem flatN_get {L : List (List α)} {x : List α} (h : ∀ x ∈ L, x.length = n) {i : Nat} (hi : L[i]? = some x) : (L.flatten.drop (i * n)).take n = x := by
  have hx := h x (List.mem_of_getElem? hi)
  obtain ⟨hl, hv⟩ := List.getElem?_eq_some_iff.1 hi
  rw [flatN_drop h, List.drop_eq_getElem_cons hl, List.flatten_cons, hv, List.take_append, hx, Nat.sub_self, List.take_zero, List.append_nil, List.take_of_length_le (by omega)]
theorem flatN_set {L : List (List α)} {x : List α} (h : ∀ x ∈ L, x.length = n) {i : Nat} (hi : i < L.length) : L.flatten.take (i * n) ++ x ++ L.flatten.drop (i * n + n) = (L.set i x).flatten := by
  rw [flatN_take h, show i * n + n = (i + 1) * n by rw [Nat.succ_mul], flatN_drop h, List.set_eq_take_append_cons_drop, if_pos hi]
  simp
end
theorem cbs_get {L : List (List UInt8)} {x : List UInt8} {n : Nat} (h : ∀ x ∈ L, x.length = n) {i : Nat} (hi : L[i]? = some x) : ((cbs L.flatten).drop (i * n)).take n = cbs x := by
  rw [← flatN_get h hi]; simp [cbs, List.map_drop, List.map_take]
theorem cbs_set {L : List (List UInt8)} {x : List UInt8} {n : Nat} (h : ∀ x ∈ L, x.length = n) {i : Nat} (hi : i < L.length) : (cbs L.flatten).take (i * n) ++ cbs x ++ (cbs L.flatten).drop (i * n + n) = cbs (L.set i x).flatten := by
  rw [← flatN_set h hi]; simp [cbs, List.map_drop, List.map_take]
/-! ### The sums -/
abbrev z32 : List UInt8 := List.replicate 32 0
def nodeT (level i : Nat) (x y : List UInt8) : List UInt8 := 1 :: [[UInt8.ofNat level], leN 4 (UInt64.ofNat i), x, y].flatten
def rootT (n : Nat) (x : List UInt8) : List UInt8 := 2 :: [leN 4 (UInt64.ofNat n), x].flatten
def leafT (k : Nat) (b : List UInt8) : List UInt8 := 0 :: [leN 4 (UInt64.ofNat k), b].flatten
def nodeV (level i : Nat) (x y : List UInt8) : List UInt8 := Sha.sum (nodeT level i x y)
theorem nodeV_len (level i : Nat) (x y : List UInt8) : (nodeV level i x y).length = 32 := Sha.sum_len _
def atV (l : List (List UInt8)) : Nat → Nat → List UInt8
  | 0, i => l.getD i z32
  | d + 1, i => nodeV (d + 1) i (atV l d (2 * i)) (atV l d (2 * i + 1))
def D32 (l : List (List UInt8)) : Prop := ∀ x ∈ l, x.length = 32
theorem atV_len {l : List (List UInt8)} (hl : D32 l) (d i : Nat) : (atV l d i).length = 32 := by
  cases d with
  | zero =>
    unfold atV
    rw [List.getD_eq_getElem?_getD]
    cases h : l[i]? with
    | none => rfl
    | some x => exact hl x (List.mem_of_getElem? h)
  | succ d => exact nodeV_len ..
def rowV (l : List (List UInt8)) (D d : Nat) : List (List UInt8) := (List.range (2 ^ (D - d))).map (atV l d)
theorem rowV_len (l : List (List UInt8)) (D d : Nat) : (rowV l D d).length = 2 ^ (D - d) := by simp [rowV]
theorem rowV_32 {l : List (List UInt8)} (hl : D32 l) (D d : Nat) : D32 (rowV l D d) := by
  intro x hx
  obtain ⟨i, -, rfl⟩ := List.mem_map.1 hx
  exact atV_len hl d i
theorem rowV_get (l : List (List UInt8)) {D d i : Nat} (h : i < 2 ^ (D - d)) : (rowV l D d)[i]? = some (atV l d i) := by simp [rowV, h]
def topV (l : List (List UInt8)) : List UInt8 := atV l (dep l.length) 0
def rootV (l : List (List UInt8)) : List UInt8 := Sha.sum (rootT l.length (topV l))
/-- The texts that a tree's sums are sums of. -/
def textsV (l : List (List UInt8)) (D : Nat) : List (List UInt8) := (List.range D).flatMap fun d => (List.range (2 ^ (D - (d + 1)))).map fun i => nodeT (d + 1) i (atV l d (2 * i)) (atV l d (2 * i + 1))
theorem texts_mem (l : List (List UInt8)) {D d i : Nat} (hd : d < D) (hi : i < 2 ^ (D - (d + 1))) : nodeT (d + 1) i (atV l d (2 * i)) (atV l d (2 * i + 1)) ∈ textsV l D := by
  unfold textsV
  exact List.mem_flatMap.2 ⟨d, List.mem_range.2 hd, List.mem_map.2 ⟨i, List.mem_range.2 hi, rfl⟩⟩
theorem nodeT_inj {a i a' i' : Nat} {x y x' y' : List UInt8} (hx : x.length = 32) (hx' : x'.length = 32) (h : nodeT a i x y = nodeT a' i' x' y') : x = x' ∧ y = y' := by
  unfold nodeT at h
  have h1 := (List.cons.inj h).2
  simp only [List.flatten_cons, List.flatten_nil, List.append_nil, List.singleton_append] at h1
  obtain ⟨-, h2⟩ := List.append_inj (List.cons.inj h1).2 (by rw [leN_len, leN_len])
  exact List.append_inj h2 (by omega)
theorem rootT_inj {n m : Nat} {x y : List UInt8} (hn : n < 4294967296) (hm : m < 4294967296) (h : rootT n x = rootT m y) : n = m ∧ x = y := by
  unfold rootT at h
  have h1 := (List.cons.inj h).2
  simp only [List.flatten_cons, List.flatten_nil, List.append_nil] at h1
  obtain ⟨h2, h3⟩ := List.append_inj h1 (by rw [leN_len, leN_len])
  exact ⟨leN4_inj hn hm h2, h3⟩
/-- Where no two of the texts have one sum, alike roots have alike leaves. -/
theorem apart {l m : List (List UInt8)} (hl : D32 l) (hm : D32 m) (hln : l.length < 4294967296) (hmn : m.length < 4294967296) {ts : List (List UInt8)}
    (h1 : ∀ t ∈ textsV l (dep l.length), t ∈ ts) (h2 : ∀ t ∈ textsV m (dep m.length), t ∈ ts) (h3 : rootT l.length (topV l) ∈ ts) (h4 : rootT m.length (topV m) ∈ ts)
    (hno : ∀ t ∈ ts, ∀ u ∈ ts, Sha.sum t = Sha.sum u → t = u) (h : rootV l = rootV m) : l = m := by
  obtain ⟨e, hT⟩ := rootT_inj hln hmn (hno _ h3 _ h4 h)
  unfold topV at hT
  rw [← e] at hT h2
  have key : ∀ k d, k + d = dep l.length → ∀ i, i < 2 ^ (dep l.length - d) → atV l d i = atV m d i := by
    intro k
    induction k with
    | zero =>
      intro d hd i hi
      have : d = dep l.length := by omega
      subst this
      rw [Nat.sub_self, Nat.pow_zero] at hi
      have : i = 0 := by omega
      subst this
      exact hT
    | succ k ih =>
      intro d hd i hi
      have h5 := ih (d + 1) (by omega) (i / 2) (by
        have : 2 ^ (dep l.length - d) = 2 * 2 ^ (dep l.length - (d + 1)) := by rw [show dep l.length - d = dep l.length - (d + 1) + 1 by omega, Nat.pow_succ, Nat.mul_comm]
        omega)
      have hi2 : i / 2 < 2 ^ (dep l.length - (d + 1)) := by
        have : 2 ^ (dep l.length - d) = 2 * 2 ^ (dep l.length - (d + 1)) := by rw [show dep l.length - d = dep l.length - (d + 1) + 1 by omega, Nat.pow_succ, Nat.mul_comm]
        omega
      have h6 := hno _ (h1 _ (texts_mem l (by omega) hi2)) _ (h2 _ (texts_mem m (by omega) hi2)) h5
      obtain ⟨h7, h8⟩ := nodeT_inj (atV_len hl _ _) (atV_len hm _ _) h6
      rcases Nat.mod_two_eq_zero_or_one i with h9 | h9
      · rwa [show 2 * (i / 2) = i by omega] at h7
      · rwa [show 2 * (i / 2) + 1 = i by omega] at h8
  apply List.ext_getElem?
  intro i
  rcases Nat.lt_or_ge i l.length with hi | hi
  · have h5 := key (dep l.length) 0 (by omega) i (by have := dep_le l.length; rw [Nat.sub_zero]; omega)
    unfold atV at h5
    rw [List.getD_eq_getElem?_getD, List.getD_eq_getElem?_getD, List.getElem?_eq_getElem hi, List.getElem?_eq_getElem (show i < m.length by omega)] at h5
    rw [List.getElem?_eq_getElem hi, List.getElem?_eq_getElem (show i < m.length by omega)]
    exact congrArg some h5
  · rw [List.getElem?_eq_none hi, List.getElem?_eq_none (by omega)]
end Go.Proofs.YtieamijnajbcnaaGreat
