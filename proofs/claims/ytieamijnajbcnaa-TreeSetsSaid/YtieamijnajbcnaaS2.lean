/- Leaves that are set. -/
import Derived.Test.YtieamijnajbcnaaS1
set_option linter.unusedVariables false
set_option linter.unusedSimpArgs false
set_option linter.unusedSectionVars false
namespace Go.Proofs.Ytieamijnajbcnaa
open Go
attribute [local irreducible] SW SL SQ SH SA SS Pu Fin CutF HandF
open Pq

def plQ (l : List Value) : Prop := (∃ n, (l.drop 0).take 1 = [.int .i64 n]) ∧ (∃ n, (l.drop (0 + 1)).take 1 = [.int .i64 n]) ∧ l.length = 2
instance plEq : EqS Try.prog 90 plQ where
  under := by kernel_rfl
  held := by kernel_rfl
  guard := by kernel_rfl
  cov := by
    refine ⟨_, 1, 2, Try.underlying90, by decide, ?_⟩
    unfold plQ
    refine Cov.cons (n := 1) (D' := 1) (agg := false) (p := fun l => ∃ n, l = [.int .i64 n]) ?_ rfl ?_ ?_ ?_
    · decide
    · exact EqOk.int (t := 3) Try.underlying3
    · decide
    refine Cov.cons (n := 1) (D' := 1) (agg := false) (p := fun l => ∃ n, l = [.int .i64 n]) ?_ rfl ?_ ?_ ?_
    · decide
    · exact EqOk.int (t := 3) Try.underlying3
    · decide
    exact Cov.nil 2
abbrev plC (p : Pl) : List Value := [.int .i64 (p.1 : Int), .int .i64 (p.2 : Int)]
theorem plC_q (p : Pl) : plQ (plC p) := ⟨⟨_, rfl⟩, ⟨_, rfl⟩, rfl⟩
theorem plC_ne {p q : Pl} (h : p ≠ q) : plC p ≠ plC q := fun e => h (by
  simp only [List.cons.injEq, Value.int.injEq, true_and, and_true] at e
  exact Prod.ext (by omega) (by omega))
/-- Rows as a function of the place. -/
def rowF (cur : Nat → Nat → List UInt8) (D d : Nat) : List (List UInt8) := (List.range (2 ^ (D - d))).map (cur d)
def rowsF (cur : Nat → Nat → List UInt8) (D : Nat) : List (List (List UInt8)) := (List.range (D + 1)).map (rowF cur D)
theorem rowsF_len (cur : Nat → Nat → List UInt8) (D : Nat) : (rowsF cur D).length = D + 1 := by simp [rowsF]
theorem rowF_len (cur : Nat → Nat → List UInt8) (D d : Nat) : (rowF cur D d).length = 2 ^ (D - d) := by simp [rowF]
theorem rowsF_get (cur : Nat → Nat → List UInt8) {D d : Nat} (h : d ≤ D) : (rowsF cur D)[d]? = some (rowF cur D d) := by simp [rowsF, show d < D + 1 by omega]
theorem rowF_get (cur : Nat → Nat → List UInt8) {D d i : Nat} (h : i < 2 ^ (D - d)) : (rowF cur D d)[i]? = some (cur d i) := by simp [rowF, h]
theorem rowF_put (cur : Nat → Nat → List UInt8) (D d i : Nat) (x : List UInt8) : (rowF cur D d).set i x = rowF (putF cur (d, i) x) D d := by
  apply List.ext_getElem?
  intro j
  unfold rowF putF
  rw [List.getElem?_set]
  simp only [List.length_map, List.length_range, List.getElem?_map]
  by_cases hj : j < 2 ^ (D - d)
  · rw [List.getElem?_range hj]
    by_cases e : i = j
    · subst e; simp [hj]
    · rw [if_neg e]; simp [Ne.symm e]
  · rw [List.getElem?_eq_none (l := List.range _) (by simpa using hj)]
    by_cases e : i = j
    · subst e; simp [hj]
    · simp [e]
theorem rowsF_put (cur : Nat → Nat → List UInt8) {D d : Nat} (i : Nat) (x : List UInt8) (h : d ≤ D) : (rowsF cur D).set d (rowF (putF cur (d, i) x) D d) = rowsF (putF cur (d, i) x) D := by
  apply List.ext_getElem?
  intro j
  rw [List.getElem?_set, rowsF_len]
  by_cases e : d = j
  · subst e
    rw [if_pos rfl, if_pos (by omega), rowsF_get _ h]
  · rw [if_neg e]
    by_cases hj : j ≤ D
    · rw [rowsF_get _ hj, rowsF_get _ hj]
      congr 1
      unfold rowF putF
      apply List.map_congr_left
      intro i' _
      dsimp only
      rw [if_neg (fun hh => e hh.1.symm)]
    · rw [List.getElem?_eq_none (by rw [rowsF_len]; omega), List.getElem?_eq_none (by rw [rowsF_len]; omega)]
/-- One row among rows: another one in its place. -/
theorem RowsP.get2 {vs : List Value} {L : List (List (List UInt8))} {H : Hp} (h : RowsP vs L H) {d : Nat} {r : List (List UInt8)} (hd : L[d]? = some r) :
    ∃ (rb cap : Nat) (junk : List Value) (Ha Hz : Hp), vs[d]? = some (.slice (some ⟨rb, 0, none⟩) r.length cap) ∧ H = Ha ++ ((rb, cl (cbs r.flatten ++ junk) 25) :: Hz) ∧ D32 r ∧ r.length ≤ cap ∧
      ∀ r2 : List (List UInt8), D32 r2 → r2.length = r.length → RowsP vs (L.set d r2) (Ha ++ ((rb, cl (cbs r2.flatten ++ junk) 25) :: Hz)) := by
  obtain ⟨ws, rfl, rfl, rfl, h4⟩ := h
  rw [List.getElem?_map] at hd
  obtain ⟨w, hw, rfl⟩ := Option.map_eq_some_iff.1 hd
  obtain ⟨hl, hv⟩ := List.getElem?_eq_some_iff.1 hw
  have hm := List.mem_of_getElem? hw
  have hs : ws = ws.take d ++ w :: ws.drop (d + 1) := by
    conv => lhs; rw [← List.take_append_drop d ws, List.drop_eq_getElem_cons hl, hv]
  refine ⟨w.b, w.cap, w.junk, (ws.take d).map Rw.hp, (ws.drop (d + 1)).map Rw.hp, by rw [List.getElem?_map, hw]; rfl, ?_, (h4 w hm).1, (h4 w hm).2.2, fun r2 h2 h3 => ?_⟩
  · conv => lhs; rw [hs]
    simp [Rw.hp]
  · refine ⟨ws.set d { w with r := r2 }, ?_, ?_, ?_, fun x hx => ?_⟩
    · rw [List.map_set, show ({ w with r := r2 } : Rw).val = w.val by simp [Rw.val, h3]]
      exact (set_same (by rw [List.getElem?_map, hw]; rfl)).symm
    · rw [List.map_set]
    · rw [List.map_set, List.set_eq_take_append_cons_drop, if_pos (by simpa using hl)]
      simp [Rw.hp, List.map_take, List.map_drop]
    · rcases List.mem_or_eq_of_mem_set hx with h5 | rfl
      · exact h4 x h5
      · obtain ⟨g1, g2, g3⟩ := h4 w hm
        exact ⟨h2, by show w.junk.length = (w.cap - r2.length) * 32; rw [h3]; exact g2, by show r2.length ≤ w.cap; omega⟩
theorem cbs_setJ {L : List (List UInt8)} {junk : List Value} {x : List UInt8} (h : D32 L) {i : Nat} (hi : i < L.length) : (cbs L.flatten ++ junk).take (i * 32) ++ cbs x ++ (cbs L.flatten ++ junk).drop (i * 32 + 32) = cbs (L.set i x).flatten ++ junk := by
  have hl : (cbs L.flatten).length = L.length * 32 := by rw [cbs_len, flatN_len h]
  rw [List.take_append_of_le_length (by omega), List.drop_append_of_le_length (by omega), ← List.append_assoc, cbs_set h hi]
def setL (l : List (List UInt8)) (xs : List (Int × List UInt8)) : List (List UInt8) := xs.foldl (fun l x => l.set x.1.toNat x.2) l
theorem setL_len (l : List (List UInt8)) (xs : List (Int × List UInt8)) : (setL l xs).length = l.length := by
  unfold setL
  induction xs generalizing l with
  | nil => rfl
  | cons x xs ih => rw [List.foldl_cons, ih, List.length_set]
theorem setL_32 {l : List (List UInt8)} (hl : D32 l) (xs : List (Int × List UInt8)) (hx : ∀ x ∈ xs, x.2.length = 32) : D32 (setL l xs) := by
  unfold setL
  induction xs generalizing l with
  | nil => exact hl
  | cons x xs ih => exact ih (set_len hl (hx x (List.mem_cons_self ..))) fun y hy => hx y (List.mem_cons_of_mem _ hy)
theorem setL_app (l : List (List UInt8)) (xs : List (Int × List UInt8)) (x : Int × List UInt8) : setL l (xs ++ [x]) = (setL l xs).set x.1.toNat x.2 := by simp [setL]
theorem setL_other (l : List (List UInt8)) (xs : List (Int × List UInt8)) : ∀ i, i ∉ xs.map (fun x => x.1.toNat) → (setL l xs).getD i z32 = l.getD i z32 := by
  unfold setL
  induction xs generalizing l with
  | nil => intro i _; rfl
  | cons x xs ih =>
    intro i hi
    simp only [List.map_cons, List.mem_cons, not_or] at hi
    rw [List.foldl_cons, ih _ i hi.2, List.getD_eq_getElem?_getD, List.getD_eq_getElem?_getD, List.getElem?_set_ne (Ne.symm hi.1)]
/-- The rows while leaves are put in. -/
def curJ (l : List (List UInt8)) (xs : List (Int × List UInt8)) (j : Nat) : Nat → Nat → List UInt8 := fun d i => if d = 0 then (setL l (xs.take j)).getD i z32 else atV l d i
theorem curJ_0 (l : List (List UInt8)) (xs : List (Int × List UInt8)) : curJ l xs 0 = atV l := by
  funext d i
  unfold curJ
  split
  · rename_i h; subst h; rfl
  · rfl
theorem curJ_next (l : List (List UInt8)) {xs : List (Int × List UInt8)} {j : Nat} {x : Int × List UInt8} (hx : xs[j]? = some x) (hk : x.1.toNat < l.length) : curJ l xs (j + 1) = putF (curJ l xs j) (0, x.1.toNat) x.2 := by
  funext d i
  unfold curJ putF
  dsimp only
  rw [List.take_add_one, hx, show (some x).toList = [x] from rfl, setL_app]
  by_cases hd : d = 0
  · subst hd
    rw [if_pos rfl, if_pos rfl, List.getD_eq_getElem?_getD, List.getElem?_set, setL_len]
    by_cases e : x.1.toNat = i
    · subst e; simp [hk]
    · rw [if_neg e, if_neg (fun hh => e hh.2.symm), List.getD_eq_getElem?_getD]
  · rw [if_neg hd, if_neg (fun hh => hd hh.1), if_neg hd]
theorem curJ_32 {l : List (List UInt8)} (hl : D32 l) {xs : List (Int × List UInt8)} (hx : ∀ x ∈ xs, x.2.length = 32) (j d i : Nat) : (curJ l xs j d i).length = 32 := by
  unfold curJ
  split
  · exact atV_len (setL_32 hl _ fun x h => hx x (List.mem_of_mem_take h)) 0 i
  · exact atV_len hl d i
theorem rowF_32 {cur : Nat → Nat → List UInt8} (h : ∀ d i, (cur d i).length = 32) (D d : Nat) : D32 (rowF cur D d) := by
  intro x hx
  obtain ⟨i, -, rfl⟩ := List.mem_map.1 hx
  exact h d i
theorem putF_32 {cur : Nat → Nat → List UInt8} (h : ∀ d i, (cur d i).length = 32) (p : Pl) {x : List UInt8} (hx : x.length = 32) : ∀ d i, (putF cur p x d i).length = 32 := fun d i => by
  unfold putF
  split
  · exact hx
  · exact h d i
theorem seenL_le (xs : List Nat) : (seenL xs).length ≤ xs.length := by
  have key : ∀ (xs s : List Nat), (xs.foldl seenS s).length ≤ s.length + xs.length := by
    intro xs
    induction xs with
    | nil => intro s; simp
    | cons x xs ih =>
      intro s
      have := ih (seenS s x)
      have h2 : (seenS s x).length ≤ s.length + 1 := by unfold seenS; split <;> simp
      rw [List.foldl_cons, List.length_cons]
      omega
  simpa [seenL] using key xs []
theorem aboveV_le (ks : List Nat) (D : Nat) : aboveV ks D ≤ D * ks.length := by
  induction D with
  | zero => simp [aboveV]
  | succ D ih =>
    have := seenL_le (ks.map fun k => k / 2 ^ (D + 1))
    rw [List.length_map] at this
    unfold aboveV seenAt
    rw [Nat.succ_mul]
    omega
end Go.Proofs.Ytieamijnajbcnaa
