/- Slices of structs that are handed in. -/
import Derived.Test.YtcmjkihddpppaaaEnd
set_option linter.unusedVariables false
set_option linter.unusedSimpArgs false
namespace Go.Proofs.Ytcmjkihddpppaaa
open Go Go.ChangeShapes Go.WideShapes Go.ChangeAt Go.RowKit

theorem mapM_at {α β : Type} {f : α → Option β} : ∀ (l : List α) (r : List β), l.mapM f = some r → r.length = l.length ∧ ∀ (i : Nat) (h : i < l.length), f l[i] = r[i]?
  | [], r, h => by simp at h; subst h; exact ⟨rfl, fun i h => absurd h (by simp)⟩
  | a :: l, r, h => by
    rw [List.mapM_cons] at h
    cases ha : f a with
    | none => rw [ha] at h; simp at h
    | some b =>
      cases hl : l.mapM f with
      | none => rw [ha, hl] at h; simp at h
      | some r' =>
        rw [ha, hl] at h
        simp at h
        subst h
        obtain ⟨h1, h2⟩ := mapM_at l r' hl
        refine ⟨by simp [h1], fun i hi => ?_⟩
        cases i with
        | zero => simpa using ha
        | succ i => simpa using h2 i (by simpa using hi)

theorem add_plain (b o k : Nat) : (⟨b, o, none⟩ : Addr).add k = ⟨b, o + k, none⟩ := by
  unfold Addr.add
  split
  · rename_i h; subst h; rfl
  · rfl

section
variable {H : Type} {enc : TypeId × Value → H} {P : Program}
theorem cells_at {w : World} {b o n : Nat} {c : List Value} (h : w.cells? 0 ⟨b, o, none⟩ n = some c) : c.length = n ∧ ∀ j, j < n → ∃ (l : Array Value) (T : TypeId) (fz : Nat × Nat), w.heap[b]? = some (.cells l T fz) ∧ l[o + j]? = c[j]? ∧ o + j < l.size := by
  unfold World.cells? at h
  rw [if_pos (Nat.zero_le _)] at h
  obtain ⟨h1, h2⟩ := mapM_at _ _ h
  rw [List.length_range] at h1
  refine ⟨h1, fun j hj => ?_⟩
  have := h2 j (by simpa using hj)
  rw [List.getElem_range, add_plain] at this
  have hc : c[j]? = some (c[j]'(by omega)) := List.getElem?_eq_getElem _
  rw [hc] at this
  unfold World.cell? at this
  cases hb : w.heap[b]? with
  | none => simp [hb] at this
  | some ob =>
    cases ob with
    | cells l T fz =>
      simp [hb] at this
      refine ⟨l, T, fz, rfl, by rw [hc]; exact this, (Array.getElem?_eq_some_iff.1 this).1⟩
    | _ => simp [hb] at this

theorem open_sl {t e n b : Nat} {W : World} {r : Reach} {sp : Nat → Bool} {hl : Bool} {v : Value} {d : DataW H} {ps : List MemPlace} {G : List Value → Prop} (hu : P.underlying t = some (.slice e)) (hc : P.cellsOf e = n) (hn : 0 < n) (hval : Value.okWide P W r b t v) (hd : DataW.Trod enc P W 0 sp hl t v d ps)
    (hG : ∀ fuel cells z, DataW.trod enc P W 0 sp hl fuel e cells = some z → G cells) :
    ∃ (a : Option Addr) (len cap : Nat) (ys : List Value), v = .slice a len cap ∧ len ≤ cap ∧ cap ≤ maxLen ∧ Rd [] W n v ys ∧ ys.length = len * n ∧ ∀ i, i < len → G ((ys.drop (i * n)).take n) := by
  have hv : (v = .slice none 0 0) ∨ ∃ (a : Addr) (len cap : Nat), v = .slice (some a) len cap ∧ a.spot = none := by
    unfold Value.okWide at hval
    rw [hu] at hval
    simp only at hval
    unfold Cell.okWide at hval
    rw [hu] at hval
    cases v <;> simp [Cell.ok, hu] at hval
    rename_i a len cap
    cases a with
    | none =>
      left
      cases len <;> cases cap <;> simp_all
    | some a => exact .inr ⟨a, len, cap, rfl, by simpa using hval.2.2.2.1⟩
  obtain ⟨fuel, h⟩ := hd
  rcases hv with rfl | ⟨⟨blk, off, spot⟩, len, cap, rfl, hs⟩
  · exact ⟨none, 0, 0, [], rfl, Nat.le_refl _, Nat.zero_le _, Rd.nil _ _ _, by simp, fun i hi => absurd hi (Nat.not_lt_zero _)⟩
  · dsimp only at hs
    subst hs
    rcases DataW.trod_slice hu h with ⟨h0, -⟩ | ⟨a, len', cap', elems, rest, m, rfl, h0, -, -, hlc, hcm, hle, hel, -, -⟩
    · simp [Value.cells] at h0
    · simp [Value.cells] at h0
      obtain ⟨rfl, rfl, rfl⟩ := h0
      rw [hc] at hel
      have key : ∀ i, i < len → ∃ c, W.cells? 0 ⟨blk, off + i * n, none⟩ n = some c ∧ G c := by
        intro i hi
        have := hel i hi
        rw [add_plain] at this
        have he : elems[i]? = some (elems[i]'(by omega)) := List.getElem?_eq_getElem _
        rw [he] at this
        cases hcs : W.cells? 0 ⟨blk, off + i * n, none⟩ n with
        | none => rw [hcs] at this; simp at this
        | some c => rw [hcs] at this; exact ⟨c, rfl, hG _ _ _ this⟩
      rcases Nat.eq_zero_or_pos len with rfl | hp
      · exact ⟨_, 0, cap, [], rfl, hlc, hcm, Rd.empty _ _ _ _ _, by simp, fun i hi => absurd hi (Nat.not_lt_zero _)⟩
      · obtain ⟨c0, hc0, _⟩ := key 0 hp
        obtain ⟨l, T, fz, hb, -, -⟩ := (cells_at hc0).2 0 hn
        have hall : ∀ i, i < len → ∃ c, c.length = n ∧ G c ∧ ∀ j, j < n → l[off + i * n + j]? = c[j]? ∧ off + i * n + j < l.size := by
          intro i hi
          obtain ⟨c, hcs, hg⟩ := key i hi
          obtain ⟨h1, h2⟩ := cells_at hcs
          refine ⟨c, h1, hg, fun j hj => ?_⟩
          obtain ⟨l', T', fz', hb', h3, h4⟩ := h2 j hj
          rw [hb] at hb'
          cases hb'
          exact ⟨h3, h4⟩
        have hsz : off + len * n ≤ l.size := by
          obtain ⟨c, _, _, h⟩ := hall (len - 1) (by omega)
          have := (h (n - 1) (by omega)).2
          have e : (len - 1) * n + n = len * n := by
            have : len - 1 + 1 = len := by omega
            rw [← Nat.succ_mul, Nat.succ_eq_add_one, this]
          omega
        have hyl : ((l.toList.drop off).take (len * n)).length = len * n := by
          rw [List.length_take, List.length_drop, Array.length_toList]; omega
        refine ⟨_, len, cap, (l.toList.drop off).take (len * n), rfl, hlc, hcm, ⟨_, len, cap, rfl, hyl, hlc, .inr ⟨blk, off, l.toList, T, fz, rfl, by simpa using hb, by simp, rfl⟩⟩, hyl, fun i hi => ?_⟩
        obtain ⟨c, h1, hg, h2⟩ := hall i hi
        have : (((l.toList.drop off).take (len * n)).drop (i * n)).take n = c := by
          have hin : i * n + n ≤ len * n := by rw [← Nat.succ_mul]; exact Nat.mul_le_mul_right n hi
          apply List.ext_getElem?
          intro j
          by_cases hj : j < n
          · rw [List.getElem?_take, if_pos hj, List.getElem?_drop, List.getElem?_take, if_pos (by omega), List.getElem?_drop, Array.getElem?_toList, ← (h2 j hj).1]
            congr 1; omega
          · rw [List.getElem?_eq_none (by rw [List.length_take]; omega), List.getElem?_eq_none (by omega)]
        rw [this]; exact hg
end
end Go.Proofs.Ytcmjkihddpppaaa
