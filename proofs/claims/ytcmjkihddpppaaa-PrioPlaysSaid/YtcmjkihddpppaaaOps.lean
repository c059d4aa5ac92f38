/- Slices within what is handed in. -/
import Derived.Test.YtcmjkihddpppaaaOpn
set_option linter.unusedVariables false
set_option linter.unusedSimpArgs false
namespace Go.Proofs.Ytcmjkihddpppaaa
open Go Go.ChangeShapes Go.WideShapes Go.ChangeAt Go.RowKit

section
variable {H : Type} {enc : TypeId × Value → H} {P : Program}
theorem open_slT {t e n : Nat} {W : World} {sp : Nat → Bool} {hl : Bool} {fuel : Nat} {cs : List Value} {z : DataW H × List MemPlace} {G : List Value → Prop} (hu : P.underlying t = some (.slice e)) (hc : P.cellsOf e = n) (hn : 0 < n) (h : DataW.trod enc P W 0 sp hl fuel t cs = some z)
    (hG : ∀ fuel cells z, DataW.trod enc P W 0 sp hl fuel e cells = some z → G cells) :
    ∃ (a : Option Addr) (len cap : Nat) (ys : List Value), cs = [.slice a len cap] ∧ len ≤ cap ∧ cap ≤ maxLen ∧ Rd [] W n (.slice a len cap) ys ∧ ys.length = len * n ∧ ∀ i, i < len → G ((ys.drop (i * n)).take n) := by
  rcases DataW.trod_slice hu h with ⟨h0, -⟩ | ⟨⟨blk, off, spot⟩, len, cap, elems, rest, m, rfl, h0, -, -, hlc, hcm, hle, hel, -, -⟩
  · exact ⟨none, 0, 0, [], h0, Nat.le_refl _, Nat.zero_le _, Rd.nil _ _ _, by simp, fun i hi => absurd hi (Nat.not_lt_zero _)⟩
  · rw [hc] at hel
    rcases Nat.eq_zero_or_pos len with h00 | hpos
    · subst h00
      exact ⟨_, 0, cap, [], h0, hlc, hcm, Rd.empty _ _ _ _ _, by simp, fun i hi => absurd hi (Nat.not_lt_zero _)⟩
    · have hs : spot = none := by
        have h1 := hel 0 hpos
        have he : elems[0]? = some (elems[0]'(by omega)) := List.getElem?_eq_getElem _
        rw [he, Nat.zero_mul] at h1
        cases spot with
        | none => rfl
        | some s =>
          exfalso
          have hadd : (⟨blk, off, some s⟩ : Addr).add 0 = ⟨blk, off, some s⟩ := rfl
          rw [hadd] at h1
          have hnone : W.cells? 0 ⟨blk, off, some s⟩ n = none := by
            cases hq : W.cells? 0 ⟨blk, off, some s⟩ n with
            | none => rfl
            | some c =>
              exfalso
              unfold World.cells? at hq
              rw [if_pos (Nat.zero_le _)] at hq
              obtain ⟨q1, q2⟩ := mapM_at _ _ hq
              rw [List.length_range] at q1
              have q3 := q2 0 (by simpa using hn)
              rw [List.getElem_range] at q3
              have hc0 : c[0]? = some (c[0]'(by omega)) := List.getElem?_eq_getElem _
              rw [hc0, hadd] at q3
              unfold World.cell? at q3
              cases hb : W.heap[blk]? with
              | none => simp [hb] at q3
              | some ob => cases ob <;> simp [hb] at q3
          rw [hnone] at h1
          simp at h1
      subst hs
      have key : ∀ i, i < len → ∃ c, W.cells? 0 ⟨blk, off + i * n, none⟩ n = some c ∧ G c := by
        intro i hi
        have := hel i hi
        rw [add_plain] at this
        have he : elems[i]? = some (elems[i]'(by omega)) := List.getElem?_eq_getElem _
        rw [he] at this
        cases hcs : W.cells? 0 ⟨blk, off + i * n, none⟩ n with
        | none => rw [hcs] at this; simp at this
        | some c => rw [hcs] at this; exact ⟨c, rfl, hG _ _ _ this⟩
      rcases Nat.eq_zero_or_pos len with rfl | hp
      · exact ⟨_, 0, cap, [], h0, hlc, hcm, Rd.empty _ _ _ _ _, by simp, fun i hi => absurd hi (Nat.not_lt_zero _)⟩
      · obtain ⟨c0, hc0, _⟩ := key 0 hp
        obtain ⟨l, T, fz, hb, -, -⟩ := (cells_at hc0).2 0 hn
        have hall : ∀ i, i < len → ∃ c, c.length = n ∧ G c ∧ ∀ j, j < n → l[off + i * n + j]? = c[j]? ∧ off + i * n + j < l.size := by
          intro i hi
          obtain ⟨c, hcs, hg⟩ := key i hi
          obtain ⟨h1, h2⟩ := cells_at hcs
          refine ⟨c, h1, hg, fun j hj => ?_⟩
          obtain ⟨l', T', fz', hb', h3, h4⟩ := h2 j hj
          rw [hb] at hb'
          cases hb'
          exact ⟨h3, h4⟩
        have hsz : off + len * n ≤ l.size := by
          obtain ⟨c, _, _, h⟩ := hall (len - 1) (by omega)
          have := (h (n - 1) (by omega)).2
          have e : (len - 1) * n + n = len * n := by
            have : len - 1 + 1 = len := by omega
            rw [← Nat.succ_mul, Nat.succ_eq_add_one, this]
          omega
        have hyl : ((l.toList.drop off).take (len * n)).length = len * n := by
          rw [List.length_take, List.length_drop, Array.length_toList]; omega
        refine ⟨_, len, cap, (l.toList.drop off).take (len * n), h0, hlc, hcm, ⟨_, len, cap, rfl, hyl, hlc, .inr ⟨blk, off, l.toList, T, fz, rfl, by simpa using hb, by simp, rfl⟩⟩, hyl, fun i hi => ?_⟩
        obtain ⟨c, h1, hg, h2⟩ := hall i hi
        have : (((l.toList.drop off).take (len * n)).drop (i * n)).take n = c := by
          have hin : i * n + n ≤ len * n := by rw [← Nat.succ_mul]; exact Nat.mul_le_mul_right n hi
          apply List.ext_getElem?
          intro j
          by_cases hj : j < n
          · rw [List.getElem?_take, if_pos hj, List.getElem?_drop, List.getElem?_take, if_pos (by omega), List.getElem?_drop, Array.getElem?_toList, ← (h2 j hj).1]
            congr 1; omega
          · rw [List.getElem?_eq_none (by rw [List.length_take]; omega), List.getElem?_eq_none (by omega)]
        rw [this]; exact hg
theorem trod_rd {t e : Nat} {W : World} {sp : Nat → Bool} {hl : Bool} {fuel : Nat} {cs : List Value} {z : DataW H × List MemPlace} (hu : P.underlying t = some (.slice e)) (hc : P.cellsOf e = 1) (he : P.underlying e = some (.int .u8)) (h : DataW.trod enc P W 0 sp hl fuel t cs = some z) :
    ∃ (v : Value) (bs : List UInt8), cs = [v] ∧ Rd [] W 1 v (cbs bs) := by
  obtain ⟨a, len, cap, ys, rfl, -, -, hrd, hyl, hG⟩ := open_slT (G := fun cs => ∃ n : Int, cs = [.int .u8 n] ∧ 0 ≤ n ∧ n < 256) hu hc (by decide) h (fun fuel cells z h => by
    obtain ⟨n, h1, h2, h3⟩ := trod_intG he h
    exact ⟨n, h1, Int.le_trans (by decide) h2, Int.lt_of_le_of_lt h3 (by decide)⟩)
  obtain ⟨bs, rfl⟩ : ∃ bs : List UInt8, ys = cbs bs := by
    clear hrd h
    refine ⟨ys.map fun v => match v with | .int _ n => UInt8.ofNat n.toNat | _ => 0, ?_⟩
    unfold cbs
    rw [List.map_map]
    refine (List.map_id ys).symm.trans (List.map_congr_left fun v hv => ?_)
    obtain ⟨i, hi, rfl⟩ := List.mem_iff_getElem.1 hv
    obtain ⟨n, h1, h2, h3⟩ := hG i (by omega)
    rw [Nat.mul_one, List.drop_eq_getElem_cons hi] at h1
    simp only [List.take_succ_cons, List.take_zero, List.cons.injEq, and_true] at h1
    simp only [id, Function.comp, h1]
    have : (UInt8.ofNat n.toNat).toNat = n.toNat := by rw [UInt8.toNat_ofNat']; exact Nat.mod_eq_of_lt (by omega)
    simp only [this, Value.int.injEq, true_and]
    omega
  exact ⟨_, bs, rfl, hrd⟩
end
end Go.Proofs.Ytcmjkihddpppaaa
