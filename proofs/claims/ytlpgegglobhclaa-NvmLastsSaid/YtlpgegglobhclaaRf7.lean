/- The document's own device: Store, Load, Pending, Tamper. -/
import Derived.Test.YtlpgegglobhclaaRfb
import Derived.Test.YtlpgegglobhclaaNv9
set_option linter.unusedVariables false
set_option linter.unusedSimpArgs false
namespace Go.Proofs.Ytlpgegglobhclaa
open Go

theorem rn_eq (ws : List Wd) : rn ws = (nowB ws).map bv := by simp [rn, nowB, List.map_flatMap]
theorem rl_eq (ws : List Wd) : rl ws = (lastB ws).map bv := by simp [rl, lastB, List.map_flatMap]
theorem set_okW {ws : List Wd} {m : Nat} {u' : Wd} (hok : ∀ w ∈ ws, w.Ok) (h : u'.Ok) : ∀ w ∈ ws.set m u', w.Ok := fun w hw => by
  rcases List.mem_or_eq_of_mem_set hw with hw | rfl
  · exact hok w hw
  · exact h
theorem ext8 {α : Type} (f : Wd → List α) {ws : List Wd} (hf : ∀ w ∈ ws, (f w).length = 8) {i : Nat} {u u' : Wd} (hu : ws[i / 8]? = some u) (c : α) (h8 : (f u').length = 8) (h : (f u).set (i % 8) c = f u') : (ws.flatMap f).set i c = (ws.set (i / 8) u').flatMap f := by
  have hm : i / 8 < ws.length := (List.getElem?_eq_some_iff.1 hu).1
  have hf' : ∀ w ∈ ws.set (i / 8) u', (f w).length = 8 := fun w hw => by
    rcases List.mem_or_eq_of_mem_set hw with hw | rfl
    · exact hf w hw
    · exact h8
  have hl1 := fmU_len f hf
  have hl2 := fmU_len f hf'
  rw [List.length_set] at hl2
  apply List.ext_getElem?
  intro k
  by_cases hk : k < 8 * ws.length
  · obtain ⟨x, hx⟩ : ∃ x, ws[k / 8]? = some x := ⟨_, List.getElem?_eq_getElem (by omega)⟩
    have hj : k % 8 < 8 := Nat.mod_lt _ (by decide)
    have e : k / 8 * 8 + k % 8 = k := by omega
    have g1 := fmU f hf hx hj
    rw [e] at g1
    rw [List.getElem?_set, hl1]
    by_cases hki : i / 8 = k / 8
    · have hx' : (ws.set (i / 8) u')[k / 8]? = some u' := by rw [← hki]; exact List.getElem?_set_self hm
      have g2 := fmU f hf' hx' hj
      rw [e] at g2
      rw [← hki, hu] at hx
      cases hx
      rw [g2, ← h, List.getElem?_set, g1, hf u (List.mem_of_getElem? hu)]
      by_cases hik : i = k
      · subst hik; simp [hj]; omega
      · have : i % 8 ≠ k % 8 := by omega
        simp [hik, this]
    · have hx' : (ws.set (i / 8) u')[k / 8]? = some x := by rw [List.getElem?_set_ne hki]; exact hx
      have g2 := fmU f hf' hx' hj
      rw [e] at g2
      rw [g2, g1, if_neg (by intro e2; exact hki (by rw [e2]))]
  · rw [List.getElem?_eq_none (by rw [List.length_set]; omega), List.getElem?_eq_none (by omega)]
theorem nowB_set {ws : List Wd} (hok : ∀ w ∈ ws, w.Ok) {i : Nat} {u u' : Wd} (hu : ws[i / 8]? = some u) (c : UInt8) (h : u.now.set (i % 8) c = u'.now) : (nowB ws).set i c = nowB (ws.set (i / 8) u') :=
  ext8 Wd.now (fun w hw => (hok w hw).1.2) hu c (by rw [← h, List.length_set]; exact (hok u (List.mem_of_getElem? hu)).1.2) h
theorem lastB_set {ws : List Wd} (hok : ∀ w ∈ ws, w.Ok) {i : Nat} {u u' : Wd} (hu : ws[i / 8]? = some u) (c : UInt8) (h : u.lasts.set (i % 8) c = u'.lasts) : (lastB ws).set i c = lastB (ws.set (i / 8) u') :=
  ext8 Wd.lasts (fun w hw => (hok w hw).1.1) hu c (by rw [← h, List.length_set]; exact (hok u (List.mem_of_getElem? hu)).1.1) h
theorem map_set_same {α : Type} (f : Wd → α) {ws : List Wd} {m : Nat} {u u' : Wd} (hu : ws[m]? = some u) (h : f u' = f u) : (ws.set m u').map f = ws.map f := by
  rw [List.map_set, h]
  apply List.ext_getElem?
  intro k
  rw [List.getElem?_set]
  split
  · rename_i e; subst e
    split
    · rw [List.getElem?_map, hu]; rfl
    · rename_i h2; simp [(List.getElem?_eq_some_iff.1 hu).1] at h2
  · rfl
theorem fm_set_same {α : Type} (f : Wd → List α) {ws : List Wd} {m : Nat} {u u' : Wd} (hu : ws[m]? = some u) (h : f u' = f u) : (ws.set m u').flatMap f = ws.flatMap f := by
  rw [List.flatMap_def, List.flatMap_def, map_set_same f hu h]

/-! ### Store, byte by byte -/
def Wd.ps (j : Nat) (c : UInt8) (w : Wd) : Wd := (w.put j c).stored
theorem Wd.ps_ok (j : Nat) (c : UInt8) {w : Wd} (h : w.Ok) : (w.ps j c).Ok := Wd.stored_ok (Wd.put_ok j c h)
theorem storeW_ps (ws : List Wd) (i : Nat) (bs : List UInt8) : storeW ws i bs = modL Wd.ps ws i bs := by
  have key : ∀ l : List UInt8, modL Wd.ps ws i l = mapR Wd.stored (i / 8) (if l.length = 0 then i / 8 else (i + l.length - 1) / 8 + 1) (modL Wd.put ws i l) := by
    intro l
    induction hn : l.length generalizing l with
    | zero =>
      have : l = [] := List.eq_nil_of_length_eq_zero hn
      subst this
      show ws = mapR _ _ _ ws
      rw [if_pos rfl, mapR_none]
    | succ n ih =>
      obtain ⟨l', c, rfl⟩ : ∃ l' c, l = l' ++ [c] := ⟨l.dropLast, l.getLast (by intro h; subst h; simp at hn), (List.dropLast_concat_getLast _).symm⟩
      have hl' : l'.length = n := by simp at hn; exact hn
      rw [modL_snoc, modL_snoc, ih l' hl', hl', if_neg (Nat.succ_ne_zero n)]
      unfold modB
      have e : (i + (n + 1) - 1) / 8 = (i + n) / 8 := by congr 1
      rw [e]
      apply List.ext_getElem?
      intro k
      simp only [List.getElem?_modify, mapR, List.getElem?_mapIdx]
      cases hk : (modL Wd.put ws i l')[k]? with
      | none => simp
      | some u =>
        simp only [Option.map_some, Option.map_eq_map, Option.some.injEq]
        by_cases hm : (i + n) / 8 = k
        · subst hm
          rw [if_pos rfl, if_pos (c := i / 8 ≤ (i + n) / 8 ∧ (i + n) / 8 < (i + n) / 8 + 1) ⟨by omega, by omega⟩]
          try rw [if_pos rfl]
          by_cases h1 : i / 8 ≤ (i + n) / 8 ∧ (i + n) / 8 < (if n = 0 then i / 8 else (i + n - 1) / 8 + 1)
          · rw [if_pos h1]; rfl
          · rw [if_neg h1]; rfl
        · rw [if_neg hm, if_neg hm]
          have : (i / 8 ≤ k ∧ k < (if n = 0 then i / 8 else (i + n - 1) / 8 + 1)) ↔ (i / 8 ≤ k ∧ k < (i + n) / 8 + 1) := by
            split <;> omega
          simp only [this, id]
  unfold storeW
  rw [key bs]
  split
  · rename_i h0
    have : bs = [] := List.eq_nil_of_length_eq_zero h0
    subst this
    exact (mapR_none _ _ _).symm
  · rfl
end Go.Proofs.Ytlpgegglobhclaa
