/- What is stored, and what lasts: the plain law of the device. -/
import Derived.Test.YtlpgegglobhclaaRfa
set_option linter.unusedVariables false
set_option linter.unusedSimpArgs false
namespace Go.Proofs.Ytlpgegglobhclaa
open Go

theorem modL_prop {f : Nat → UInt8 → Wd → Wd} {J : Wd → Prop} (hf : ∀ j c w, J w → J (f j c w)) : ∀ (bs : List UInt8) (ws : List Wd) (i : Nat), (∀ w ∈ ws, J w) → ∀ w ∈ modL f ws i bs, J w
  | [], ws, i, h => h
  | c :: t, ws, i, h => modL_prop hf t _ _ (fun w hw => by
      unfold modB at hw
      obtain ⟨k, hk⟩ := List.mem_iff_getElem?.1 hw
      rw [List.getElem?_modify] at hk
      cases hu : ws[k]? with
      | none => rw [hu] at hk; simp at hk
      | some u =>
        rw [hu] at hk
        have hm := h u (List.mem_of_getElem? hu)
        simp only [Option.map_eq_map, Option.map_some, Option.some.injEq] at hk
        rw [← hk]
        split
        · exact hf _ _ u hm
        · exact hm)
/-- Bytes that are put into a list. -/
def spl (l : List UInt8) (i : Nat) (bs : List UInt8) : List UInt8 := l.take i ++ bs ++ l.drop (i + bs.length)
theorem put_eqs : ∀ (bs : List UInt8) (ws : List Wd) (i : Nat), (∀ w ∈ ws, w.Ok) → i + bs.length ≤ 8 * ws.length →
    nowB (modL Wd.ps ws i bs) = spl (nowB ws) i bs ∧ lastB (modL Wd.ps ws i bs) = lastB ws
  | [], ws, i, _, _ => by simp [modL, spl]
  | c :: t, ws, i, hok, hl => by
    simp only [List.length_cons] at hl
    have hm : i / 8 < ws.length := by omega
    obtain ⟨u, hu⟩ : ∃ u, ws[i / 8]? = some u := ⟨_, List.getElem?_eq_getElem hm⟩
    have hB : modB Wd.ps ws i c = ws.set (i / 8) (u.ps (i % 8) c) := modify_set _ hu
    have hok2 : ∀ w ∈ modB Wd.ps ws i c, w.Ok := by unfold modB; exact modify_ok (fun w => Wd.ps_ok _ _) _ hok
    obtain ⟨e1, e2⟩ := put_eqs t (modB Wd.ps ws i c) (i + 1) hok2 (by rw [modB_len]; omega)
    have n1 : nowB (modB Wd.ps ws i c) = (nowB ws).set i c := by rw [hB]; exact (nowB_set hok hu c rfl).symm
    have n2 : lastB (modB Wd.ps ws i c) = lastB ws := by rw [hB]; exact fm_set_same _ hu rfl
    have l1 := nowB_len hok
    have key : ∀ (l : List UInt8), i < l.length → (l.set i c).take (i + 1) ++ t ++ (l.set i c).drop (i + 1 + t.length) = l.take i ++ (c :: t) ++ l.drop (i + (t.length + 1)) := fun l hi => by
      rw [List.take_set, List.take_add_one, List.getElem?_eq_getElem hi, Option.toList_some, List.set_append_right _ _ (by simp; omega)]
      have e : i - (l.take i).length = 0 := by simp; omega
      rw [e, List.set_cons_zero, List.drop_set_of_lt (by omega)]
      rw [show i + 1 + t.length = i + (t.length + 1) by omega]
      simp only [List.append_assoc, List.singleton_append, List.cons_append, List.nil_append]
    refine ⟨?_, ?_⟩
    · show nowB (modL Wd.ps (modB Wd.ps ws i c) (i + 1) t) = _
      rw [e1, n1]; exact key _ (by omega)
    · show lastB (modL Wd.ps (modB Wd.ps ws i c) (i + 1) t) = _
      rw [e2, n2]

/-- The power is on, and won't go by itself. -/
structure Dv.Live (σ : Dv) : Prop where
  d : σ.down = false
  f : σ.fuse = 0
theorem push_ws (σ : Dv) (a : Int × Int × Int) : (σ.push a).ws = σ.ws ∧ (σ.push a).down = σ.down ∧ (σ.push a).fuse = σ.fuse := by
  unfold Dv.push
  split <;> exact ⟨rfl, rfl, rfl⟩
theorem Dv.Live.act {σ : Dv} (h : σ.Live) (a : Int × Int × Int) : (σ.act a).Live ∧ (σ.act a).ws = σ.ws ∧ σ.actE = 0 := by
  have e : σ.act a = σ.push a := by unfold Dv.act; rw [if_neg (by rw [h.f]; decide)]
  obtain ⟨h1, h2, h3⟩ := push_ws σ a
  rw [e]
  exact ⟨⟨h2.trans h.d, h3.trans h.f⟩, h1, by unfold Dv.actE; rw [if_neg (by rw [h.f]; decide)]⟩
theorem Dv.Live.rdy {σ : Dv} (h : σ.Live) {x n : Int} (hx : 0 ≤ x) (hn : 0 ≤ n) (hl : x + n ≤ σ.len) : σ.rdy x n = 0 := by
  unfold Dv.rdy
  rw [if_neg (by rw [h.d]; decide), if_neg (by omega)]
theorem Dv.Live.store {σ : Dv} (h : σ.Live) {i : Nat} {bs : List UInt8} (hl : i + bs.length ≤ σ.len) : (σ.store i bs).Live ∧ (σ.store i bs).ws = modL Wd.ps σ.ws i bs ∧ σ.actR i bs.length = 0 := by
  have hr : σ.rdy i bs.length = 0 := h.rdy (by omega) (by omega) (by omega)
  obtain ⟨h1, h2, h3⟩ := h.act (1, (i : Int), (bs.length : Int))
  unfold Dv.store Dv.actR
  rw [if_pos hr, if_pos h3, if_pos hr]
  exact ⟨⟨h1.d, h1.f⟩, by show storeW _ _ _ = _; rw [h2, Int.toNat_natCast, storeW_ps], h3⟩
theorem Dv.Live.flush {σ : Dv} (h : σ.Live) {i n : Nat} (hl : i + n ≤ σ.len) : (σ.flush i n).Live ∧ (σ.flush i n).ws = flushW σ.ws i n ∧ σ.actR i n = 0 := by
  have hr : σ.rdy i n = 0 := h.rdy (by omega) (by omega) (by omega)
  obtain ⟨h1, h2, h3⟩ := h.act (2, (i : Int), (n : Int))
  unfold Dv.flush Dv.actR
  rw [if_pos hr, if_pos h3, if_pos hr]
  exact ⟨⟨h1.d, h1.f⟩, by show flushW _ _ _ = _; rw [h2, Int.toNat_natCast, Int.toNat_natCast], h3⟩
theorem Dv.Live.fence {σ : Dv} (h : σ.Live) : σ.fence.Live ∧ σ.fence.ws = σ.ws.map Wd.fenced ∧ σ.actR 0 0 = 0 := by
  have hr : σ.rdy 0 0 = 0 := h.rdy (by omega) (by omega) (by omega)
  obtain ⟨h1, h2, h3⟩ := h.act (3, 0, 0)
  unfold Dv.fence Dv.actR
  rw [if_pos hr, if_pos h3, if_pos hr]
  exact ⟨⟨h1.d, h1.f⟩, by show List.map _ _ = _; rw [h2], h3⟩
theorem flushW_now (ws : List Wd) (i n : Nat) : nowB (flushW ws i n) = nowB ws ∧ lastB (flushW ws i n) = lastB ws := by
  unfold flushW
  split
  · exact ⟨rfl, rfl⟩
  · exact ⟨mapR_fm (h := Wd.flushed) Wd.now (fun w => rfl) _ _ _, mapR_fm (h := Wd.flushed) Wd.lasts (fun w => rfl) _ _ _⟩
/-- Words of which nothing is pending last as they are read. -/
def Wd.Q (w : Wd) : Prop := w.pend = false → w.lasts = w.now
theorem fenced_all {ws : List Wd} (h : ∀ w ∈ ws, w.Q ∧ w.mark = w.pend) : nowB (ws.map Wd.fenced) = nowB ws ∧ lastB (ws.map Wd.fenced) = nowB ws := by
  induction ws with
  | nil => exact ⟨rfl, rfl⟩
  | cons w t ih =>
    obtain ⟨i1, i2⟩ := ih (fun x hx => h x (by simp [hx]))
    obtain ⟨hq, hm⟩ := h w (by simp)
    unfold nowB lastB at *
    simp only [List.map_cons, List.flatMap_cons, i1, i2, fenced_now, true_and]
    congr 1
    unfold Wd.fenced
    cases hp : w.mark
    · exact hq (by rw [← hm, hp])
    · rfl
/-- Behind a loss of power each word lasts as it did, or as it was read. -/
theorem crashL_word (q : List UInt8) : ∀ (ws : List Wd) (j k : Nat) (u : Wd), ws[k]? = some u → ∃ u', (crashL q j ws)[k]? = some u' ∧ (u'.lasts = u.lasts ∨ u'.lasts = u.now)
  | [], j, k, u, h => by simp at h
  | w :: t, j, k, u, h => by
    unfold crashL
    cases k with
    | zero =>
      simp at h; subst h
      cases hp : w.pend
      · exact ⟨w, rfl, .inl rfl⟩
      · refine ⟨_, rfl, ?_⟩
        unfold Wd.crash
        cases bitP q j
        · exact .inl rfl
        · exact .inr rfl
    | succ k =>
      simp at h
      cases hp : w.pend
      · obtain ⟨u', h1, h2⟩ := crashL_word q t j k u h
        exact ⟨u', by simpa using h1, h2⟩
      · obtain ⟨u', h1, h2⟩ := crashL_word q t (j + 1) k u h
        exact ⟨u', by simpa using h1, h2⟩
end Go.Proofs.Ytlpgegglobhclaa
