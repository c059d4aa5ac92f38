/- What lasts: the plain law of NvmLasts. -/
import Derived.Test.YtlpgegglobhclaaNu
import Derived.Test.YtlpgegglobhclaaLc
set_option linter.unusedVariables false
set_option linter.unusedSimpArgs false
namespace Go.Proofs.Ytlpgegglobhclaa
open Go

/-- A word that lasts as it is read, of which nothing is pending. -/
structure Wd.Still (w : Wd) : Prop where
  l : w.lasts = w.now
  p : w.pend = false
  m : w.mark = false
theorem Wd.Still.flushed {w : Wd} (h : w.Still) : w.flushed = w := by
  obtain ⟨a, b, c, d⟩ := w
  obtain ⟨h1, h2, h3⟩ := h
  dsimp only at h2 h3
  subst h2 h3
  rfl
theorem Wd.Still.fenced {w : Wd} (h : w.Still) : w.fenced = w := by
  unfold Wd.fenced
  rw [h.m]
  rfl
theorem crashL_still (q : List UInt8) : ∀ (ws : List Wd) (j m : Nat) (u : Wd), ws[m]? = some u → u.pend = false → (crashL q j ws)[m]? = some u
  | [], j, m, u, h, _ => by simp at h
  | w :: t, j, m, u, h, hp => by
    unfold crashL
    cases m with
    | zero =>
      simp at h; subst h
      rw [hp]
      rfl
    | succ m =>
      simp at h
      cases hw : w.pend
      · have := crashL_still q t j m u h hp
        simpa using this
      · have := crashL_still q t (j + 1) m u h hp
        simpa using this
theorem modB_at (f : Nat → UInt8 → Wd → Wd) (ws : List Wd) (i m : Nat) (c : UInt8) : (modB f ws i c)[m]? = if i / 8 = m then (ws[m]?).map (f (i % 8) c) else ws[m]? := by
  unfold modB
  rw [List.getElem?_modify]
  by_cases e : i / 8 = m
  · simp [e]
  · simp [e]
theorem modL_get (f : Nat → UInt8 → Wd → Wd) : ∀ (bs : List UInt8) (ws : List Wd) (i m : Nat), (∀ k, k < bs.length → (i + k) / 8 ≠ m) → (modL f ws i bs)[m]? = ws[m]?
  | [], ws, i, m, _ => rfl
  | c :: t, ws, i, m, h => by
    show (modL f (modB f ws i c) (i + 1) t)[m]? = _
    rw [modL_get f t _ _ _ (fun k hk => by have := h (k + 1) (by simp; omega); rw [show i + 1 + k = i + (k + 1) by omega]; exact this)]
    rw [modB_at, if_neg (by have := h 0 (by simp); simpa using this)]
theorem modL_pend : ∀ (bs : List UInt8) (ws : List Wd) (i m k : Nat), k < bs.length → (i + k) / 8 = m → m < ws.length → ∃ u, (modL Wd.ps ws i bs)[m]? = some u ∧ u.pend = true := by
  have step : ∀ (t : List UInt8) (ws : List Wd) (i m : Nat) (u : Wd), ws[m]? = some u → u.pend = true → ∃ u', (modL Wd.ps ws i t)[m]? = some u' ∧ u'.pend = true := by
    intro t
    induction t with
    | nil => intro ws i m u h hp; exact ⟨u, h, hp⟩
    | cons c t ih =>
      intro ws i m u h hp
      show ∃ u', (modL Wd.ps (modB Wd.ps ws i c) (i + 1) t)[m]? = some u' ∧ _
      by_cases e : i / 8 = m
      · exact ih _ _ _ (u.ps (i % 8) c) (by rw [modB_at, if_pos e, h]; rfl) rfl
      · exact ih _ _ _ u (by rw [modB_at, if_neg e, h]) hp
  intro bs
  induction bs with
  | nil => intro ws i m k hk; simp at hk
  | cons c t ih =>
    intro ws i m k hk hm hl
    show ∃ u', (modL Wd.ps (modB Wd.ps ws i c) (i + 1) t)[m]? = some u' ∧ _
    cases k with
    | zero =>
      have e : i / 8 = m := by simpa using hm
      refine step t _ _ m ((ws[m]).ps (i % 8) c) ?_ rfl
      rw [modB_at, if_pos e, List.getElem?_eq_getElem hl]; rfl
    | succ k =>
      refine ih _ _ m k (by simpa using hk) (by rw [← hm]; congr 1; omega) (by rw [modB_len]; exact hl)

theorem crash_still {σ : Dv} (q : List UInt8) {m : Nat} {u : Wd} (h : σ.ws[m]? = some u) (hu : u.Still) : (σ.crash q).ws[m]? = some u := by
  unfold Dv.crash
  cases σ.down
  · exact crashL_still q _ _ _ _ h hu.p
  · exact h
theorem act_still {σ : Dv} (a : Int × Int × Int) {m : Nat} {u : Wd} (h : σ.ws[m]? = some u) (hu : u.Still) : (σ.act a).ws[m]? = some u := by
  unfold Dv.act
  split
  · split
    · exact crash_still _ h hu
    · rw [(push_ws _ _).1]; exact h
  · rw [(push_ws _ _).1]; exact h
theorem mapR_still {h : Wd → Wd} {ws : List Wd} {x y m : Nat} {u : Wd} (hw : ws[m]? = some u) (hu : h u = u) : (mapR h x y ws)[m]? = some u := by
  unfold mapR
  rw [List.getElem?_mapIdx, hw]
  simp only [Option.map_some]
  split
  · rw [hu]
  · rfl
theorem stp_still {σ : Dv} {m : Nat} {u : Wd} (h : σ.ws[m]? = some u) (hu : u.Still) (o : OpN) (h10 : o.kind ≠ 10)
    (hst : (o.kind = 0 ∨ o.kind = 1 ∨ o.kind = 2) → σ.rdy o.at_ o.b.length = 0 → ∀ k, k < o.b.length → (o.at_.toNat + k) / 8 ≠ m) : (σ.stp o).ws[m]? = some u := by
  have ha := fun a => act_still (σ := σ) a h hu
  unfold Dv.stp
  split
  · rename_i hk
    unfold Dv.store
    split
    · rename_i hr
      split
      · show (storeW _ _ _)[m]? = _
        rw [storeW_ps, modL_get _ _ _ _ _ (hst hk hr)]
        exact ha _
      · exact ha _
    · exact h
  · split
    · unfold Dv.flush
      split
      · split
        · show (flushW _ _ _)[m]? = _
          unfold flushW
          split
          · exact ha _
          · exact mapR_still (ha _) hu.flushed
        · exact ha _
      · exact h
    · split
      · unfold Dv.fence
        split
        · split
          · show (List.map _ _)[m]? = _
            rw [List.getElem?_map, ha _]
            simp only [Option.map_some, hu.fenced]
          · exact ha _
        · exact h
      · split
        · unfold Dv.doo
          split
          · exact h
          · exact ha _
        · split
          · exact crash_still _ h hu
          · split
            · exact h
            · split
              · exact h
              · first
                | exact h
                | (rw [if_neg h10]; exact h)

/-- Bytes that last, but for words that are marked. -/
def Kept (σ : Dv) (i : Nat) (bs : List UInt8) (ag : List Bool) : Prop :=
  ∀ k c, bs[k]? = some c → ag[(i + k) / 8]? = some false → ∃ u, σ.ws[(i + k) / 8]? = some u ∧ u.Still ∧ u.lasts[(i + k) % 8]? = some c
/-- The words of bytes are marked. -/
def mk8 (ag : List Bool) (x : Nat) : Nat → List Bool
  | 0 => ag
  | n + 1 => if x + n < 256 then (mk8 ag x n).set ((x + n) / 8) true else mk8 ag x n
theorem mk8_len (ag : List Bool) (x n : Nat) : (mk8 ag x n).length = ag.length := by
  induction n with
  | zero => rfl
  | succ n ih => unfold mk8; split <;> simp [ih]
theorem mk8_sub {ag : List Bool} {x m : Nat} : ∀ {n : Nat}, (mk8 ag x n)[m]? = some false → ag[m]? = some false ∧ ∀ k, k < n → x + k < 256 → (x + k) / 8 ≠ m
  | 0, h => ⟨h, fun k hk => by omega⟩
  | n + 1, h => by
    unfold mk8 at h
    split at h
    · by_cases e : (x + n) / 8 = m
      · rw [List.getElem?_set, if_pos e] at h
        split at h <;> simp at h
      · rw [List.getElem?_set_ne e] at h
        obtain ⟨h1, h2⟩ := mk8_sub h
        refine ⟨h1, fun k hk hx => ?_⟩
        by_cases hkn : k = n
        · subst hkn; exact e
        · exact h2 k (by omega) hx
    · obtain ⟨h1, h2⟩ := mk8_sub h
      refine ⟨h1, fun k hk hx => ?_⟩
      by_cases hkn : k = n
      · subst hkn; omega
      · exact h2 k (by omega) hx
theorem keep_stp {σ : Dv} {i : Nat} {bs : List UInt8} {ag : List Bool} (h : Kept σ i bs ag) (hl : σ.ws.length = 32) (o : OpN) (h10 : o.kind ≠ 10)
    (hk : ¬ ((0 ≤ o.kind ∧ o.kind ≤ 2) ∧ 0 ≤ o.at_ ∧ o.at_ < 256)) : Kept (σ.stp o) i bs ag := by
  intro k c hc ha
  obtain ⟨u, h1, h2, h3⟩ := h k c hc ha
  refine ⟨u, stp_still h1 h2 o h10 (fun hko hr j hj => ?_), h2, h3⟩
  have hlen : σ.len = 256 := by unfold Dv.len; rw [hl]
  unfold Dv.rdy at hr
  split at hr
  · cases hr
  · split at hr
    · cases hr
    · exfalso; apply hk; omega
theorem keep_stp2 {σ : Dv} {i : Nat} {bs : List UInt8} {ag : List Bool} (h : Kept σ i bs ag) (hl : σ.ws.length = 32) (o : OpN) (h10 : o.kind ≠ 10) :
    Kept (σ.stp o) i bs (mk8 ag o.at_.toNat o.b.length) := by
  intro k c hc ha
  obtain ⟨ha1, ha2⟩ := mk8_sub ha
  obtain ⟨u, h1, h2, h3⟩ := h k c hc ha1
  refine ⟨u, stp_still h1 h2 o h10 (fun hko hr j hj => ?_), h2, h3⟩
  have hlen : σ.len = 256 := by unfold Dv.len; rw [hl]
  unfold Dv.rdy at hr
  split at hr
  · cases hr
  · split at hr
    · cases hr
    · exact ha2 j hj (by omega)
theorem keep_crash {σ : Dv} {i : Nat} {bs : List UInt8} {ag : List Bool} (h : Kept σ i bs ag) (q : List UInt8) : Kept (σ.crash q) i bs ag := fun k c hc ha => by
  obtain ⟨u, h1, h2, h3⟩ := h k c hc ha
  exact ⟨u, crash_still q h1 h2, h2, h3⟩
theorem w8_at {l : List UInt8} {j : Nat} : l[j]? = (w8 l (j / 8))[j % 8]? := by
  unfold w8
  rw [List.getElem?_take, if_pos (by omega), List.getElem?_drop]
  congr 1
  omega
theorem keep_end {σ : Dv} {i : Nat} {bs : List UInt8} {ag : List Bool} (h : Kept σ i bs ag) (hO : σ.Ok) {k : Nat} {c : UInt8} (hc : bs[k]? = some c) (ha : ag[(i + k) / 8]? = some false) : (lastB σ.ws)[i + k]? = some c := by
  obtain ⟨u, h1, h2, h3⟩ := h k c hc ha
  rw [w8_at]
  unfold lastB
  rw [w8_of Wd.lasts (fun w hw => (hO.ok w hw).1.1) h1]
  exact h3
theorem keep_start {σ : Dv} (hL : σ.Live) (hO : σ.Ok) (hl : σ.ws.length = 32) {i : Nat} {bs : List UInt8} (hb : i + bs.length ≤ 256) (ag : List Bool) : let τ := ((σ.store (i : Int) bs).flush (i : Int) (bs.length : Int)).fence
    Kept τ i bs ag ∧ σ.actR (i : Int) bs.length = 0 ∧ (σ.store (i : Int) bs).actR (i : Int) (bs.length : Int) = 0 ∧ ((σ.store (i : Int) bs).flush (i : Int) (bs.length : Int)).actR 0 0 = 0 ∧ (σ.store (i : Int) bs).ws.length = 32 ∧ τ.ws.length = 32 := by
  have hlen : σ.len = 256 := by unfold Dv.len; rw [hl]
  obtain ⟨a1, a2, a3⟩ := hL.store (i := i) (bs := bs) (by omega)
  have l1 : (σ.store (i : Int) bs).ws.length = 32 := by rw [a2, modL_len]; exact hl
  obtain ⟨b1, b2, b3⟩ := a1.flush (i := i) (n := bs.length) (by unfold Dv.len; rw [l1]; omega)
  obtain ⟨c1, c2, c3⟩ := b1.fence
  have l2 : ((σ.store (i : Int) bs).flush (i : Int) (bs.length : Int)).ws.length = 32 := by rw [flush_wl]; exact l1
  refine ⟨?_, a3, b3, c3, l1, by rw [c2, List.length_map]; exact l2⟩
  intro k c hc _
  have hk : k < bs.length := (List.getElem?_eq_some_iff.1 hc).1
  obtain ⟨u, hu, hp⟩ := modL_pend bs σ.ws i ((i + k) / 8) k hk rfl (by omega)
  have hn := (put_eqs bs σ.ws i hO.ok (by omega)).1
  have hok : ∀ w ∈ modL Wd.ps σ.ws i bs, w.Ok := modL_prop (fun j c w h => Wd.ps_ok j c h) bs _ _ hO.ok
  have hnow : u.now[(i + k) % 8]? = some c := by
    have e := w8_of Wd.now (fun w hw => (hok w hw).1.2) hu
    rw [← e, ← w8_at]
    show (nowB _)[i + k]? = _
    rw [hn]
    unfold spl
    rw [List.append_assoc, List.getElem?_append_right (by simp; omega), List.length_take, nowB_len hO.ok]
    rw [show i + k - min i (8 * σ.ws.length) = k by omega]
    rw [List.getElem?_append_left hk]
    exact hc
  refine ⟨⟨u.now, u.now, false, false⟩, ?_, ⟨rfl, rfl, rfl⟩, hnow⟩
  rw [c2, List.getElem?_map, b2, a2]
  unfold flushW
  rw [if_neg (by omega)]
  unfold mapR
  rw [List.getElem?_mapIdx, hu]
  simp only [Option.map_some]
  rw [if_pos (by omega)]
  simp only [Wd.fenced, Wd.flushed, hp, cond_true]
end Go.Proofs.Ytlpgegglobhclaa
