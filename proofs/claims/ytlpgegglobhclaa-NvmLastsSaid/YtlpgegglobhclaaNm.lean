/- The memory that lasts, byte by byte: what is stored, and read (no program in sight but the cells). -/
import Derived.Test.YtlpgegglobhclaaNv6
import Derived.Test.YtlpgegglobhclaaW5
set_option linter.unusedVariables false
set_option linter.unusedSimpArgs false
namespace Go.Proofs.Ytlpgegglobhclaa
open Go

def Wd.put (j : Nat) (c : UInt8) (w : Wd) : Wd := { w with now := w.now.set j c }
def Wd.tam (j : Nat) (c : UInt8) (w : Wd) : Wd := { w with now := w.now.set j c, lasts := w.lasts.set j c }
theorem Wd.put_ok (j : Nat) (c : UInt8) {w : Wd} (h : w.Ok) : (w.put j c).Ok := ⟨⟨h.1.1, by simp [Wd.put, h.1.2]⟩, h.2⟩
theorem Wd.tam_ok (j : Nat) (c : UInt8) {w : Wd} (h : w.Ok) : (w.tam j c).Ok := ⟨⟨by simp [Wd.tam, h.1.1], by simp [Wd.tam, h.1.2]⟩, h.2⟩
/-- Bytes that come one behind the other, each into its word. -/
def modB (f : Nat → UInt8 → Wd → Wd) (ws : List Wd) (i : Nat) (c : UInt8) : List Wd := ws.modify (i / 8) (f (i % 8) c)
def modL (f : Nat → UInt8 → Wd → Wd) : List Wd → Nat → List UInt8 → List Wd
  | ws, _, [] => ws
  | ws, i, c :: t => modL f (modB f ws i c) (i + 1) t
theorem modL_snoc (f : Nat → UInt8 → Wd → Wd) : ∀ (l : List UInt8) (ws : List Wd) (i : Nat) (c : UInt8), modL f ws i (l ++ [c]) = modB f (modL f ws i l) (i + l.length) c
  | [], ws, i, c => rfl
  | x :: l, ws, i, c => by
    show modL f (modB f ws i x) (i + 1) (l ++ [c]) = _
    rw [modL_snoc f l]
    show modB f (modL f (modB f ws i x) (i + 1) l) (i + 1 + l.length) c = modB f (modL f (modB f ws i x) (i + 1) l) (i + (l.length + 1)) c
    congr 1; omega
theorem modB_len (f : Nat → UInt8 → Wd → Wd) (ws : List Wd) (i : Nat) (c : UInt8) : (modB f ws i c).length = ws.length := by simp [modB]
theorem modL_len (f : Nat → UInt8 → Wd → Wd) : ∀ (l : List UInt8) (ws : List Wd) (i : Nat), (modL f ws i l).length = ws.length
  | [], ws, i => rfl
  | x :: l, ws, i => by show (modL f (modB f ws i x) (i + 1) l).length = _; rw [modL_len f l, modB_len]
theorem modify_ok {f : Wd → Wd} (hf : ∀ w, w.Ok → (f w).Ok) {ws : List Wd} (m : Nat) (h : ∀ w ∈ ws, w.Ok) : ∀ w ∈ ws.modify m f, w.Ok := by
  intro w hw
  obtain ⟨k, hk⟩ := List.mem_iff_getElem?.1 hw
  rw [List.getElem?_modify] at hk
  cases hu : ws[k]? with
  | none => rw [hu] at hk; simp at hk
  | some u =>
    rw [hu] at hk
    have hm := h u (List.mem_of_getElem? hu)
    simp only [Option.map_eq_map, Option.map_some, Option.some.injEq] at hk
    rw [← hk]
    split
    · exact hf u hm
    · exact hm
theorem modL_ok {f : Nat → UInt8 → Wd → Wd} (hf : ∀ j c w, w.Ok → (f j c w).Ok) : ∀ (l : List UInt8) (ws : List Wd) (i : Nat), (∀ w ∈ ws, w.Ok) → ∀ w ∈ modL f ws i l, w.Ok
  | [], ws, i, h => h
  | x :: l, ws, i, h => modL_ok hf l _ _ (modify_ok (hf _ _) _ h)

/-! ### Cells -/
theorem ws_get {ws : List Wd} (hok : ∀ w ∈ ws, w.Ok) {m j : Nat} {u : Wd} (hu : ws[m]? = some u) (hj : j < 18) : (ws.flatMap wc)[m * 18 + j]? = (wc u)[j]? := by
  have hm : m < ws.length := (List.getElem?_eq_some_iff.1 hu).1
  have hA : ((ws.take m).flatMap wc).length = m * 18 := by
    rw [fm_len wc 18 _ (fun w hw => wc_len (hok w (List.mem_of_mem_take hw)).1), List.length_take]; congr 1; omega
  rw [fm_split wc ws m u hu]
  exact get_mid _ _ _ j _ (by omega) (by rw [wc_len (hok u (List.mem_of_getElem? hu)).1]; exact hj)
theorem ws_set {ws : List Wd} (hok : ∀ w ∈ ws, w.Ok) {m j : Nat} {u u' : Wd} {v : Value} (hu : ws[m]? = some u) (hj : j < 18) (h : (wc u).set j v = wc u') : (ws.flatMap wc).set (m * 18 + j) v = (ws.set m u').flatMap wc := by
  have hm : m < ws.length := (List.getElem?_eq_some_iff.1 hu).1
  have hA : ((ws.take m).flatMap wc).length = m * 18 := by
    rw [fm_len wc 18 _ (fun w hw => wc_len (hok w (List.mem_of_mem_take hw)).1), List.length_take]; congr 1; omega
  rw [fm_split wc ws m u hu, set_mid _ _ _ j _ v (by omega) (by rw [wc_len (hok u (List.mem_of_getElem? hu)).1]; exact hj), h, fm_set wc ws m u' hm]
theorem ws_len {ws : List Wd} (hok : ∀ w ∈ ws, w.Ok) : (ws.flatMap wc).length = ws.length * 18 := fm_len wc 18 _ (fun w hw => wc_len (hok w hw).1)
theorem wc_byte {u : Wd} (h : u.Len) {j : Nat} (hj : j < 8) : (wc u)[8 + j]? = u.now[j]?.map bv ∧ (wc u)[j]? = u.lasts[j]?.map bv := by
  unfold wc
  have h1 : (u.lasts.map bv).length = 8 := by simpa using h.1
  have h2 : (u.now.map bv).length = 8 := by simpa using h.2
  constructor
  · rw [List.getElem?_append_right (by omega), h1, List.getElem?_append_left (by omega), List.getElem?_map]
    congr 2; omega
  · rw [List.getElem?_append_left (by omega), List.getElem?_map]
theorem wc_setB {u : Wd} (h : u.Len) {j : Nat} (hj : j < 8) (c : UInt8) : (wc u).set (8 + j) (bv c) = wc (u.put j c) ∧ (wc u).set j (bv c) = wc { u with lasts := u.lasts.set j c } := by
  unfold wc Wd.put
  have h1 : (u.lasts.map bv).length = 8 := by simpa using h.1
  have h2 : (u.now.map bv).length = 8 := by simpa using h.2
  constructor
  · rw [List.set_append_right _ _ (by omega), h1, List.set_append_left _ _ (by omega), List.map_set]
    congr 3; omega
  · rw [List.set_append_left _ _ (by omega), List.map_set]
theorem modify_set {ws : List Wd} {m : Nat} {u : Wd} (f : Wd → Wd) (hu : ws[m]? = some u) : ws.modify m f = ws.set m (f u) := by
  apply List.ext_getElem?
  intro k
  rw [List.getElem?_modify, List.getElem?_set]
  by_cases hk : m = k
  · subst hk
    obtain ⟨hm, rfl⟩ := List.getElem?_eq_some_iff.1 hu
    simp [hm]
  · simp [hk]
/-- The bytes as they are read. -/
def nowB (ws : List Wd) : List UInt8 := ws.flatMap Wd.now
def lastB (ws : List Wd) : List UInt8 := ws.flatMap Wd.lasts
theorem fmU {α : Type} (f : Wd → List α) {ws : List Wd} (hf : ∀ w ∈ ws, (f w).length = 8) {m j : Nat} {u : Wd} (hu : ws[m]? = some u) (hj : j < 8) : (ws.flatMap f)[m * 8 + j]? = (f u)[j]? := by
  induction ws generalizing m with
  | nil => simp at hu
  | cons w t ih =>
    have hw := hf w (by simp)
    rw [List.flatMap_cons]
    cases m with
    | zero => simp at hu; subst hu; rw [List.getElem?_append_left (by omega)]; congr 1; omega
    | succ m =>
      rw [List.getElem?_append_right (by omega), hw]
      have := ih (fun x hx => hf x (by simp [hx])) (m := m) (by simpa using hu)
      rw [← this]; congr 1; omega
theorem fmU_len {α : Type} (f : Wd → List α) : ∀ {ws : List Wd}, (∀ w ∈ ws, (f w).length = 8) → (ws.flatMap f).length = 8 * ws.length
  | [], _ => rfl
  | w :: t, h => by rw [List.flatMap_cons, List.length_append, h w (by simp), fmU_len f (fun x hx => h x (by simp [hx])), List.length_cons]; omega
theorem nowB_get {ws : List Wd} (hok : ∀ w ∈ ws, w.Ok) {i : Nat} {u : Wd} (hu : ws[i / 8]? = some u) : (nowB ws)[i]? = u.now[i % 8]? := by
  have := fmU Wd.now (fun w hw => (hok w hw).1.2) hu (Nat.mod_lt i (by decide : 0 < 8))
  rw [← this]; unfold nowB; congr 1; omega
theorem lastB_get {ws : List Wd} (hok : ∀ w ∈ ws, w.Ok) {i : Nat} {u : Wd} (hu : ws[i / 8]? = some u) : (lastB ws)[i]? = u.lasts[i % 8]? := by
  have := fmU Wd.lasts (fun w hw => (hok w hw).1.1) hu (Nat.mod_lt i (by decide : 0 < 8))
  rw [← this]; unfold lastB; congr 1; omega
theorem nowB_len {ws : List Wd} (hok : ∀ w ∈ ws, w.Ok) : (nowB ws).length = 8 * ws.length := fmU_len _ fun w hw => (hok w hw).1.2
theorem lastB_len {ws : List Wd} (hok : ∀ w ∈ ws, w.Ok) : (lastB ws).length = 8 * ws.length := fmU_len _ fun w hw => (hok w hw).1.1

/-! ### The acts -/
def Dv.setWs (σ : Dv) (ws : List Wd) : Dv := { σ with ws := ws }
def storeW (ws : List Wd) (i : Nat) (bs : List UInt8) : List Wd := if bs.length = 0 then ws else mapR Wd.stored (i / 8) ((i + bs.length - 1) / 8 + 1) (modL Wd.put ws i bs)
def Dv.store (σ : Dv) (i : Int) (bs : List UInt8) : Dv := if σ.rdy i bs.length = 0 then (if σ.actE = 0 then (σ.act (1, i, bs.length)).setWs (storeW (σ.act (1, i, bs.length)).ws i.toNat bs) else σ.act (1, i, bs.length)) else σ
def Dv.actR (σ : Dv) (i n : Int) : Int := if σ.rdy i n = 0 then σ.actE else σ.rdy i n
def flushW (ws : List Wd) (i n : Nat) : List Wd := if n = 0 then ws else mapR Wd.flushed (i / 64 * 8) (((i + n - 1) / 64 + 1) * 8) ws
def Dv.flush (σ : Dv) (i n : Int) : Dv := if σ.rdy i n = 0 then (if σ.actE = 0 then (σ.act (2, i, n)).setWs (flushW (σ.act (2, i, n)).ws i.toNat n.toNat) else σ.act (2, i, n)) else σ
def Dv.fence (σ : Dv) : Dv := if σ.rdy 0 0 = 0 then (if σ.actE = 0 then (σ.act (3, 0, 0)).setWs ((σ.act (3, 0, 0)).ws.map Wd.fenced) else σ.act (3, 0, 0)) else σ
def Dv.tamB (σ : Dv) (i : Int) (n : Nat) : Bool := decide (0 ≤ i ∧ n ≤ σ.len ∧ i ≤ (σ.len : Int) - n)
def Dv.tam (σ : Dv) (i : Int) (bs : List UInt8) : Dv := if σ.tamB i bs.length = true then σ.setWs (modL Wd.tam σ.ws i.toNat bs) else σ
theorem Dv.setWs_ok {σ : Dv} {ws : List Wd} (h : σ.Ok) (hn : ws.length = σ.ws.length) (hok : ∀ w ∈ ws, w.Ok) : (σ.setWs ws).Ok := ⟨by show ws.length ≤ _; rw [hn]; exact h.n, hok, h.f0, h.f1, h.a⟩
theorem storeW_len (ws : List Wd) (i : Nat) (bs : List UInt8) : (storeW ws i bs).length = ws.length := by
  unfold storeW
  split
  · rfl
  · rw [mapR_len, modL_len]
theorem storeW_ok {ws : List Wd} (i : Nat) (bs : List UInt8) (h : ∀ w ∈ ws, w.Ok) : ∀ w ∈ storeW ws i bs, w.Ok := by
  unfold storeW
  split
  · exact h
  · exact mapR_ok (fun w => Wd.stored_ok) _ _ (modL_ok (fun j c w => Wd.put_ok j c) bs ws i h)
theorem mapR_all (h : Wd → Wd) (ws : List Wd) : mapR h 0 ws.length ws = ws.map h := by
  apply List.ext_getElem?
  intro i
  simp only [mapR, List.getElem?_mapIdx, List.getElem?_map]
  cases hw : ws[i]? with
  | none => rfl
  | some w =>
    have := (List.getElem?_eq_some_iff.1 hw).1
    simp only [Option.map_some]; rw [if_pos (by omega)]
/-- The words do not get more or less. -/
theorem crash_wl (q : List UInt8) (σ : Dv) : (σ.crash q).ws.length = σ.ws.length := by unfold Dv.crash; cases σ.down <;> simp [crashL_len]
theorem act_wl (σ : Dv) (a : Int × Int × Int) : (σ.act a).ws.length = σ.ws.length := by
  unfold Dv.act Dv.push
  split
  · split
    · rw [crash_wl]
    · split <;> rfl
  · split <;> rfl
theorem rdy_zero {σ : Dv} {x n : Int} (h : σ.rdy x n = 0) : σ.down = false ∧ 0 ≤ x ∧ 0 ≤ n ∧ n ≤ σ.len ∧ x ≤ σ.len - n := by
  unfold Dv.rdy at h
  split at h
  · cases h
  · rename_i hd
    split at h
    · cases h
    · exact ⟨by simpa using hd, by omega, by omega, by omega, by omega⟩
end Go.Proofs.Ytlpgegglobhclaa
