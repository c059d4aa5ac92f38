/- The plain law of the device, for NvmTorn and NvmLasts. -/
import Derived.Test.YtlpgegglobhclaaNt
import Derived.Test.YtlpgegglobhclaaW6
set_option linter.unusedVariables false
set_option linter.unusedSimpArgs false
namespace Go.Proofs.Ytlpgegglobhclaa
open Go

theorem new_live (n : Int) : (Dv.new n).Live := ⟨rfl, rfl⟩
theorem new_Q (n : Int) : ∀ w ∈ (Dv.new n).ws, w.Q := fun w hw => by
  simp only [Dv.new, List.mem_replicate] at hw
  rw [hw.2]; intro _; rfl
theorem ps_Q (j : Nat) (c : UInt8) (w : Wd) (h : w.Q) : (w.ps j c).Q := fun hp => by cases hp
theorem flushW_all {ws : List Wd} {n : Nat} (hn : 0 < n) (h : ws.length = ((n - 1) / 64 + 1) * 8) : flushW ws 0 n = ws.map Wd.flushed := by
  unfold flushW
  rw [if_neg (by omega), show 0 / 64 * 8 = 0 from rfl, Nat.zero_add, ← h, mapR_all]
/-- Bytes that are stored, flushed with all lines, and fenced. -/
theorem torn_start (bs : List UInt8) (hb : bs.length ≤ 128) : let σ := (((Dv.new 2).store (0 : Nat) bs).flush (0 : Nat) (128 : Nat)).fence
    σ.Live ∧ σ.ws.length = 16 ∧ nowB σ.ws = lastB σ.ws ∧ (Dv.new 2).actR (0 : Nat) bs.length = 0 ∧ ((Dv.new 2).store (0 : Nat) bs).actR (0 : Nat) (128 : Nat) = 0 ∧ (((Dv.new 2).store (0 : Nat) bs).flush (0 : Nat) (128 : Nat)).actR 0 0 = 0 ∧ ((Dv.new 2).store (0 : Nat) bs).ws.length = 16 := by
  have l0 : (Dv.new 2).ws.length = 16 := rfl
  have hlen : (Dv.new 2).len = 128 := rfl
  obtain ⟨a1, a2, a3⟩ := (new_live 2).store (i := 0) (bs := bs) (by omega)
  have l1 : ((Dv.new 2).store (0 : Nat) bs).ws.length = 16 := by rw [a2, modL_len]; exact l0
  obtain ⟨b1, b2, b3⟩ := a1.flush (i := 0) (n := 128) (by show 0 + 128 ≤ 8 * _; rw [l1]; decide)
  obtain ⟨c1, c2, c3⟩ := b1.fence
  have hQ : ∀ w ∈ ((Dv.new 2).store (0 : Nat) bs).ws, w.Q := by rw [a2]; exact modL_prop ps_Q bs _ _ (new_Q 2)
  have hf : (((Dv.new 2).store (0 : Nat) bs).flush (0 : Nat) (128 : Nat)).ws = ((Dv.new 2).store (0 : Nat) bs).ws.map Wd.flushed := by rw [b2, flushW_all (by decide) (by rw [l1])]
  have hall : ∀ w ∈ (((Dv.new 2).store (0 : Nat) bs).flush (0 : Nat) (128 : Nat)).ws, w.Q ∧ w.mark = w.pend := by
    rw [hf]
    intro w hw
    obtain ⟨u, hu, rfl⟩ := List.mem_map.1 hw
    exact ⟨hQ u hu, rfl⟩
  obtain ⟨d1, d2⟩ := fenced_all hall
  refine ⟨c1, by rw [c2, List.length_map, hf, List.length_map, l1], ?_, a3, b3, c3, l1⟩
  rw [c2, d1, d2]
theorem and127 (n : Int) : ∃ i : Nat, i ≤ 127 ∧ IntKind.i64.wrap (((BitVec.ofInt IntKind.i64.bits n &&& BitVec.ofInt IntKind.i64.bits 127).toNat : Nat) : Int) = (i : Int) := by
  refine ⟨(BitVec.ofInt IntKind.i64.bits n &&& BitVec.ofInt IntKind.i64.bits 127).toNat, ?_, ?_⟩
  · rw [BitVec.toNat_and]
    exact Nat.le_trans Nat.and_le_right (by decide)
  · refine w64 ⟨by omega, ?_⟩
    have : (BitVec.ofInt IntKind.i64.bits n &&& BitVec.ofInt IntKind.i64.bits 127).toNat ≤ 127 := by
      rw [BitVec.toNat_and]
      exact Nat.le_trans Nat.and_le_right (by decide)
    omega
theorem spl_len {l bs : List UInt8} {i : Nat} (h : i + bs.length ≤ l.length) : (spl l i bs).length = l.length := by
  unfold spl; simp; omega
/-- Word j of bytes. -/
def w8 (l : List UInt8) (j : Nat) : List UInt8 := (l.drop (8 * j)).take 8
theorem w8_of (f : Wd → List UInt8) {ws : List Wd} (hf : ∀ w ∈ ws, (f w).length = 8) {j : Nat} {u : Wd} (hu : ws[j]? = some u) : w8 (ws.flatMap f) j = f u := by
  have hk : j < ws.length := (List.getElem?_eq_some_iff.1 hu).1
  have e : ws.flatMap f = (ws.take j).flatMap f ++ (f u ++ (ws.drop (j + 1)).flatMap f) := by
    have h1 : ws = ws.take j ++ (u :: ws.drop (j + 1)) := by
      obtain ⟨hk, rfl⟩ := List.getElem?_eq_some_iff.1 hu
      rw [List.getElem_cons_drop, List.take_append_drop]
    have h2 := congrArg (List.flatMap f) h1
    rwa [List.flatMap_append, List.flatMap_cons] at h2
  have hA : ((ws.take j).flatMap f).length = 8 * j := by
    rw [fmU_len f (fun w hw => hf w (List.mem_of_mem_take hw)), List.length_take]; congr 1; omega
  unfold w8
  rw [e, List.drop_left' hA, List.take_left' (hf u (List.mem_of_getElem? hu))]
theorem w8_row {l : List UInt8} {j : Nat} (hl : 8 * j + 8 ≤ l.length) (junk : List Value) : ((l.map bv ++ junk).drop (8 * j)).take (8 * j + 8 - 8 * j) = cbs (w8 l j) ∧ (w8 l j).length = 8 * j + 8 - 8 * j := by
  have e : 8 * j + 8 - 8 * j = 8 := by omega
  rw [e]
  constructor
  · rw [List.drop_append_of_le_length (by simp; omega), List.take_append_of_le_length (by simp; omega)]
    unfold w8
    rw [← List.map_drop, ← List.map_take]; rfl
  · unfold w8; simp; omega
theorem crash_w8 {τ : Dv} (h : τ.Ok) (hd : τ.down = false) (qs : List UInt8) {j : Nat} (hj : j < τ.ws.length) : w8 (lastB (τ.crash qs).ws) j = w8 (lastB τ.ws) j ∨ w8 (lastB (τ.crash qs).ws) j = w8 (nowB τ.ws) j := by
  obtain ⟨u, hu⟩ : ∃ u, τ.ws[j]? = some u := ⟨_, List.getElem?_eq_getElem hj⟩
  obtain ⟨u', h1, h2⟩ := crashL_word qs τ.ws 0 j u hu
  have hO := Dv.crash_ok qs h
  have hws : (τ.crash qs).ws = crashL qs 0 τ.ws := by unfold Dv.crash; rw [hd]; rfl
  have e1 := w8_of Wd.lasts (fun w hw => (hO.ok w hw).1.1) (ws := (τ.crash qs).ws) (j := j) (u := u') (by rw [hws]; exact h1)
  have e2 := w8_of Wd.lasts (fun w hw => (h.ok w hw).1.1) hu
  have e3 := w8_of Wd.now (fun w hw => (h.ok w hw).1.2) hu
  unfold lastB nowB
  rw [e1, e2, e3]
  exact h2
end Go.Proofs.Ytlpgegglobhclaa
