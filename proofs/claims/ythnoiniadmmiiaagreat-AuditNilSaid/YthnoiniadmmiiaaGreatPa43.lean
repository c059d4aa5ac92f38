/- The two ciphers are alike: the plain law. -/
import Derived.Test.YthnoiniadmmiiaaGreatPa18
import Derived.Test.YthnoiniadmmiiaaGreatPa25
import Derived.Test.YthnoiniadmmiiaaGreatPa26
set_option linter.unusedVariables false
set_option linter.unusedSimpArgs false
set_option linter.unusedSectionVars false
namespace Go.Proofs.YthnoiniadmmiiaaGreat
open Go
namespace Ae
set_option maxRecDepth 100000
theorem B_eq (x : UInt8) : Rg.B x = Aes.S x := by unfold Rg.B Aes.S; rw [sub_eq]
theorem T_eq (x : UInt8) : Rg.T x = Gf.twice x := twL_at x
theorem subT_eq (w : List UInt8) : Rg.subT Rg.subL w = Aes.subW w := by unfold Rg.subT Aes.subW; rw [sub_eq]; rfl
/-- The powers. -/
def pwN : Nat → UInt8
  | 0 => 1
  | m + 1 => if (4 + m) % 4 = 0 then Gf.twice (pwN m) else pwN m
theorem pwN_eq : ∀ m, m < 41 → m % 4 = 0 → pwN m = Gf.pow 2 ((4 + m) / 4 - 1) := by decide +kernel
theorem grow_eq (ws : List (List UInt8)) (hl : ws.length = 4) : ∀ m, m ≤ 40 → Rg.grow Rg.subL Rg.twL 4 ws m = (Aes.grow 4 ws m, pwN m)
  | 0, _ => rfl
  | m + 1, h => by
    have hN : ∀ w, Rg.nextW Rg.subL w (pwN m) (4 + m) 4 = Aes.nextW w (4 + m) 4 := fun w => by
      unfold Rg.nextW Aes.nextW
      rw [if_neg (show ¬ (6 < 4 ∧ (4 + m) % 4 = 4) by omega), if_neg (show ¬ (4 = 8 ∧ (4 + m) % 8 = 4) by omega)]
      by_cases hm : (4 + m) % 4 = 0
      · rw [if_pos hm, if_pos hm, subT_eq, pwN_eq m (by omega) (by omega)]
      · rw [if_neg hm, if_neg hm]
    have hP : Rg.nextP Rg.twL (pwN m) (4 + m) 4 = pwN (m + 1) := by
      unfold Rg.nextP
      rw [twL_at]
      rfl
    unfold Rg.grow Aes.grow
    rw [grow_eq ws hl m (by omega), hl, hN, hP]
theorem sched_eq (k : List UInt8) (h : k.length = 16) : Rg.sched k = Aes.sched k := by
  unfold Rg.sched Aes.sched
  rw [h]
  rw [grow_eq _ (by unfold Aes.keyW; simp) _ (by decide)]
theorem getD_map {f : Nat → UInt8} {k : Nat} (h : k < 16) : ((List.range 16).map f).getD k 0 = f k := by
  rw [List.getD_eq_getElem?_getD, List.getElem?_map, List.getElem?_range h]; rfl
/-- Row by row, and column by column. -/
def tp (i : Nat) : Nat := i % 4 * 4 + i / 4
theorem mixN_at (x : List UInt8) (hx : x.length = 16) (k : Nat) (hk : k < 16) : (Aes.mixX x).getD k 0 = Aes.mixK ((x.drop (4 * (k / 4))).take 4) (k % 4) := by
  have e : Aes.mixX x = (List.range 16).map fun k => Aes.mixK ((x.drop (4 * (k / 4))).take 4) (k % 4) := by
    unfold Aes.mixX Aes.mixN
    rw [List.drop_eq_nil_of_le (by omega), List.append_nil]
    rfl
  rw [e, getD_map hk]
theorem col_at (x : List UInt8) (c j : Nat) (hj : j < 4) : ((x.drop (4 * c)).take 4).getD j 0 = x.getD (4 * c + j) 0 := by
  rw [List.getD_eq_getElem?_getD, List.getElem?_take, if_pos hj, List.getElem?_drop, List.getD_eq_getElem?_getD]
theorem mix8 (a b c d y z : UInt8) : a ^^^ b ^^^ c ^^^ d ^^^ y ^^^ Gf.twice (y ^^^ z) = Gf.twice y ^^^ Gf.twice z ^^^ (a ^^^ b ^^^ c ^^^ d ^^^ y) := by rw [twice_x]; exact UInt8.xor_comm ..
theorem subX_at (x : List UInt8) {k : Nat} (h : k < 16) : (Aes.subX x).getD k 0 = Aes.S (x.getD k 0) := getD_map h
theorem shiftX_at (x : List UInt8) {k : Nat} (h : k < 16) : (Aes.shiftX x).getD k 0 = x.getD ((k + 4 * (k % 4)) % 16) 0 := getD_map h
theorem keyX_at (ws : List (List UInt8)) (r : Nat) (x : List UInt8) {k : Nat} (h : k < 16) : (Aes.keyX ws r x).getD k 0 = x.getD k 0 ^^^ ws.flatten.getD ((4 * r + k / 4) * 4 + k % 4) 0 := getD_map h
/-- What is sub'ed and shifted. -/
theorem eS_eq (x : List UInt8) (s : Nat → UInt8) (hs : ∀ i, i < 16 → s i = x.getD (tp i) 0) (i : Nat) (hi : i < 16) : Rg.eS s i = (Aes.shiftX (Aes.subX x)).getD (tp i) 0 := by
  unfold Rg.eS
  have ht : tp i < 16 := by unfold tp; omega
  have hk : ∀ i, i < 16 → tp (i / 4 * 4 + (i % 4 + i / 4) % 4) = (tp i + 4 * (tp i % 4)) % 16 := by decide
  rw [B_eq, hs _ (by omega), shiftX_at _ ht, subX_at _ (by omega), hk i hi]
set_option maxHeartbeats 1000000 in
theorem eM_eq (x : List UInt8) (hx : x.length = 16) (s : Nat → UInt8) (hs : ∀ i, i < 16 → s i = x.getD (tp i) 0) (i : Nat) (hi : i < 16) : Rg.eM s i = (Aes.mixX x).getD (tp i) 0 := by
  have ht : tp i < 16 := by unfold tp; omega
  unfold Rg.eM
  rw [mixN_at x hx _ ht, T_eq, T_eq, hs i hi, hs _ (by omega), hs _ (by omega), hs _ (by omega)]
  unfold Aes.mixK
  rw [col_at _ _ 0 (by decide), col_at _ _ 1 (by decide), col_at _ _ 2 (by decide), col_at _ _ 3 (by decide), col_at _ _ (tp i % 4) (by omega), col_at _ _ ((tp i % 4 + 1) % 4) (by omega), mix8]
  have h1 : tp i / 4 = i % 4 := by unfold tp; omega
  have h2 : tp i % 4 = i / 4 := by unfold tp; omega
  have e0 : tp i = 4 * (i % 4) + i / 4 := by unfold tp; omega
  have e1 : tp ((i / 4 + 1) % 4 * 4 + i % 4) = 4 * (i % 4) + (i / 4 + 1) % 4 := by unfold tp; omega
  have e2 : tp ((i / 4 + 2) % 4 * 4 + i % 4) = 4 * (i % 4) + (i / 4 + 2) % 4 := by unfold tp; omega
  have e3 : tp ((i / 4 + 3) % 4 * 4 + i % 4) = 4 * (i % 4) + (i / 4 + 3) % 4 := by unfold tp; omega
  rw [h1, h2, e0, e1, e2, e3]
  generalize hc : 4 * (i % 4) = c
  have key : ∀ a b c d : UInt8, a ^^^ b ^^^ c ^^^ d ^^^ a = b ^^^ c ^^^ d := fun a b c d => by
    rw [UInt8.xor_comm (a ^^^ b ^^^ c ^^^ d) a, UInt8.xor_assoc (a ^^^ b), UInt8.xor_assoc a, ← UInt8.xor_assoc a a, UInt8.xor_self, UInt8.zero_xor, UInt8.xor_assoc b]
  have sum4 : ∀ f : Nat → UInt8, ∀ r, r < 4 → f 0 ^^^ f 1 ^^^ f 2 ^^^ f 3 ^^^ f r = f ((r + 1) % 4) ^^^ f ((r + 2) % 4) ^^^ f ((r + 3) % 4) := fun f r hr => by
    have c3 : ∀ x y z w : UInt8, x ^^^ y ^^^ z ^^^ w = y ^^^ z ^^^ w ^^^ x := fun x y z w => by rw [UInt8.xor_assoc (x ^^^ y), UInt8.xor_assoc x, UInt8.xor_comm x, ← UInt8.xor_assoc y]
    rcases (by omega : r = 0 ∨ r = 1 ∨ r = 2 ∨ r = 3) with rfl | rfl | rfl | rfl
    · exact key (f 0) (f 1) (f 2) (f 3)
    · rw [c3 (f 0)]; exact key (f 1) (f 2) (f 3) (f 0)
    · rw [c3 (f 0), c3 (f 1)]; exact key (f 2) (f 3) (f 0) (f 1)
    · rw [c3 (f 0), c3 (f 1), c3 (f 2)]; exact key (f 3) (f 0) (f 1) (f 2)
  rw [show x.getD (c + 0) 0 ^^^ x.getD (c + 1) 0 ^^^ x.getD (c + 2) 0 ^^^ x.getD (c + 3) 0 ^^^ x.getD (c + i / 4) 0 = _ from sum4 (fun j => x.getD (c + j) 0) (i / 4) (by omega)]
  simp only [UInt8.xor_assoc]
theorem st_eq (ws : List (List UInt8)) (R : Nat) (x : List UInt8) : ∀ n, n < R → ∀ i, i < 16 → Rg.st ws R x n i = (Aes.rnds ws x n).getD (tp i) 0
  | 0, _, i, hi => by
    show Rg.e0 ws x i = (Aes.keyX ws 0 x).getD (tp i) 0
    rw [keyX_at _ _ _ (by unfold tp; omega)]
    unfold Rg.e0
    congr 2
    unfold tp
    omega
  | n + 1, hn, i, hi => by
    show Rg.eA ws (n + 1) (Rg.eT R (n + 1) (Rg.st ws R x n)) i = (Aes.keyX ws (n + 1) (Aes.mixX (Aes.shiftX (Aes.subX (Aes.rnds ws x n))))).getD (tp i) 0
    rw [keyX_at _ _ _ (by unfold tp; omega)]
    unfold Rg.eA Rg.eT
    rw [if_pos hn, eM_eq _ (by unfold Aes.shiftX; simp) _ (eS_eq _ _ (st_eq ws R x n (by omega))) i hi]
    congr 2
    unfold tp
    omega
theorem enc_eq (ws : List (List UInt8)) (n : Nat) (hn : 1 ≤ n) (x : List UInt8) : Rg.enc ws n x = Aes.enc ws n x := by
  obtain ⟨m, rfl⟩ : ∃ m, n = m + 1 := ⟨n - 1, by omega⟩
  unfold Rg.enc fnL Aes.enc Aes.keyX
  apply List.map_congr_left
  intro k hk
  have hk := List.mem_range.1 hk
  show Rg.eA ws (m + 1) (Rg.eT (m + 1) (m + 1) (Rg.st ws (m + 1) x m)) (k % 4 * 4 + k / 4) = Aes.keyF ws (m + 1) (Aes.shiftX (Aes.subX (Aes.rnds ws x (m + 1 - 1)))) k
  unfold Rg.eA Rg.eT Aes.keyF
  rw [if_neg (by omega), eS_eq _ _ (st_eq ws (m + 1) x m (by omega)) _ (by omega), Nat.add_sub_cancel]
  congr 2
  · unfold tp; omega
  · omega
theorem encs (k : List UInt8) (h : k.length = 16) (n : Nat) (hn : 1 ≤ n) : Rg.enc (Rg.sched k) n = Aes.enc (Aes.sched k) n := by
  funext x
  rw [sched_eq k h, enc_eq _ _ hn]
end Ae
end Go.Proofs.YthnoiniadmmiiaaGreat
