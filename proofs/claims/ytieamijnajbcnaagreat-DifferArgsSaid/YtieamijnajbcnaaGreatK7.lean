/- The document's bytes as polynomials: long products, the box bit by bit. -/
import Derived.Test.YtieamijnajbcnaaGreatK2
set_option linter.unusedVariables false
set_option linter.unusedSimpArgs false
namespace Go.Proofs.YtieamijnajbcnaaGreat
open Go
attribute [local irreducible] SW SL SQ SH SA SS Pu Fin CutF HandF

namespace Rg
def mulP (a b : UInt8) : Nat → Nat
  | 0 => 0
  | k + 1 => if b.toNat / 2 ^ k % 2 = 1 then mulP a b k ^^^ (a.toNat * 2 ^ k) else mulP a b k
def redP (p : Nat) : Nat → Nat
  | 0 => p
  | j + 1 => if redP p j / 2 ^ (14 - j) % 2 = 1 then redP p j ^^^ (283 * 2 ^ (6 - j)) else redP p j
def mul (a b : UInt8) : UInt8 := UInt8.ofNat (redP (mulP a b 8) 7)
def inv (a : UInt8) : UInt8 := UInt8.ofNat (((List.range 256).find? fun k => mul a (UInt8.ofNat k) == 1).getD 0)
def bit (c : UInt8) (k : Nat) : Nat := c.toNat / 2 ^ (k % 8) % 2
def bits (i : UInt8) (k : Nat) : Nat := bit i k + bit i (k + 4) + bit i (k + 5) + bit i (k + 6) + bit i (k + 7) + bit 99 k
def subO (i : UInt8) : Nat → Nat
  | 0 => 0
  | j + 1 => 2 * subO i j + bits i (7 - j) % 2
def sub (c : UInt8) : UInt8 := UInt8.ofNat (subO (inv c) 8)
theorem mulP_lt (a b : UInt8) (k : Nat) (hk : k ≤ 8) : mulP a b k < 2 ^ 15 := by
  induction k with
  | zero => exact Nat.two_pow_pos 15
  | succ k ih =>
    have h1 := ih (by omega)
    unfold mulP
    split
    · refine Nat.xor_lt_two_pow h1 ?_
      have ha : a.toNat < 256 := a.toNat_lt
      have h2 : 2 ^ k ≤ 2 ^ 7 := Nat.pow_le_pow_right (by decide) (by omega)
      have : a.toNat * 2 ^ k ≤ 255 * 2 ^ 7 := Nat.mul_le_mul (by omega) h2
      omega
    · exact h1
theorem redP_lt {p : Nat} (hp : p < 2 ^ 15) (j : Nat) : redP p j < 2 ^ 15 := by
  induction j with
  | zero => exact hp
  | succ j ih =>
    unfold redP
    split
    · refine Nat.xor_lt_two_pow ih ?_
      have h2 : 2 ^ (6 - j) ≤ 2 ^ 6 := Nat.pow_le_pow_right (by decide) (by omega)
      have : 283 * 2 ^ (6 - j) ≤ 283 * 2 ^ 6 := Nat.mul_le_mul (Nat.le_refl _) h2
      omega
    · exact ih
theorem subO_lt (i : UInt8) (j : Nat) : subO i j < 2 ^ j := by
  induction j with
  | zero => exact Nat.one_pos
  | succ j ih => unfold subO; have := Nat.mod_lt (bits i (7 - j)) (show 0 < 2 by decide); omega
end Rg
theorem xorI (m n : Nat) (hm : m < 2 ^ 62) (hn : n < 2 ^ 62) : UAr .xor .i64 (m : Int) (n : Int) ((m ^^^ n : Nat) : Int) := ⟨fun P w t => by
  have hx : m ^^^ n < 2 ^ 62 := Nat.xor_lt_two_pow hm hn
  have e : IntKind.i64.wrap (((BitVec.ofInt IntKind.i64.bits (m : Int) ^^^ BitVec.ofInt IntKind.i64.bits (n : Int)).toNat : Nat) : Int) = ((m ^^^ n : Nat) : Int) := by
    have h1 : ∀ z : Nat, z < 2 ^ 62 → (BitVec.ofInt IntKind.i64.bits (z : Int)).toNat = z := fun z hz => by
      show (BitVec.ofInt 64 (z : Int)).toNat = z
      rw [BitVec.toNat_ofInt]
      omega
    rw [BitVec.toNat_xor, h1 m hm, h1 n hn]
    exact w64 (by omega)
  simp only [binOp, Op.intBits, ne_eq, not_true_eq_false, if_false, Sem.run_pure]
  exact congrArg (fun z => Result.ok (Value.int .i64 z) w) e⟩
theorem shrI (m k : Nat) (hk : k ≤ 64) : UShr .i64 (m : Int) (k : Int) ((m / 2 ^ k : Nat) : Int) := ⟨by
  refine ⟨by omega, ?_⟩
  rw [Int.toNat_natCast, Nat.min_eq_left (by show k ≤ 64; omega), Int.fdiv_eq_ediv_of_nonneg _ (by exact_mod_cast Nat.zero_le _)]
  simp⟩
theorem shlI (m k : Nat) (hk : k ≤ 64) (h : m * 2 ^ k < 2 ^ 62) : UShl .i64 (m : Int) (k : Int) ((m * 2 ^ k : Nat) : Int) := ⟨by
  refine ⟨by omega, ?_⟩
  rw [Int.toNat_natCast, Nat.min_eq_left (by show k ≤ 64; omega)]
  have : (m : Int) * 2 ^ k = ((m * 2 ^ k : Nat) : Int) := by simp
  rw [this]
  exact w64 (by omega)⟩
theorem cvu (k : Nat) (h : k < 2 ^ 63) : Cv .u64 (k : Int) (k : Int) := ⟨by rw [wrapu64]; omega⟩

theorem rbit_p (c : UInt8) (k : Nat) (hk : k ≤ 1000) : Tri Tryz.prog 111 [u8v c, .int .i64 (k : Int)] [] (fun _ => True) (fun v H => v = .int .i64 (Rg.bit c k : Nat) ∧ H = []) := by
  refine Tri.mk Tryz.func111 rfl Tryz.ntmps111 rfl fun w hw => ?_
  have h8 : (k : Int) % 8 = ((k % 8 : Nat) : Int) := by omega
  haveI := shrI c.toNat (k % 8) (by omega)
  haveI : Cv .u64 ((k : Int) % 8) ((k % 8 : Nat) : Int) := by rw [h8]; exact cvu (k % 8) (by omega)
  have hc : c.toNat < 256 := c.toNat_lt
  rw [show Rg.bit c k = c.toNat / 2 ^ (k % 8) % 2 from rfl]
  generalize c.toNat / 2 ^ (k % 8) = y at *
  rw [show ((y % 2 : Nat) : Int) = (y : Int) % 2 by omega]
  (repeat' (first | refine W.mv ?_ | refine W.zl ?_ | refine W.fa ?_ | refine W.nl ?_ | refine W.as ?_ | refine W.zb ?_ | refine W.za ?_ | refine W.zi ?_ | refine W.zc ?_ | refine W.zp ?_ | refine W.st ?_ | refine SL.nilB ?_ | refine SL.nil ?_ | refine W.al fun b_ => ?_ | refine W.bx fun b_ => ?_ | refine W.bxa fun b_ => ?_ | refine W.sw ?_ | refine W.sa ?_ | refine W.sk ?_ | refine W.bs0 fun b_ => ?_ | refine W.ma fun b_ => ?_ | refine W.bsl fun b_ => ?_ | refine W.zu ?_ | refine W.zf ?_ | refine W.zd ?_ | refine W.zs ?_ | refine W.zv ?_ | refine W.zx ?_ | refine W.ex ?_ | refine W.mf ?_ | refine W.mk ?_ | refine SW.seq ?_ | refine SW.region ?_ | refine SW.block ?_ | refine SW.cond_t rfl ?_ | refine SW.cond_f rfl ?_ | refine SW.exit ?_ | refine SW.ret ?_ | refine SW.skip ?_))
  refine Fin.to [] ?_
  exact F.f1 ⟨rfl, rfl⟩
theorem rmul_p (a b : UInt8) : Tri Tryz.prog 74 [u8v a, u8v b] [] (fun _ => True) (fun v H => v = u8v (Rg.mul a b) ∧ H = []) := by
  refine Tri.mk Tryz.func74 rfl Tryz.ntmps74 rfl fun w hw => ?_
  have ha : a.toNat < 256 := a.toNat_lt
  have hb : b.toNat < 256 := b.toNat_lt
  have hP := Rg.mulP_lt a b 8 (Nat.le_refl _)
  (repeat' (first | refine W.mv ?_ | refine W.zl ?_ | refine W.fa ?_ | refine W.nl ?_ | refine W.as ?_ | refine W.zb ?_ | refine W.za ?_ | refine W.zi ?_ | refine W.zc ?_ | refine W.zp ?_ | refine W.st ?_ | refine SL.nilB ?_ | refine SL.nil ?_ | refine W.al fun b_ => ?_ | refine W.bx fun b_ => ?_ | refine W.bxa fun b_ => ?_ | refine W.sw ?_ | refine W.sa ?_ | refine W.sk ?_ | refine W.bs0 fun b_ => ?_ | refine W.ma fun b_ => ?_ | refine W.bsl fun b_ => ?_ | refine W.zu ?_ | refine W.zf ?_ | refine W.zd ?_ | refine W.zs ?_ | refine W.zv ?_ | refine W.zx ?_ | refine W.ex ?_ | refine W.mf ?_ | refine W.mk ?_ | refine SW.seq ?_ | refine SW.region ?_ | refine SW.cond_t rfl ?_ | refine SW.cond_f rfl ?_ | refine SW.exit ?_ | refine SW.ret ?_ | refine SW.skip ?_))
  refine SW.cut [] [] (fun _ : Unit => [(5, .int .i64 (Rg.mulP a b 8 : Nat))]) (fun _ => []) (fun _ => True) ?_ ?_
  · (repeat' (first | refine W.mv ?_ | refine W.zl ?_ | refine W.fa ?_ | refine W.nl ?_ | refine W.as ?_ | refine W.zb ?_ | refine W.za ?_ | refine W.zi ?_ | refine W.zc ?_ | refine W.zp ?_ | refine W.st ?_ | refine SL.nilB ?_ | refine SL.nil ?_ | refine W.al fun b_ => ?_ | refine W.bx fun b_ => ?_ | refine W.bxa fun b_ => ?_ | refine W.sw ?_ | refine W.sa ?_ | refine W.sk ?_ | refine W.bs0 fun b_ => ?_ | refine W.ma fun b_ => ?_ | refine W.bsl fun b_ => ?_ | refine W.zu ?_ | refine W.zf ?_ | refine W.zd ?_ | refine W.zs ?_ | refine W.zv ?_ | refine W.zx ?_ | refine W.ex ?_ | refine W.mf ?_ | refine W.mk ?_ | refine SW.seq ?_ | refine SW.region ?_ | refine SW.block ?_ | refine SW.cond_t rfl ?_ | refine SW.cond_f rfl ?_ | refine SW.exit ?_ | refine SW.ret ?_ | refine SW.skip ?_))
    refine SW.loopG [0, 1] [] (fun k : Nat => [(5, .int .i64 (Rg.mulP a b k : Nat)), (6, .int .i64 (2 ^ k : Nat)), (7, .int .i64 (k : Int))]) (fun _ => []) (fun k => 8 - k) (fun k => k ≤ 8) 0 (Nat.zero_le _) ?_
    intro k hk
    by_cases h : k < 8
    · have hp := Rg.mulP_lt a b k hk
      have h2 : 2 ^ k ≤ 2 ^ 7 := Nat.pow_le_pow_right (by decide) (by omega)
      have h20 : 0 < 2 ^ k := Nat.two_pow_pos k
      have h3 : a.toNat * 2 ^ k ≤ 255 * 2 ^ 7 := Nat.mul_le_mul (by omega) h2
      have hs : Rg.mulP a b (k + 1) = if b.toNat / 2 ^ k % 2 = 1 then Rg.mulP a b k ^^^ (a.toNat * 2 ^ k) else Rg.mulP a b k := rfl
      have h2s : 2 ^ (k + 1) = 2 * 2 ^ k := by rw [Nat.pow_succ]; omega
      generalize Rg.mulP a b k = p at *
      generalize 2 ^ k = w at *
      have hq : (b.toNat : Int) / (w : Int) = ((b.toNat / w : Nat) : Int) := by simp
      have hq0 : 0 ≤ (b.toNat : Int) / (w : Int) := by rw [hq]; exact Int.natCast_nonneg _
      have hw1 : (a.toNat : Int) * (w : Int) = ((a.toNat * w : Nat) : Int) := by simp
      haveI : UAr .xor .i64 (p : Int) ((a.toNat : Int) * (w : Int)) ((p ^^^ a.toNat * w : Nat) : Int) := by rw [hw1]; exact xorI p (a.toNat * w) (by omega) (by omega)
      by_cases hb1 : b.toNat / w % 2 = 1
      · rw [if_pos hb1] at hs
        have hb2 : (b.toNat : Int) / (w : Int) % 2 = 1 := by omega
        (repeat' (first | refine W.mv ?_ | refine W.zl ?_ | refine W.fa ?_ | refine W.nl ?_ | refine W.as ?_ | refine W.zb ?_ | refine W.za ?_ | refine W.zi ?_ | refine W.zc ?_ | refine W.zp ?_ | refine W.st ?_ | refine SL.nilB ?_ | refine SL.nil ?_ | refine W.al fun b_ => ?_ | refine W.bx fun b_ => ?_ | refine W.bxa fun b_ => ?_ | refine W.sw ?_ | refine W.sa ?_ | refine W.sk ?_ | refine W.bs0 fun b_ => ?_ | refine W.ma fun b_ => ?_ | refine W.bsl fun b_ => ?_ | refine W.zu ?_ | refine W.zf ?_ | refine W.zd ?_ | refine W.zs ?_ | refine W.zv ?_ | refine W.zx ?_ | refine W.ex ?_ | refine W.mf ?_ | refine W.mk ?_ | refine SW.seq ?_ | refine SW.region ?_ | refine SW.block ?_ | refine SW.cond_t rfl ?_ | refine SW.cond_f rfl ?_ | refine SW.exit ?_ | refine SW.ret ?_ | refine SW.skip ?_))
        rw [show (2 : Int) * (w : Int) = ((2 ^ (k + 1) : Nat) : Int) by rw [h2s]; omega]
        rw [← hs]
        refine HandF.mk (k + 1) ?_
        omega
      · rw [if_neg hb1] at hs
        have hb2 : ¬ (b.toNat : Int) / (w : Int) % 2 = 1 := by omega
        (repeat' (first | refine W.mv ?_ | refine W.zl ?_ | refine W.fa ?_ | refine W.nl ?_ | refine W.as ?_ | refine W.zb ?_ | refine W.za ?_ | refine W.zi ?_ | refine W.zc ?_ | refine W.zp ?_ | refine W.st ?_ | refine SL.nilB ?_ | refine SL.nil ?_ | refine W.al fun b_ => ?_ | refine W.bx fun b_ => ?_ | refine W.bxa fun b_ => ?_ | refine W.sw ?_ | refine W.sa ?_ | refine W.sk ?_ | refine W.bs0 fun b_ => ?_ | refine W.ma fun b_ => ?_ | refine W.bsl fun b_ => ?_ | refine W.zu ?_ | refine W.zf ?_ | refine W.zd ?_ | refine W.zs ?_ | refine W.zv ?_ | refine W.zx ?_ | refine W.ex ?_ | refine W.mf ?_ | refine W.mk ?_ | refine SW.seq ?_ | refine SW.region ?_ | refine SW.block ?_ | refine SW.cond_t rfl ?_ | refine SW.cond_f rfl ?_ | refine SW.exit ?_ | refine SW.ret ?_ | refine SW.skip ?_))
        rw [show (2 : Int) * (w : Int) = ((2 ^ (k + 1) : Nat) : Int) by rw [h2s]; omega]
        rw [← hs]
        refine HandF.mk (k + 1) ?_
        omega
    · have : k = 8 := by omega
      subst this
      (repeat' (first | refine W.mv ?_ | refine W.zl ?_ | refine W.fa ?_ | refine W.nl ?_ | refine W.as ?_ | refine W.zb ?_ | refine W.za ?_ | refine W.zi ?_ | refine W.zc ?_ | refine W.zp ?_ | refine W.st ?_ | refine SL.nilB ?_ | refine SL.nil ?_ | refine W.al fun b_ => ?_ | refine W.bx fun b_ => ?_ | refine W.bxa fun b_ => ?_ | refine W.sw ?_ | refine W.sa ?_ | refine W.sk ?_ | refine W.bs0 fun b_ => ?_ | refine W.ma fun b_ => ?_ | refine W.bsl fun b_ => ?_ | refine W.zu ?_ | refine W.zf ?_ | refine W.zd ?_ | refine W.zs ?_ | refine W.zv ?_ | refine W.zx ?_ | refine W.ex ?_ | refine W.mf ?_ | refine W.mk ?_ | refine SW.seq ?_ | refine SW.region ?_ | refine SW.block ?_ | refine SW.cond_t rfl ?_ | refine SW.cond_f rfl ?_ | refine SW.exit ?_ | refine SW.ret ?_ | refine SW.skip ?_))
      refine CutF.mk () ?_
      trivial
  rintro _ -
  generalize hq : Rg.mulP a b 8 = p at *
  have hq2 := Rg.redP_lt hP 7
  refine SW.seq ?_
  (repeat' (first | refine W.mv ?_ | refine W.zl ?_ | refine W.fa ?_ | refine W.nl ?_ | refine W.as ?_ | refine W.zb ?_ | refine W.za ?_ | refine W.zi ?_ | refine W.zc ?_ | refine W.zp ?_ | refine W.st ?_ | refine SL.nilB ?_ | refine SL.nil ?_ | refine W.al fun b_ => ?_ | refine W.bx fun b_ => ?_ | refine W.bxa fun b_ => ?_ | refine W.sw ?_ | refine W.sa ?_ | refine W.sk ?_ | refine W.bs0 fun b_ => ?_ | refine W.ma fun b_ => ?_ | refine W.bsl fun b_ => ?_ | refine W.zu ?_ | refine W.zf ?_ | refine W.zd ?_ | refine W.zs ?_ | refine W.zv ?_ | refine W.zx ?_ | refine W.ex ?_ | refine W.mf ?_ | refine W.mk ?_ | refine SW.seq ?_ | refine SW.region ?_ | refine SW.cond_t rfl ?_ | refine SW.cond_f rfl ?_ | refine SW.exit ?_ | refine SW.ret ?_ | refine SW.skip ?_))
  refine SW.cut [] [] (fun _ : Unit => [(5, .int .i64 (Rg.redP p 7 : Nat))]) (fun _ => []) (fun _ => True) ?_ ?_
  · (repeat' (first | refine W.mv ?_ | refine W.zl ?_ | refine W.fa ?_ | refine W.nl ?_ | refine W.as ?_ | refine W.zb ?_ | refine W.za ?_ | refine W.zi ?_ | refine W.zc ?_ | refine W.zp ?_ | refine W.st ?_ | refine SL.nilB ?_ | refine SL.nil ?_ | refine W.al fun b_ => ?_ | refine W.bx fun b_ => ?_ | refine W.bxa fun b_ => ?_ | refine W.sw ?_ | refine W.sa ?_ | refine W.sk ?_ | refine W.bs0 fun b_ => ?_ | refine W.ma fun b_ => ?_ | refine W.bsl fun b_ => ?_ | refine W.zu ?_ | refine W.zf ?_ | refine W.zd ?_ | refine W.zs ?_ | refine W.zv ?_ | refine W.zx ?_ | refine W.ex ?_ | refine W.mf ?_ | refine W.mk ?_ | refine SW.seq ?_ | refine SW.region ?_ | refine SW.block ?_ | refine SW.cond_t rfl ?_ | refine SW.cond_f rfl ?_ | refine SW.exit ?_ | refine SW.ret ?_ | refine SW.skip ?_))
    refine SW.loopG [] [] (fun j : Nat => [(5, .int .i64 (Rg.redP p j : Nat)), (8, .int .i64 (14 - (j : Int)))]) (fun _ => []) (fun j => 7 - j) (fun j => j ≤ 7) 0 (Nat.zero_le _) ?_
    intro j hj
    by_cases h : j < 7
    · have hr := Rg.redP_lt hP j
      have hs : Rg.redP p (j + 1) = if Rg.redP p j / 2 ^ (14 - j) % 2 = 1 then Rg.redP p j ^^^ (283 * 2 ^ (6 - j)) else Rg.redP p j := rfl
      generalize Rg.redP p j = x at *
      have h6 : 283 * 2 ^ (6 - j) ≤ 283 * 2 ^ 6 := Nat.mul_le_mul (Nat.le_refl _) (Nat.pow_le_pow_right (by decide) (by omega))
      haveI : Cv .u64 (14 - (j : Int)) ((14 - j : Nat) : Int) := by rw [show 14 - (j : Int) = ((14 - j : Nat) : Int) by omega]; exact cvu (14 - j) (by omega)
      haveI : Cv .u64 (14 - (j : Int) - 8) ((6 - j : Nat) : Int) := by rw [show 14 - (j : Int) - 8 = ((6 - j : Nat) : Int) by omega]; exact cvu (6 - j) (by omega)
      haveI := shrI x (14 - j) (by omega)
      haveI : UShl .i64 283 ((6 - j : Nat) : Int) ((283 * 2 ^ (6 - j) : Nat) : Int) := shlI 283 (6 - j) (by omega) (by omega)
      haveI := xorI x (283 * 2 ^ (6 - j)) (by omega) (by omega)
      by_cases hb1 : x / 2 ^ (14 - j) % 2 = 1
      · rw [if_pos hb1] at hs
        have hb2 : ((x / 2 ^ (14 - j) : Nat) : Int) % 2 = 1 := by omega
        generalize x / 2 ^ (14 - j) = y at *
        generalize 283 * 2 ^ (6 - j) = z at *
        (repeat' (first | refine W.mv ?_ | refine W.zl ?_ | refine W.fa ?_ | refine W.nl ?_ | refine W.as ?_ | refine W.zb ?_ | refine W.za ?_ | refine W.zi ?_ | refine W.zc ?_ | refine W.zp ?_ | refine W.st ?_ | refine SL.nilB ?_ | refine SL.nil ?_ | refine W.al fun b_ => ?_ | refine W.bx fun b_ => ?_ | refine W.bxa fun b_ => ?_ | refine W.sw ?_ | refine W.sa ?_ | refine W.sk ?_ | refine W.bs0 fun b_ => ?_ | refine W.ma fun b_ => ?_ | refine W.bsl fun b_ => ?_ | refine W.zu ?_ | refine W.zf ?_ | refine W.zd ?_ | refine W.zs ?_ | refine W.zv ?_ | refine W.zx ?_ | refine W.ex ?_ | refine W.mf ?_ | refine W.mk ?_ | refine SW.seq ?_ | refine SW.region ?_ | refine SW.block ?_ | refine SW.cond_t rfl ?_ | refine SW.cond_f rfl ?_ | refine SW.exit ?_ | refine SW.ret ?_ | refine SW.skip ?_))
        rw [show (14 : Int) - (j : Int) - 1 = 14 - ((j + 1 : Nat) : Int) by omega]
        rw [← hs]
        refine HandF.mk (j + 1) ?_
        omega
      · rw [if_neg hb1] at hs
        have hb2 : ¬ ((x / 2 ^ (14 - j) : Nat) : Int) % 2 = 1 := by omega
        generalize x / 2 ^ (14 - j) = y at *
        (repeat' (first | refine W.mv ?_ | refine W.zl ?_ | refine W.fa ?_ | refine W.nl ?_ | refine W.as ?_ | refine W.zb ?_ | refine W.za ?_ | refine W.zi ?_ | refine W.zc ?_ | refine W.zp ?_ | refine W.st ?_ | refine SL.nilB ?_ | refine SL.nil ?_ | refine W.al fun b_ => ?_ | refine W.bx fun b_ => ?_ | refine W.bxa fun b_ => ?_ | refine W.sw ?_ | refine W.sa ?_ | refine W.sk ?_ | refine W.bs0 fun b_ => ?_ | refine W.ma fun b_ => ?_ | refine W.bsl fun b_ => ?_ | refine W.zu ?_ | refine W.zf ?_ | refine W.zd ?_ | refine W.zs ?_ | refine W.zv ?_ | refine W.zx ?_ | refine W.ex ?_ | refine W.mf ?_ | refine W.mk ?_ | refine SW.seq ?_ | refine SW.region ?_ | refine SW.block ?_ | refine SW.cond_t rfl ?_ | refine SW.cond_f rfl ?_ | refine SW.exit ?_ | refine SW.ret ?_ | refine SW.skip ?_))
        rw [show (14 : Int) - (j : Int) - 1 = 14 - ((j + 1 : Nat) : Int) by omega]
        rw [← hs]
        refine HandF.mk (j + 1) ?_
        omega
    · have : j = 7 := by omega
      subst this
      (repeat' (first | refine W.mv ?_ | refine W.zl ?_ | refine W.fa ?_ | refine W.nl ?_ | refine W.as ?_ | refine W.zb ?_ | refine W.za ?_ | refine W.zi ?_ | refine W.zc ?_ | refine W.zp ?_ | refine W.st ?_ | refine SL.nilB ?_ | refine SL.nil ?_ | refine W.al fun b_ => ?_ | refine W.bx fun b_ => ?_ | refine W.bxa fun b_ => ?_ | refine W.sw ?_ | refine W.sa ?_ | refine W.sk ?_ | refine W.bs0 fun b_ => ?_ | refine W.ma fun b_ => ?_ | refine W.bsl fun b_ => ?_ | refine W.zu ?_ | refine W.zf ?_ | refine W.zd ?_ | refine W.zs ?_ | refine W.zv ?_ | refine W.zx ?_ | refine W.ex ?_ | refine W.mf ?_ | refine W.mk ?_ | refine SW.seq ?_ | refine SW.region ?_ | refine SW.block ?_ | refine SW.cond_t rfl ?_ | refine SW.cond_f rfl ?_ | refine SW.exit ?_ | refine SW.ret ?_ | refine SW.skip ?_))
      refine CutF.mk () ?_
      trivial
  rintro _ -
  have e : Rg.mul a b = UInt8.ofNat (Rg.redP p 7) := by unfold Rg.mul; rw [hq]
  rw [e]
  generalize Rg.redP p 7 = x at *
  (repeat' (first | refine W.mv ?_ | refine W.zl ?_ | refine W.fa ?_ | refine W.nl ?_ | refine W.as ?_ | refine W.zb ?_ | refine W.za ?_ | refine W.zi ?_ | refine W.zc ?_ | refine W.zp ?_ | refine W.st ?_ | refine SL.nilB ?_ | refine SL.nil ?_ | refine W.al fun b_ => ?_ | refine W.bx fun b_ => ?_ | refine W.bxa fun b_ => ?_ | refine W.sw ?_ | refine W.sa ?_ | refine W.sk ?_ | refine W.bs0 fun b_ => ?_ | refine W.ma fun b_ => ?_ | refine W.bsl fun b_ => ?_ | refine W.zu ?_ | refine W.zf ?_ | refine W.zd ?_ | refine W.zs ?_ | refine W.zv ?_ | refine W.zx ?_ | refine W.ex ?_ | refine W.mf ?_ | refine W.mk ?_ | refine SW.seq ?_ | refine SW.region ?_ | refine SW.block ?_ | refine SW.cond_t rfl ?_ | refine SW.cond_f rfl ?_ | refine SW.exit ?_ | refine SW.ret ?_ | refine SW.skip ?_))
  refine Fin.to [] ?_
  exact F.f1 ⟨rfl, rfl⟩
theorem rinv_p (a : UInt8) : Tri Tryz.prog 110 [u8v a] [] (fun _ => True) (fun v H => v = u8v (Rg.inv a) ∧ H = []) := by
  refine Tri.mk Tryz.func110 rfl Tryz.ntmps110 rfl fun w hw => ?_
  (repeat' (first | refine W.mv ?_ | refine W.zl ?_ | refine W.fa ?_ | refine W.nl ?_ | refine W.as ?_ | refine W.zb ?_ | refine W.za ?_ | refine W.zi ?_ | refine W.zc ?_ | refine W.zp ?_ | refine W.st ?_ | refine SL.nilB ?_ | refine SL.nil ?_ | refine W.al fun b_ => ?_ | refine W.bx fun b_ => ?_ | refine W.bxa fun b_ => ?_ | refine W.sw ?_ | refine W.sa ?_ | refine W.sk ?_ | refine W.bs0 fun b_ => ?_ | refine W.ma fun b_ => ?_ | refine W.bsl fun b_ => ?_ | refine W.zu ?_ | refine W.zf ?_ | refine W.zd ?_ | refine W.zs ?_ | refine W.zv ?_ | refine W.zx ?_ | refine W.ex ?_ | refine W.mf ?_ | refine W.mk ?_ | refine SW.seq ?_ | refine SW.region ?_ | refine SW.cond_t rfl ?_ | refine SW.cond_f rfl ?_ | refine SW.exit ?_ | refine SW.ret ?_ | refine SW.skip ?_))
  refine SW.cut [] [] (fun _ : Unit => []) (fun _ => []) (fun _ => ∀ j < 256, ¬ Rg.mul a (UInt8.ofNat j) = 1) ?_ ?_
  · (repeat' (first | refine W.mv ?_ | refine W.zl ?_ | refine W.fa ?_ | refine W.nl ?_ | refine W.as ?_ | refine W.zb ?_ | refine W.za ?_ | refine W.zi ?_ | refine W.zc ?_ | refine W.zp ?_ | refine W.st ?_ | refine SL.nilB ?_ | refine SL.nil ?_ | refine W.al fun b_ => ?_ | refine W.bx fun b_ => ?_ | refine W.bxa fun b_ => ?_ | refine W.sw ?_ | refine W.sa ?_ | refine W.sk ?_ | refine W.bs0 fun b_ => ?_ | refine W.ma fun b_ => ?_ | refine W.bsl fun b_ => ?_ | refine W.zu ?_ | refine W.zf ?_ | refine W.zd ?_ | refine W.zs ?_ | refine W.zv ?_ | refine W.zx ?_ | refine W.ex ?_ | refine W.mf ?_ | refine W.mk ?_ | refine SW.seq ?_ | refine SW.region ?_ | refine SW.block ?_ | refine SW.cond_t rfl ?_ | refine SW.cond_f rfl ?_ | refine SW.exit ?_ | refine SW.ret ?_ | refine SW.skip ?_))
    refine SW.loopG [0] [] (fun k : Nat => [(3, .int .i64 (k : Int))]) (fun _ => []) (fun k => 256 - k) (fun k => k ≤ 256 ∧ ∀ j < k, ¬ Rg.mul a (UInt8.ofNat j) = 1) 0 ⟨Nat.zero_le _, fun j hj => absurd hj (Nat.not_lt_zero _)⟩ ?_
    rintro k ⟨hk, hno⟩
    by_cases h : k < 256
    · by_cases h1 : Rg.mul a (UInt8.ofNat k) = 1
      · have e : Rg.inv a = UInt8.ofNat k := by
          have : (List.range 256).find? (fun k => Rg.mul a (UInt8.ofNat k) == 1) = some k := by
            rw [List.find?_range_eq_some]
            exact ⟨by simp [h1], List.mem_range.2 h, fun j hj => by simp [hno j hj]⟩
          unfold Rg.inv
          rw [this]; rfl
        rw [e]
        have h2 : ((Rg.mul a (UInt8.ofNat k)).toNat : Int) = 1 := by rw [h1]; rfl
        (repeat' (first | refine W.mv ?_ | refine W.zl ?_ | refine W.fa ?_ | refine W.nl ?_ | refine W.as ?_ | refine W.zb ?_ | refine W.za ?_ | refine W.zi ?_ | refine W.zc ?_ | refine W.zp ?_ | refine W.st ?_ | refine SL.nilB ?_ | refine SL.nil ?_ | refine W.al fun b_ => ?_ | refine W.bx fun b_ => ?_ | refine W.bxa fun b_ => ?_ | refine W.sw ?_ | refine W.sa ?_ | refine W.sk ?_ | refine W.bs0 fun b_ => ?_ | refine W.ma fun b_ => ?_ | refine W.bsl fun b_ => ?_ | refine W.zu ?_ | refine W.zf ?_ | refine W.zd ?_ | refine W.zs ?_ | refine W.zv ?_ | refine W.zx ?_ | refine W.ex ?_ | refine W.mf ?_ | refine W.mk ?_ | refine SW.seq ?_ | refine SW.region ?_ | refine SW.block ?_ | refine SW.cond_t rfl ?_ | refine SW.cond_f rfl ?_ | refine SW.exit ?_ | refine SW.ret ?_ | refine SW.skip ?_))
        refine W.call (rmul_p a (UInt8.ofNat k)) ?_
        rintro _ _ ⟨rfl, rfl⟩
        (repeat' (first | refine W.mv ?_ | refine W.zl ?_ | refine W.fa ?_ | refine W.nl ?_ | refine W.as ?_ | refine W.zb ?_ | refine W.za ?_ | refine W.zi ?_ | refine W.zc ?_ | refine W.zp ?_ | refine W.st ?_ | refine SL.nilB ?_ | refine SL.nil ?_ | refine W.al fun b_ => ?_ | refine W.bx fun b_ => ?_ | refine W.bxa fun b_ => ?_ | refine W.sw ?_ | refine W.sa ?_ | refine W.sk ?_ | refine W.bs0 fun b_ => ?_ | refine W.ma fun b_ => ?_ | refine W.bsl fun b_ => ?_ | refine W.zu ?_ | refine W.zf ?_ | refine W.zd ?_ | refine W.zs ?_ | refine W.zv ?_ | refine W.zx ?_ | refine W.ex ?_ | refine W.mf ?_ | refine W.mk ?_ | refine SW.seq ?_ | refine SW.region ?_ | refine SW.block ?_ | refine SW.cond_t rfl ?_ | refine SW.cond_f rfl ?_ | refine SW.exit ?_ | refine SW.ret ?_ | refine SW.skip ?_))
        refine Fin.to [] ?_
        exact F.f1 ⟨rfl, rfl⟩
      · have h2 : ¬ ((Rg.mul a (UInt8.ofNat k)).toNat : Int) = 1 := fun e => h1 (by
          apply UInt8.toNat_inj.1
          show _ = 1
          omega)
        (repeat' (first | refine W.mv ?_ | refine W.zl ?_ | refine W.fa ?_ | refine W.nl ?_ | refine W.as ?_ | refine W.zb ?_ | refine W.za ?_ | refine W.zi ?_ | refine W.zc ?_ | refine W.zp ?_ | refine W.st ?_ | refine SL.nilB ?_ | refine SL.nil ?_ | refine W.al fun b_ => ?_ | refine W.bx fun b_ => ?_ | refine W.bxa fun b_ => ?_ | refine W.sw ?_ | refine W.sa ?_ | refine W.sk ?_ | refine W.bs0 fun b_ => ?_ | refine W.ma fun b_ => ?_ | refine W.bsl fun b_ => ?_ | refine W.zu ?_ | refine W.zf ?_ | refine W.zd ?_ | refine W.zs ?_ | refine W.zv ?_ | refine W.zx ?_ | refine W.ex ?_ | refine W.mf ?_ | refine W.mk ?_ | refine SW.seq ?_ | refine SW.region ?_ | refine SW.block ?_ | refine SW.cond_t rfl ?_ | refine SW.cond_f rfl ?_ | refine SW.exit ?_ | refine SW.ret ?_ | refine SW.skip ?_))
        refine W.call (rmul_p a (UInt8.ofNat k)) ?_
        rintro _ _ ⟨rfl, rfl⟩
        (repeat' (first | refine W.mv ?_ | refine W.zl ?_ | refine W.fa ?_ | refine W.nl ?_ | refine W.as ?_ | refine W.zb ?_ | refine W.za ?_ | refine W.zi ?_ | refine W.zc ?_ | refine W.zp ?_ | refine W.st ?_ | refine SL.nilB ?_ | refine SL.nil ?_ | refine W.al fun b_ => ?_ | refine W.bx fun b_ => ?_ | refine W.bxa fun b_ => ?_ | refine W.sw ?_ | refine W.sa ?_ | refine W.sk ?_ | refine W.bs0 fun b_ => ?_ | refine W.ma fun b_ => ?_ | refine W.bsl fun b_ => ?_ | refine W.zu ?_ | refine W.zf ?_ | refine W.zd ?_ | refine W.zs ?_ | refine W.zv ?_ | refine W.zx ?_ | refine W.ex ?_ | refine W.mf ?_ | refine W.mk ?_ | refine SW.seq ?_ | refine SW.region ?_ | refine SW.block ?_ | refine SW.cond_t rfl ?_ | refine SW.cond_f rfl ?_ | refine SW.exit ?_ | refine SW.ret ?_ | refine SW.skip ?_))
        refine HandF.mk (k + 1) ?_
        refine ⟨h, fun j hj => ?_⟩
        rcases Nat.lt_or_eq_of_le (Nat.le_of_lt_succ hj) with h3 | h3
        · exact hno j h3
        · rw [h3]; exact h1
    · have : k = 256 := by omega
      subst this
      (repeat' (first | refine W.mv ?_ | refine W.zl ?_ | refine W.fa ?_ | refine W.nl ?_ | refine W.as ?_ | refine W.zb ?_ | refine W.za ?_ | refine W.zi ?_ | refine W.zc ?_ | refine W.zp ?_ | refine W.st ?_ | refine SL.nilB ?_ | refine SL.nil ?_ | refine W.al fun b_ => ?_ | refine W.bx fun b_ => ?_ | refine W.bxa fun b_ => ?_ | refine W.sw ?_ | refine W.sa ?_ | refine W.sk ?_ | refine W.bs0 fun b_ => ?_ | refine W.ma fun b_ => ?_ | refine W.bsl fun b_ => ?_ | refine W.zu ?_ | refine W.zf ?_ | refine W.zd ?_ | refine W.zs ?_ | refine W.zv ?_ | refine W.zx ?_ | refine W.ex ?_ | refine W.mf ?_ | refine W.mk ?_ | refine SW.seq ?_ | refine SW.region ?_ | refine SW.block ?_ | refine SW.cond_t rfl ?_ | refine SW.cond_f rfl ?_ | refine SW.exit ?_ | refine SW.ret ?_ | refine SW.skip ?_))
      refine CutF.mk () ?_
      exact hno
  rintro _ hno
  have e : Rg.inv a = 0 := by
    have : (List.range 256).find? (fun k => Rg.mul a (UInt8.ofNat k) == 1) = none := by
      rw [List.find?_range_eq_none]
      exact fun j hj => by simp [hno j hj]
    unfold Rg.inv
    rw [this]; rfl
  rw [e]
  (repeat' (first | refine W.mv ?_ | refine W.zl ?_ | refine W.fa ?_ | refine W.nl ?_ | refine W.as ?_ | refine W.zb ?_ | refine W.za ?_ | refine W.zi ?_ | refine W.zc ?_ | refine W.zp ?_ | refine W.st ?_ | refine SL.nilB ?_ | refine SL.nil ?_ | refine W.al fun b_ => ?_ | refine W.bx fun b_ => ?_ | refine W.bxa fun b_ => ?_ | refine W.sw ?_ | refine W.sa ?_ | refine W.sk ?_ | refine W.bs0 fun b_ => ?_ | refine W.ma fun b_ => ?_ | refine W.bsl fun b_ => ?_ | refine W.zu ?_ | refine W.zf ?_ | refine W.zd ?_ | refine W.zs ?_ | refine W.zv ?_ | refine W.zx ?_ | refine W.ex ?_ | refine W.mf ?_ | refine W.mk ?_ | refine SW.seq ?_ | refine SW.region ?_ | refine SW.block ?_ | refine SW.cond_t rfl ?_ | refine SW.cond_f rfl ?_ | refine SW.exit ?_ | refine SW.ret ?_ | refine SW.skip ?_))
  refine Fin.to [] ?_
  exact F.f1 ⟨rfl, rfl⟩
theorem rsub_p (c : UInt8) : Tri Tryz.prog 97 [u8v c] [] (fun _ => True) (fun v H => v = u8v (Rg.sub c) ∧ H = []) := by
  refine Tri.mk Tryz.func97 rfl Tryz.ntmps97 rfl fun w hw => ?_
  obtain ⟨i, hi⟩ : ∃ i, Rg.inv c = i := ⟨_, rfl⟩
  have e : Rg.sub c = UInt8.ofNat (Rg.subO i 8) := by unfold Rg.sub; rw [hi]
  rw [e]
  (repeat' (first | refine W.mv ?_ | refine W.zl ?_ | refine W.fa ?_ | refine W.nl ?_ | refine W.as ?_ | refine W.zb ?_ | refine W.za ?_ | refine W.zi ?_ | refine W.zc ?_ | refine W.zp ?_ | refine W.st ?_ | refine SL.nilB ?_ | refine SL.nil ?_ | refine W.al fun b_ => ?_ | refine W.bx fun b_ => ?_ | refine W.bxa fun b_ => ?_ | refine W.sw ?_ | refine W.sa ?_ | refine W.sk ?_ | refine W.bs0 fun b_ => ?_ | refine W.ma fun b_ => ?_ | refine W.bsl fun b_ => ?_ | refine W.zu ?_ | refine W.zf ?_ | refine W.zd ?_ | refine W.zs ?_ | refine W.zv ?_ | refine W.zx ?_ | refine W.ex ?_ | refine W.mf ?_ | refine W.mk ?_ | refine SW.seq ?_ | refine SW.region ?_ | refine SW.block ?_ | refine SW.cond_t rfl ?_ | refine SW.cond_f rfl ?_ | refine SW.exit ?_ | refine SW.ret ?_ | refine SW.skip ?_))
  refine W.call (rinv_p c) ?_
  rintro _ _ ⟨rfl, rfl⟩
  rw [hi]
  (repeat' (first | refine W.mv ?_ | refine W.zl ?_ | refine W.fa ?_ | refine W.nl ?_ | refine W.as ?_ | refine W.zb ?_ | refine W.za ?_ | refine W.zi ?_ | refine W.zc ?_ | refine W.zp ?_ | refine W.st ?_ | refine SL.nilB ?_ | refine SL.nil ?_ | refine W.al fun b_ => ?_ | refine W.bx fun b_ => ?_ | refine W.bxa fun b_ => ?_ | refine W.sw ?_ | refine W.sa ?_ | refine W.sk ?_ | refine W.bs0 fun b_ => ?_ | refine W.ma fun b_ => ?_ | refine W.bsl fun b_ => ?_ | refine W.zu ?_ | refine W.zf ?_ | refine W.zd ?_ | refine W.zs ?_ | refine W.zv ?_ | refine W.zx ?_ | refine W.ex ?_ | refine W.mf ?_ | refine W.mk ?_ | refine SW.seq ?_ | refine SW.region ?_ | refine SW.cond_t rfl ?_ | refine SW.cond_f rfl ?_ | refine SW.exit ?_ | refine SW.ret ?_ | refine SW.skip ?_))
  refine SW.cut [] [] (fun _ : Unit => [(4, .int .i64 (Rg.subO i 8 : Nat))]) (fun _ => []) (fun _ => True) ?_ ?_
  · (repeat' (first | refine W.mv ?_ | refine W.zl ?_ | refine W.fa ?_ | refine W.nl ?_ | refine W.as ?_ | refine W.zb ?_ | refine W.za ?_ | refine W.zi ?_ | refine W.zc ?_ | refine W.zp ?_ | refine W.st ?_ | refine SL.nilB ?_ | refine SL.nil ?_ | refine W.al fun b_ => ?_ | refine W.bx fun b_ => ?_ | refine W.bxa fun b_ => ?_ | refine W.sw ?_ | refine W.sa ?_ | refine W.sk ?_ | refine W.bs0 fun b_ => ?_ | refine W.ma fun b_ => ?_ | refine W.bsl fun b_ => ?_ | refine W.zu ?_ | refine W.zf ?_ | refine W.zd ?_ | refine W.zs ?_ | refine W.zv ?_ | refine W.zx ?_ | refine W.ex ?_ | refine W.mf ?_ | refine W.mk ?_ | refine SW.seq ?_ | refine SW.region ?_ | refine SW.block ?_ | refine SW.cond_t rfl ?_ | refine SW.cond_f rfl ?_ | refine SW.exit ?_ | refine SW.ret ?_ | refine SW.skip ?_))
    refine SW.loopG [3] [] (fun j : Nat => [(4, .int .i64 (Rg.subO i j : Nat)), (5, .int .i64 (7 - (j : Int)))]) (fun _ => []) (fun j => 8 - j) (fun j => j ≤ 8) 0 (Nat.zero_le _) ?_
    intro j hj
    by_cases h : j < 8
    · have hb := Rg.subO_lt i j
      have hb2 : 2 ^ j ≤ 2 ^ 8 := Nat.pow_le_pow_right (by decide) hj
      have hs : Rg.subO i (j + 1) = 2 * Rg.subO i j + Rg.bits i (7 - j) % 2 := rfl
      have hbs : Rg.bits i (7 - j) = Rg.bit i (7 - j) + Rg.bit i (7 - j + 4) + Rg.bit i (7 - j + 5) + Rg.bit i (7 - j + 6) + Rg.bit i (7 - j + 7) + Rg.bit 99 (7 - j) := rfl
      have hk : (7 : Int) - (j : Int) = ((7 - j : Nat) : Int) := by omega
      have hbit : ∀ c k, Rg.bit c k < 2 := fun c k => Nat.mod_lt _ (by decide)
      generalize 7 - j = k at *
      have g0 := hbit i k
      have g4 := hbit i (k + 4)
      have g5 := hbit i (k + 5)
      have g6 := hbit i (k + 6)
      have g7 := hbit i (k + 7)
      have g9 := hbit 99 k
      rw [hk]
      have c0 := rbit_p i k (by omega)
      have c4 := rbit_p i (k + 4) (by omega)
      have c5 := rbit_p i (k + 5) (by omega)
      have c6 := rbit_p i (k + 6) (by omega)
      have c7 := rbit_p i (k + 7) (by omega)
      have c9 := rbit_p 99 k (by omega)
      rw [Int.natCast_add] at c4 c5 c6 c7
      (repeat' (first | refine W.mv ?_ | refine W.zl ?_ | refine W.fa ?_ | refine W.nl ?_ | refine W.as ?_ | refine W.zb ?_ | refine W.za ?_ | refine W.zi ?_ | refine W.zc ?_ | refine W.zp ?_ | refine W.st ?_ | refine SL.nilB ?_ | refine SL.nil ?_ | refine W.al fun b_ => ?_ | refine W.bx fun b_ => ?_ | refine W.bxa fun b_ => ?_ | refine W.sw ?_ | refine W.sa ?_ | refine W.sk ?_ | refine W.bs0 fun b_ => ?_ | refine W.ma fun b_ => ?_ | refine W.bsl fun b_ => ?_ | refine W.zu ?_ | refine W.zf ?_ | refine W.zd ?_ | refine W.zs ?_ | refine W.zv ?_ | refine W.zx ?_ | refine W.ex ?_ | refine W.mf ?_ | refine W.mk ?_ | refine SW.seq ?_ | refine SW.region ?_ | refine SW.block ?_ | refine SW.cond_t rfl ?_ | refine SW.cond_f rfl ?_ | refine SW.exit ?_ | refine SW.ret ?_ | refine SW.skip ?_))
      refine W.call c0 ?_
      rintro _ _ ⟨rfl, rfl⟩
      (repeat' (first | refine W.mv ?_ | refine W.zl ?_ | refine W.fa ?_ | refine W.nl ?_ | refine W.as ?_ | refine W.zb ?_ | refine W.za ?_ | refine W.zi ?_ | refine W.zc ?_ | refine W.zp ?_ | refine W.st ?_ | refine SL.nilB ?_ | refine SL.nil ?_ | refine W.al fun b_ => ?_ | refine W.bx fun b_ => ?_ | refine W.bxa fun b_ => ?_ | refine W.sw ?_ | refine W.sa ?_ | refine W.sk ?_ | refine W.bs0 fun b_ => ?_ | refine W.ma fun b_ => ?_ | refine W.bsl fun b_ => ?_ | refine W.zu ?_ | refine W.zf ?_ | refine W.zd ?_ | refine W.zs ?_ | refine W.zv ?_ | refine W.zx ?_ | refine W.ex ?_ | refine W.mf ?_ | refine W.mk ?_ | refine SW.seq ?_ | refine SW.region ?_ | refine SW.block ?_ | refine SW.cond_t rfl ?_ | refine SW.cond_f rfl ?_ | refine SW.exit ?_ | refine SW.ret ?_ | refine SW.skip ?_))
      refine W.call c4 ?_
      rintro _ _ ⟨rfl, rfl⟩
      (repeat' (first | refine W.mv ?_ | refine W.zl ?_ | refine W.fa ?_ | refine W.nl ?_ | refine W.as ?_ | refine W.zb ?_ | refine W.za ?_ | refine W.zi ?_ | refine W.zc ?_ | refine W.zp ?_ | refine W.st ?_ | refine SL.nilB ?_ | refine SL.nil ?_ | refine W.al fun b_ => ?_ | refine W.bx fun b_ => ?_ | refine W.bxa fun b_ => ?_ | refine W.sw ?_ | refine W.sa ?_ | refine W.sk ?_ | refine W.bs0 fun b_ => ?_ | refine W.ma fun b_ => ?_ | refine W.bsl fun b_ => ?_ | refine W.zu ?_ | refine W.zf ?_ | refine W.zd ?_ | refine W.zs ?_ | refine W.zv ?_ | refine W.zx ?_ | refine W.ex ?_ | refine W.mf ?_ | refine W.mk ?_ | refine SW.seq ?_ | refine SW.region ?_ | refine SW.block ?_ | refine SW.cond_t rfl ?_ | refine SW.cond_f rfl ?_ | refine SW.exit ?_ | refine SW.ret ?_ | refine SW.skip ?_))
      refine W.call c5 ?_
      rintro _ _ ⟨rfl, rfl⟩
      (repeat' (first | refine W.mv ?_ | refine W.zl ?_ | refine W.fa ?_ | refine W.nl ?_ | refine W.as ?_ | refine W.zb ?_ | refine W.za ?_ | refine W.zi ?_ | refine W.zc ?_ | refine W.zp ?_ | refine W.st ?_ | refine SL.nilB ?_ | refine SL.nil ?_ | refine W.al fun b_ => ?_ | refine W.bx fun b_ => ?_ | refine W.bxa fun b_ => ?_ | refine W.sw ?_ | refine W.sa ?_ | refine W.sk ?_ | refine W.bs0 fun b_ => ?_ | refine W.ma fun b_ => ?_ | refine W.bsl fun b_ => ?_ | refine W.zu ?_ | refine W.zf ?_ | refine W.zd ?_ | refine W.zs ?_ | refine W.zv ?_ | refine W.zx ?_ | refine W.ex ?_ | refine W.mf ?_ | refine W.mk ?_ | refine SW.seq ?_ | refine SW.region ?_ | refine SW.block ?_ | refine SW.cond_t rfl ?_ | refine SW.cond_f rfl ?_ | refine SW.exit ?_ | refine SW.ret ?_ | refine SW.skip ?_))
      refine W.call c6 ?_
      rintro _ _ ⟨rfl, rfl⟩
      (repeat' (first | refine W.mv ?_ | refine W.zl ?_ | refine W.fa ?_ | refine W.nl ?_ | refine W.as ?_ | refine W.zb ?_ | refine W.za ?_ | refine W.zi ?_ | refine W.zc ?_ | refine W.zp ?_ | refine W.st ?_ | refine SL.nilB ?_ | refine SL.nil ?_ | refine W.al fun b_ => ?_ | refine W.bx fun b_ => ?_ | refine W.bxa fun b_ => ?_ | refine W.sw ?_ | refine W.sa ?_ | refine W.sk ?_ | refine W.bs0 fun b_ => ?_ | refine W.ma fun b_ => ?_ | refine W.bsl fun b_ => ?_ | refine W.zu ?_ | refine W.zf ?_ | refine W.zd ?_ | refine W.zs ?_ | refine W.zv ?_ | refine W.zx ?_ | refine W.ex ?_ | refine W.mf ?_ | refine W.mk ?_ | refine SW.seq ?_ | refine SW.region ?_ | refine SW.block ?_ | refine SW.cond_t rfl ?_ | refine SW.cond_f rfl ?_ | refine SW.exit ?_ | refine SW.ret ?_ | refine SW.skip ?_))
      refine W.call c7 ?_
      rintro _ _ ⟨rfl, rfl⟩
      (repeat' (first | refine W.mv ?_ | refine W.zl ?_ | refine W.fa ?_ | refine W.nl ?_ | refine W.as ?_ | refine W.zb ?_ | refine W.za ?_ | refine W.zi ?_ | refine W.zc ?_ | refine W.zp ?_ | refine W.st ?_ | refine SL.nilB ?_ | refine SL.nil ?_ | refine W.al fun b_ => ?_ | refine W.bx fun b_ => ?_ | refine W.bxa fun b_ => ?_ | refine W.sw ?_ | refine W.sa ?_ | refine W.sk ?_ | refine W.bs0 fun b_ => ?_ | refine W.ma fun b_ => ?_ | refine W.bsl fun b_ => ?_ | refine W.zu ?_ | refine W.zf ?_ | refine W.zd ?_ | refine W.zs ?_ | refine W.zv ?_ | refine W.zx ?_ | refine W.ex ?_ | refine W.mf ?_ | refine W.mk ?_ | refine SW.seq ?_ | refine SW.region ?_ | refine SW.block ?_ | refine SW.cond_t rfl ?_ | refine SW.cond_f rfl ?_ | refine SW.exit ?_ | refine SW.ret ?_ | refine SW.skip ?_))
      refine W.call c9 ?_
      rintro _ _ ⟨rfl, rfl⟩
      (repeat' (first | refine W.mv ?_ | refine W.zl ?_ | refine W.fa ?_ | refine W.nl ?_ | refine W.as ?_ | refine W.zb ?_ | refine W.za ?_ | refine W.zi ?_ | refine W.zc ?_ | refine W.zp ?_ | refine W.st ?_ | refine SL.nilB ?_ | refine SL.nil ?_ | refine W.al fun b_ => ?_ | refine W.bx fun b_ => ?_ | refine W.bxa fun b_ => ?_ | refine W.sw ?_ | refine W.sa ?_ | refine W.sk ?_ | refine W.bs0 fun b_ => ?_ | refine W.ma fun b_ => ?_ | refine W.bsl fun b_ => ?_ | refine W.zu ?_ | refine W.zf ?_ | refine W.zd ?_ | refine W.zs ?_ | refine W.zv ?_ | refine W.zx ?_ | refine W.ex ?_ | refine W.mf ?_ | refine W.mk ?_ | refine SW.seq ?_ | refine SW.region ?_ | refine SW.block ?_ | refine SW.cond_t rfl ?_ | refine SW.cond_f rfl ?_ | refine SW.exit ?_ | refine SW.ret ?_ | refine SW.skip ?_))
      rw [show (2 : Int) * (Rg.subO i j : Nat) + ((Rg.bit i k : Nat) + (Rg.bit i (k + 4) : Nat) + (Rg.bit i (k + 5) : Nat) + (Rg.bit i (k + 6) : Nat) + (Rg.bit i (k + 7) : Nat) + (Rg.bit 99 k : Nat) : Int) % 2 = ((Rg.subO i (j + 1) : Nat) : Int) by rw [hs, hbs]; omega,
        show (k : Int) - 1 = 7 - ((j + 1 : Nat) : Int) by omega]
      refine HandF.mk (j + 1) ?_
      omega
    · have : j = 8 := by omega
      subst this
      (repeat' (first | refine W.mv ?_ | refine W.zl ?_ | refine W.fa ?_ | refine W.nl ?_ | refine W.as ?_ | refine W.zb ?_ | refine W.za ?_ | refine W.zi ?_ | refine W.zc ?_ | refine W.zp ?_ | refine W.st ?_ | refine SL.nilB ?_ | refine SL.nil ?_ | refine W.al fun b_ => ?_ | refine W.bx fun b_ => ?_ | refine W.bxa fun b_ => ?_ | refine W.sw ?_ | refine W.sa ?_ | refine W.sk ?_ | refine W.bs0 fun b_ => ?_ | refine W.ma fun b_ => ?_ | refine W.bsl fun b_ => ?_ | refine W.zu ?_ | refine W.zf ?_ | refine W.zd ?_ | refine W.zs ?_ | refine W.zv ?_ | refine W.zx ?_ | refine W.ex ?_ | refine W.mf ?_ | refine W.mk ?_ | refine SW.seq ?_ | refine SW.region ?_ | refine SW.block ?_ | refine SW.cond_t rfl ?_ | refine SW.cond_f rfl ?_ | refine SW.exit ?_ | refine SW.ret ?_ | refine SW.skip ?_))
      refine CutF.mk () ?_
      trivial
  rintro _ -
  have hb := Rg.subO_lt i 8
  generalize Rg.subO i 8 = x at *
  (repeat' (first | refine W.mv ?_ | refine W.zl ?_ | refine W.fa ?_ | refine W.nl ?_ | refine W.as ?_ | refine W.zb ?_ | refine W.za ?_ | refine W.zi ?_ | refine W.zc ?_ | refine W.zp ?_ | refine W.st ?_ | refine SL.nilB ?_ | refine SL.nil ?_ | refine W.al fun b_ => ?_ | refine W.bx fun b_ => ?_ | refine W.bxa fun b_ => ?_ | refine W.sw ?_ | refine W.sa ?_ | refine W.sk ?_ | refine W.bs0 fun b_ => ?_ | refine W.ma fun b_ => ?_ | refine W.bsl fun b_ => ?_ | refine W.zu ?_ | refine W.zf ?_ | refine W.zd ?_ | refine W.zs ?_ | refine W.zv ?_ | refine W.zx ?_ | refine W.ex ?_ | refine W.mf ?_ | refine W.mk ?_ | refine SW.seq ?_ | refine SW.region ?_ | refine SW.block ?_ | refine SW.cond_t rfl ?_ | refine SW.cond_f rfl ?_ | refine SW.exit ?_ | refine SW.ret ?_ | refine SW.skip ?_))
  refine Fin.to [] ?_
  exact F.f1 ⟨rfl, rfl⟩
namespace Rg
def subN (n : Nat) : List UInt8 := (List.range n).map (fun k => sub (UInt8.ofNat k)) ++ List.replicate (256 - n) 0
def subL : List UInt8 := (List.range 256).map fun k => sub (UInt8.ofNat k)
def backN : Nat → List UInt8
  | 0 => List.replicate 256 0
  | n + 1 => (backN n).set (sub (UInt8.ofNat n)).toNat (UInt8.ofNat n)
theorem subN_len {n : Nat} (h : n ≤ 256) : (subN n).length = 256 := by unfold subN; simp; omega
theorem subN_set {n : Nat} (h : n < 256) : (subN n).set n (sub (UInt8.ofNat n)) = subN (n + 1) := by
  unfold subN
  rw [List.set_append_right _ _ (by simp), List.range_succ, List.map_append, List.append_assoc]
  congr 1
  rw [List.length_map, List.length_range, Nat.sub_self, show 256 - n = (256 - (n + 1)) + 1 by omega, List.replicate_succ]
  rfl
theorem subN_at {n : Nat} (h : n < 256) : (subN (n + 1))[n]? = some (sub (UInt8.ofNat n)) := by
  rw [← subN_set h, List.getElem?_set_self (by rw [subN_len (Nat.le_of_lt h)]; exact h)]
theorem subN_all : subN 256 = subL := by unfold subN subL; simp
theorem backN_len (n : Nat) : (backN n).length = 256 := by
  induction n with
  | zero => exact List.length_replicate
  | succ n ih => unfold backN; rw [List.length_set, ih]
theorem subL_len : subL.length = 256 := by unfold subL; simp
theorem zero256 : List.replicate 256 (.int .u8 0) = cbs (backN 0) := by
  show _ = cbs (List.replicate 256 0)
  unfold cbs
  rw [List.map_replicate]
  rfl
theorem zero256' : List.replicate 256 (.int .u8 0) = cbs (subN 0) := zero256
end Rg
theorem cbs_stI (xs : List UInt8) (i : Nat) (v : UInt8) : (cbs xs).set i (u8v v) = cbs (xs.set i v) := by unfold cbs; rw [List.map_set]
theorem cbs_at2 {xs : List UInt8} {i : Nat} {x : UInt8} (h : xs[i]? = some x) : (cbs xs)[i]? = some (u8v x) := by unfold cbs; rw [List.getElem?_map, h]; rfl
/-- Two cells that are returned. -/
theorem F.cc {P : Program} {C : Ctx} {ρ : Fr} {H : Hp} {fn : Func} {R : Value → Hp → Prop} {e : Exit} {t u ty n b b' : Nat} {l l' : List Value} {T T' : TypeId} (l2 l3 : List Value) (hR : R (.tuple #[.agg l2.toArray, .agg l3.toArray]) []) (he : e = .ret ∨ e = .normal := by first | exact .inl rfl | exact .inr rfl) (hrs : fn.results = #[.cell t ty, .cell u ty] := by exact rfl) (ht : lk ρ t = some (.pointer (some ⟨b, 0, none⟩)) := by exact rfl) (hu : lk ρ u = some (.pointer (some ⟨b', 0, none⟩)) := by exact rfl) (hat : At H b (cl l T) := by infer_instance) (hat' : At H b' (cl l' T') := by infer_instance) (hl : l = l2 := by first | assumption | exact rfl) (hl' : l' = l3 := by first | assumption | exact rfl) (iR : RowTy P ty n := by infer_instance) (hn : l2.length = n := by first | assumption | exact rfl) (hn' : l3.length = n := by first | assumption | exact rfl) : Fin P C fn R e ρ H := by
  subst hl hl'
  refine Fin.of (Hc := []) (s := H) he (by simp) hR fun a w hf hs => ?_
  have h1 := run_load_a (P := P) (w := w) (t := ty) (b := b) (l := l) (T := T) (fz := (0, 0)) (r := l) (i := 0) hs.at (by rw [← hn]; simp) hn
  have h2 := run_load_a (P := P) (w := w) (t := ty) (b := b') (l := l') (T := T') (fz := (0, 0)) (r := l') (i := 0) hs.at (by rw [← hn']; simp) hn'
  have h3 := tmps_getD hf ht
  have h4 := tmps_getD hf hu
  rw [Array.getD_eq_getD_getElem?] at h3 h4
  simp [results, hrs, h3, h4, asAddr, h1, h2]
theorem rtable_p : Tri Tryz.prog 73 [] [] (fun _ => True) (fun v H => v = .tuple #[.agg (cbs Rg.subL).toArray, .agg (cbs (Rg.backN 256)).toArray] ∧ H = []) := by
  refine Tri.mk Tryz.func73 rfl Tryz.ntmps73 rfl fun w hw => ?_
  (repeat' (first | refine W.mv ?_ | refine W.zl ?_ | refine W.fa ?_ | refine W.nl ?_ | refine W.as ?_ | refine W.zb ?_ | refine W.za ?_ | refine W.zi ?_ | refine W.zc ?_ | refine W.zp ?_ | refine W.st ?_ | refine SL.nilB ?_ | refine SL.nil ?_ | refine W.al fun b_ => ?_ | refine W.bx fun b_ => ?_ | refine W.bxa fun b_ => ?_ | refine W.sw ?_ | refine W.sa ?_ | refine W.sk ?_ | refine W.bs0 fun b_ => ?_ | refine W.ma fun b_ => ?_ | refine W.bsl fun b_ => ?_ | refine W.zu ?_ | refine W.zf ?_ | refine W.zd ?_ | refine W.zs ?_ | refine W.zv ?_ | refine W.zx ?_ | refine W.ex ?_ | refine W.mf ?_ | refine W.mk ?_ | refine SW.seq ?_ | refine SW.region ?_ | refine SW.cond_t rfl ?_ | refine SW.cond_f rfl ?_ | refine SW.exit ?_ | refine SW.ret ?_ | refine SW.skip ?_))
  rename_i b0 b1 b2
  refine SW.cutH [0, 1, 2, 3] [(b2, cl (List.replicate 256 (.int .u8 0)) 174), (b_, cl (List.replicate 256 (.int .u8 0)) 174)] (fun _ : Unit => []) (fun _ => [(b2, cl (cbs Rg.subL) 174), (b_, cl (cbs (Rg.backN 256)) 174)]) (fun _ => True) ?_ ?_
  · (repeat' (first | refine W.mv ?_ | refine W.zl ?_ | refine W.fa ?_ | refine W.nl ?_ | refine W.as ?_ | refine W.zb ?_ | refine W.za ?_ | refine W.zi ?_ | refine W.zc ?_ | refine W.zp ?_ | refine W.st ?_ | refine SL.nilB ?_ | refine SL.nil ?_ | refine W.al fun b_ => ?_ | refine W.bx fun b_ => ?_ | refine W.bxa fun b_ => ?_ | refine W.sw ?_ | refine W.sa ?_ | refine W.sk ?_ | refine W.bs0 fun b_ => ?_ | refine W.ma fun b_ => ?_ | refine W.bsl fun b_ => ?_ | refine W.zu ?_ | refine W.zf ?_ | refine W.zd ?_ | refine W.zs ?_ | refine W.zv ?_ | refine W.zx ?_ | refine W.ex ?_ | refine W.mf ?_ | refine W.mk ?_ | refine SW.seq ?_ | refine SW.region ?_ | refine SW.block ?_ | refine SW.cond_t rfl ?_ | refine SW.cond_f rfl ?_ | refine SW.exit ?_ | refine SW.ret ?_ | refine SW.skip ?_))
    rw [show (b2, cl (List.replicate 256 (.int .u8 0)) 174) = (b2, cl (cbs (Rg.subN 0)) 174) by rw [Rg.zero256'], show (b_, cl (List.replicate 256 (.int .u8 0)) 174) = (b_, cl (cbs (Rg.backN 0)) 174) by rw [Rg.zero256]]
    refine SW.loopF [0, 1, 2, 3] (fun n : Nat => [(4, .int .i64 (n : Int))]) (fun n => [(b2, cl (cbs (Rg.subN n)) 174), (b_, cl (cbs (Rg.backN n)) 174)]) (fun n => 256 - n) (fun n => n ≤ 256) 0 (Nat.zero_le _) ?_
    intro n hn
    by_cases h : n < 256
    · have hc := rsub_p (UInt8.ofNat n)
      have h1 := cbs_stI (Rg.subN n) n (Rg.sub (UInt8.ofNat n))
      rw [Rg.subN_set h] at h1
      have h2 := cbs_stI (Rg.backN n) (Rg.sub (UInt8.ofNat n)).toNat (UInt8.ofNat n)
      rw [show (Rg.backN n).set (Rg.sub (UInt8.ofNat n)).toNat (UInt8.ofNat n) = Rg.backN (n + 1) from rfl] at h2
      have h3 := cbs_at2 (Rg.subN_at h)
      have hl1 : n < (cbs (Rg.subN n)).length := by rw [show (cbs (Rg.subN n)).length = (Rg.subN n).length from List.length_map .., Rg.subN_len hn]; exact h
      generalize Rg.sub (UInt8.ofNat n) = x at *
      have hx : x.toNat < 256 := x.toNat_lt
      have hl2 : x.toNat < (cbs (Rg.backN n)).length := by rw [show (cbs (Rg.backN n)).length = (Rg.backN n).length from List.length_map .., Rg.backN_len]; exact hx
      (repeat' (first | refine W.mv ?_ | refine W.zl ?_ | refine W.fa ?_ | refine W.nl ?_ | refine W.as ?_ | refine W.zb ?_ | refine W.za ?_ | refine W.zi ?_ | refine W.zc ?_ | refine W.zp ?_ | refine W.st ?_ | refine SL.nilB ?_ | refine SL.nil ?_ | refine W.al fun b_ => ?_ | refine W.bx fun b_ => ?_ | refine W.bxa fun b_ => ?_ | refine W.sw ?_ | refine W.sa ?_ | refine W.sk ?_ | refine W.bs0 fun b_ => ?_ | refine W.ma fun b_ => ?_ | refine W.bsl fun b_ => ?_ | refine W.zu ?_ | refine W.zf ?_ | refine W.zd ?_ | refine W.zs ?_ | refine W.zv ?_ | refine W.zx ?_ | refine W.ex ?_ | refine W.mf ?_ | refine W.mk ?_ | refine SW.seq ?_ | refine SW.region ?_ | refine SW.block ?_ | refine SW.cond_t rfl ?_ | refine SW.cond_f rfl ?_ | refine SW.exit ?_ | refine SW.ret ?_ | refine SW.skip ?_))
      refine W.call hc ?_
      rintro _ _ ⟨rfl, rfl⟩
      (repeat' (first | refine W.mv ?_ | refine W.zl ?_ | refine W.fa ?_ | refine W.nl ?_ | refine W.as ?_ | refine W.zb ?_ | refine W.za ?_ | refine W.zi ?_ | refine W.zc ?_ | refine W.zp ?_ | refine W.st ?_ | refine SL.nilB ?_ | refine SL.nil ?_ | refine W.al fun b_ => ?_ | refine W.bx fun b_ => ?_ | refine W.bxa fun b_ => ?_ | refine W.sw ?_ | refine W.sa ?_ | refine W.sk ?_ | refine W.bs0 fun b_ => ?_ | refine W.ma fun b_ => ?_ | refine W.bsl fun b_ => ?_ | refine W.zu ?_ | refine W.zf ?_ | refine W.zd ?_ | refine W.zs ?_ | refine W.zv ?_ | refine W.zx ?_ | refine W.ex ?_ | refine W.mf ?_ | refine W.mk ?_ | refine SW.seq ?_ | refine SW.region ?_ | refine SW.block ?_ | refine SW.cond_t rfl ?_ | refine SW.cond_f rfl ?_ | refine SW.exit ?_ | refine SW.ret ?_ | refine SW.skip ?_))
      rw [h1]
      (repeat' (first | refine W.mv ?_ | refine W.zl ?_ | refine W.fa ?_ | refine W.nl ?_ | refine W.as ?_ | refine W.zb ?_ | refine W.za ?_ | refine W.zi ?_ | refine W.zc ?_ | refine W.zp ?_ | refine W.st ?_ | refine SL.nilB ?_ | refine SL.nil ?_ | refine W.al fun b_ => ?_ | refine W.bx fun b_ => ?_ | refine W.bxa fun b_ => ?_ | refine W.sw ?_ | refine W.sa ?_ | refine W.sk ?_ | refine W.bs0 fun b_ => ?_ | refine W.ma fun b_ => ?_ | refine W.bsl fun b_ => ?_ | refine W.zu ?_ | refine W.zf ?_ | refine W.zd ?_ | refine W.zs ?_ | refine W.zv ?_ | refine W.zx ?_ | refine W.ex ?_ | refine W.mf ?_ | refine W.mk ?_ | refine SW.seq ?_ | refine SW.region ?_ | refine SW.block ?_ | refine SW.cond_t rfl ?_ | refine SW.cond_f rfl ?_ | refine SW.exit ?_ | refine SW.ret ?_ | refine SW.skip ?_))
      rw [h2]
      refine HandF.mk (n + 1) ?_
      omega
    · have : n = 256 := by omega
      subst this
      rw [Rg.subN_all]
      (repeat' (first | refine W.mv ?_ | refine W.zl ?_ | refine W.fa ?_ | refine W.nl ?_ | refine W.as ?_ | refine W.zb ?_ | refine W.za ?_ | refine W.zi ?_ | refine W.zc ?_ | refine W.zp ?_ | refine W.st ?_ | refine SL.nilB ?_ | refine SL.nil ?_ | refine W.al fun b_ => ?_ | refine W.bx fun b_ => ?_ | refine W.bxa fun b_ => ?_ | refine W.sw ?_ | refine W.sa ?_ | refine W.sk ?_ | refine W.bs0 fun b_ => ?_ | refine W.ma fun b_ => ?_ | refine W.bsl fun b_ => ?_ | refine W.zu ?_ | refine W.zf ?_ | refine W.zd ?_ | refine W.zs ?_ | refine W.zv ?_ | refine W.zx ?_ | refine W.ex ?_ | refine W.mf ?_ | refine W.mk ?_ | refine SW.seq ?_ | refine SW.region ?_ | refine SW.block ?_ | refine SW.cond_t rfl ?_ | refine SW.cond_f rfl ?_ | refine SW.exit ?_ | refine SW.ret ?_ | refine SW.skip ?_))
      refine CutF.mk () ?_
      trivial
  rintro _ -
  have hl1 : (cbs Rg.subL).length = 256 := by rw [show (cbs Rg.subL).length = Rg.subL.length from List.length_map .., Rg.subL_len]
  have hl2 : (cbs (Rg.backN 256)).length = 256 := by rw [show (cbs (Rg.backN 256)).length = (Rg.backN 256).length from List.length_map .., Rg.backN_len]
  have hz : (List.replicate 256 (Value.int .u8 0)).length = 256 := List.length_replicate
  have oX : OC (cbs Rg.subL) := inferInstance
  have oY : OC (cbs (Rg.backN 256)) := inferInstance
  generalize List.replicate 256 (Value.int .u8 0) = Z at *
  generalize cbs Rg.subL = X at *
  generalize cbs (Rg.backN 256) = Y at *
  (repeat' (first | refine W.mv ?_ | refine W.zl ?_ | refine W.fa ?_ | refine W.nl ?_ | refine W.as ?_ | refine W.zb ?_ | refine W.za ?_ | refine W.zi ?_ | refine W.zc ?_ | refine W.zp ?_ | refine W.st ?_ | refine SL.nilB ?_ | refine SL.nil ?_ | refine W.al fun b_ => ?_ | refine W.bx fun b_ => ?_ | refine W.bxa fun b_ => ?_ | refine W.sw ?_ | refine W.sa ?_ | refine W.sk ?_ | refine W.bs0 fun b_ => ?_ | refine W.ma fun b_ => ?_ | refine W.bsl fun b_ => ?_ | refine W.zu ?_ | refine W.zf ?_ | refine W.zd ?_ | refine W.zs ?_ | refine W.zv ?_ | refine W.zx ?_ | refine W.ex ?_ | refine W.mf ?_ | refine W.mk ?_ | refine SW.seq ?_ | refine SW.region ?_ | refine SW.block ?_ | refine SW.cond_t rfl ?_ | refine SW.cond_f rfl ?_ | refine SW.exit ?_ | refine SW.ret ?_ | refine SW.skip ?_))
  (refine SW.regionS [3] ?_ (by kernel_rfl); (first | refine SS.lw 0 [3] rfl ?_ | refine SS.la 0 [3] rfl ?_ | refine SS.tw 0 rfl (p_load_aR rfl rfl (by assumption) (by assumption) (by assumption) (by assumption)) ?_); (first | refine SS.lw 1 [3] rfl ?_ | refine SS.la 1 [3] rfl ?_ | refine SS.tw 1 rfl (p_load_aR rfl rfl (by assumption) (by assumption) (by assumption) (by assumption)) ?_); refine SS.effK 2 ?_ rfl (by kernel_rfl); (repeat' (first | refine W.mv ?_ | refine W.zl ?_ | refine W.fa ?_ | refine W.nl ?_ | refine W.as ?_ | refine W.zb ?_ | refine W.za ?_ | refine W.zi ?_ | refine W.zc ?_ | refine W.zp ?_ | refine W.st ?_ | refine SL.nilB ?_ | refine SL.nil ?_ | refine W.al fun b_ => ?_ | refine W.bx fun b_ => ?_ | refine W.bxa fun b_ => ?_ | refine W.sw ?_ | refine W.sa ?_ | refine W.sk ?_ | refine W.bs0 fun b_ => ?_ | refine W.ma fun b_ => ?_ | refine W.bsl fun b_ => ?_ | refine W.zu ?_ | refine W.zf ?_ | refine W.zd ?_ | refine W.zs ?_ | refine W.zv ?_ | refine W.zx ?_ | refine W.ex ?_ | refine W.mf ?_ | refine W.mk ?_)); refine SS.effB 3 ?_ rfl (by kernel_rfl); (repeat' (first | refine W.mv ?_ | refine W.zl ?_ | refine W.fa ?_ | refine W.nl ?_ | refine W.as ?_ | refine W.zb ?_ | refine W.za ?_ | refine W.zi ?_ | refine W.zc ?_ | refine W.zp ?_ | refine W.st ?_ | refine SL.nilB ?_ | refine SL.nil ?_ | refine W.al fun b_ => ?_ | refine W.bx fun b_ => ?_ | refine W.bxa fun b_ => ?_ | refine W.sw ?_ | refine W.sa ?_ | refine W.sk ?_ | refine W.bs0 fun b_ => ?_ | refine W.ma fun b_ => ?_ | refine W.bsl fun b_ => ?_ | refine W.zu ?_ | refine W.zf ?_ | refine W.zd ?_ | refine W.zs ?_ | refine W.zv ?_ | refine W.zx ?_ | refine W.ex ?_ | refine W.mf ?_ | refine W.mk ?_)); refine SS.done ?_ (by kernel_rfl))
  (repeat' (first | refine W.mv ?_ | refine W.zl ?_ | refine W.fa ?_ | refine W.nl ?_ | refine W.as ?_ | refine W.zb ?_ | refine W.za ?_ | refine W.zi ?_ | refine W.zc ?_ | refine W.zp ?_ | refine W.st ?_ | refine SL.nilB ?_ | refine SL.nil ?_ | refine W.al fun b_ => ?_ | refine W.bx fun b_ => ?_ | refine W.bxa fun b_ => ?_ | refine W.sw ?_ | refine W.sa ?_ | refine W.sk ?_ | refine W.bs0 fun b_ => ?_ | refine W.ma fun b_ => ?_ | refine W.bsl fun b_ => ?_ | refine W.zu ?_ | refine W.zf ?_ | refine W.zd ?_ | refine W.zs ?_ | refine W.zv ?_ | refine W.zx ?_ | refine W.ex ?_ | refine W.mf ?_ | refine W.mk ?_ | refine SW.seq ?_ | refine SW.region ?_ | refine SW.block ?_ | refine SW.cond_t rfl ?_ | refine SW.cond_f rfl ?_ | refine SW.exit ?_ | refine SW.ret ?_ | refine SW.skip ?_))
  exact F.cc _ _ ⟨rfl, rfl⟩
end Go.Proofs.YtieamijnajbcnaaGreat
