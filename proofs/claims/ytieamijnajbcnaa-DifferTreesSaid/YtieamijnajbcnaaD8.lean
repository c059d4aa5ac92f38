/- What stands beside a leaf's way up; the root that a way leads to. -/
import Derived.Test.YtieamijnajbcnaaD7
set_option linter.unusedVariables false
set_option linter.unusedSimpArgs false
namespace Go.Proofs.Ytieamijnajbcnaa
open Go
attribute [local irreducible] SW SL SQ SH SA SS Pu Fin CutF HandF

def sib (k : Nat) : Nat := if k % 2 = 1 then k - 1 else k + 1
theorem xor_sib (k : Nat) : k ^^^ 1 = sib k := by
  have h1 : (k ^^^ 1) / 2 = k / 2 := by rw [Nat.xor_div_two]; simp
  have h2 := Nat.xor_mod_two_eq_one (a := k) (b := 1)
  unfold sib
  split <;> omega
theorem sib_lt {k m : Nat} (h : k < m * 2) : sib k < m * 2 := by
  unfold sib
  split <;> omega
theorem xor1 {k : Nat} (h : k ≤ 1099511627776) : UAr .xor .i64 (k : Int) 1 ((sib k : Nat) : Int) := ⟨fun P w t => by
  have e : IntKind.i64.wrap (((BitVec.ofInt IntKind.i64.bits (k : Int) ^^^ BitVec.ofInt IntKind.i64.bits 1).toNat : Nat) : Int) = ((sib k : Nat) : Int) := by
    have h1 : (BitVec.ofInt IntKind.i64.bits (k : Int)).toNat = k := by
      rw [BitVec.toNat_ofInt]
      show ((k : Int) % 18446744073709551616).toNat = k
      omega
    have h2 : (BitVec.ofInt IntKind.i64.bits 1).toNat = 1 := rfl
    rw [BitVec.toNat_xor, h1, h2, xor_sib]
    have : sib k ≤ k + 1 := by unfold sib; split <;> omega
    exact w64 (by omega)
  simp only [binOp, Op.intBits, ne_eq, not_true_eq_false, if_false, Sem.run_pure]
  exact congrArg (fun z => Result.ok (Value.int .i64 z) w) e⟩
def pathV (l : List (List UInt8)) (k D : Nat) : List (List UInt8) := (List.range D).map fun d => atV l d (sib (k / 2 ^ d))
theorem pathV_32 {l : List (List UInt8)} (hl : D32 l) (k D : Nat) : D32 (pathV l k D) := by
  intro x hx
  obtain ⟨d, -, rfl⟩ := List.mem_map.1 hx
  exact atV_len hl _ _
theorem pathV_len (l : List (List UInt8)) (k D : Nat) : (pathV l k D).length = D := by simp [pathV]
theorem pathV_next (l : List (List UInt8)) (k D : Nat) : pathV l k D ++ [atV l D (sib (k / 2 ^ D))] = pathV l k (D + 1) := by simp [pathV, List.range_succ]
theorem snoc_fl (L : List (List UInt8)) (x : List UInt8) : cbs L.flatten ++ cbs x = cbs (L ++ [x]).flatten := by simp
theorem half_pow (k d : Nat) : k / 2 ^ d / 2 = k / 2 ^ (d + 1) := by rw [Nat.pow_succ, Nat.div_div_eq_div_mul]
theorem b1d {x : List UInt8} (h : x.length = 32) : bfill (fun i => some (i * 32, 32)) (zs (List.replicate 32 (.int .u8 0)) 1) [(0, dgV x)] = some (cbs x) := by
  have h1 : (vl (dgV x)).length = 32 := cl32 h
  have h2 : (zs (List.replicate 32 (.int .u8 0)) 1).length = 32 := by rw [zs_length, List.length_replicate]
  unfold bfill
  dsimp only
  rw [if_pos ⟨h1, by omega⟩]
  unfold bfill
  rw [Nat.zero_mul, List.take_zero, List.nil_append, Nat.zero_add, List.drop_of_length_le (by omega), List.append_nil]
  rfl
def pathOf (l : List (List UInt8)) (k : Int) : List (List UInt8) := if 0 ≤ k ∧ k < l.length then pathV l k.toNat (dep l.length) else []
theorem Path_nil (k : Int) : Tri Try.prog 33 [.pointer none, .int .i64 k] [] (fun _ => True) (fun v H => v = .slice none 0 0 ∧ H = []) := by
  refine Tri.mk Try.func33 rfl Try.ntmps33 rfl fun w hw => ?_
  (repeat' (first | refine W.mv ?_ | refine W.zl ?_ | refine W.fa ?_ | refine W.nl ?_ | refine W.as ?_ | refine W.zb ?_ | refine W.za ?_ | refine W.zi ?_ | refine W.zc ?_ | refine W.zp ?_ | refine W.st ?_ | refine SL.nilB ?_ | refine SL.nil ?_ | refine W.al fun b_ => ?_ | refine W.bx fun b_ => ?_ | refine W.bxa fun b_ => ?_ | refine W.sw ?_ | refine W.sa ?_ | refine W.sk ?_ | refine W.bs0 fun b_ => ?_ | refine W.ma fun b_ => ?_ | refine W.bsl fun b_ => ?_ | refine W.zu ?_ | refine W.zf ?_ | refine W.zd ?_ | refine W.zs ?_ | refine W.zv ?_ | refine W.zx ?_ | refine W.ex ?_ | refine W.mf ?_ | refine W.mk ?_ | refine SW.seq ?_ | refine SW.region ?_ | refine SW.block ?_ | refine SW.cond_t rfl ?_ | refine SW.cond_f rfl ?_ | refine SW.exit ?_ | refine SW.ret ?_ | refine SW.skip ?_))
  refine W.call (has_nil k) ?_
  rintro _ _ ⟨rfl, rfl⟩
  (repeat' (first | refine W.mv ?_ | refine W.zl ?_ | refine W.fa ?_ | refine W.nl ?_ | refine W.as ?_ | refine W.zb ?_ | refine W.za ?_ | refine W.zi ?_ | refine W.zc ?_ | refine W.zp ?_ | refine W.st ?_ | refine SL.nilB ?_ | refine SL.nil ?_ | refine W.al fun b_ => ?_ | refine W.bx fun b_ => ?_ | refine W.bxa fun b_ => ?_ | refine W.sw ?_ | refine W.sa ?_ | refine W.sk ?_ | refine W.bs0 fun b_ => ?_ | refine W.ma fun b_ => ?_ | refine W.bsl fun b_ => ?_ | refine W.zu ?_ | refine W.zf ?_ | refine W.zd ?_ | refine W.zs ?_ | refine W.zv ?_ | refine W.zx ?_ | refine W.ex ?_ | refine W.mf ?_ | refine W.mk ?_ | refine SW.seq ?_ | refine SW.region ?_ | refine SW.block ?_ | refine SW.cond_t rfl ?_ | refine SW.cond_f rfl ?_ | refine SW.exit ?_ | refine SW.ret ?_ | refine SW.skip ?_))
  exact F.f1 ⟨rfl, rfl⟩
theorem Path_p {t b : Nat} {l : List (List UInt8)} {H : Hp} (hT : TreeV t b l H) (k : Int) (hl : D32 l) (h2 : l.length ≤ 1024) : Tri Try.prog 33 [.pointer (some ⟨t, 0, none⟩), .int .i64 k] H (fun _ => True) (fun v H' => ∃ Hs, H' = H ++ Hs ∧ Sl 25 32 v (cbs (pathOf l k).flatten) Hs) := by
  have hT2 := hT
  have hle := dep_le l.length
  have hd10 := dep_max (n := l.length) (k := 10) (by simpa using h2)
  obtain ⟨lb, lc, vs, lj, Hw, rfl, hrw, hvl, hlc⟩ := hT.open (by simp [rowsV])
  have hH := has_p hT2 k
  have hLl : (rowsV l (dep l.length) (dep l.length + 1)).length = dep l.length + 1 := by simp [rowsV]
  rw [hLl] at hlc hH ⊢
  refine Tri.mk Try.func33 rfl Try.ntmps33 rfl fun w hw => ?_
  haveI i0 : NatI (((dep l.length + 1 : Nat) : Int) - 1) (dep l.length) := ⟨by omega⟩
  by_cases hk : 0 ≤ k ∧ k < (l.length : Int)
  · rw [decide_eq_true hk] at hH
    have hp : pathOf l k = pathV l k.toNat (dep l.length) := by unfold pathOf; rw [if_pos hk]
    rw [hp]
    obtain ⟨j, rfl⟩ : ∃ j : Nat, k = (j : Int) := ⟨k.toNat, by omega⟩
    rw [Int.toNat_natCast]
    have hj : j < l.length := by omega
    generalize hD : dep l.length = D at *
    (repeat' (first | refine W.mv ?_ | refine W.zl ?_ | refine W.fa ?_ | refine W.nl ?_ | refine W.as ?_ | refine W.zb ?_ | refine W.za ?_ | refine W.zi ?_ | refine W.zc ?_ | refine W.zp ?_ | refine W.st ?_ | refine SL.nilB ?_ | refine SL.nil ?_ | refine W.al fun b_ => ?_ | refine W.bx fun b_ => ?_ | refine W.bxa fun b_ => ?_ | refine W.sw ?_ | refine W.sa ?_ | refine W.sk ?_ | refine W.bs0 fun b_ => ?_ | refine W.ma fun b_ => ?_ | refine W.bsl fun b_ => ?_ | refine W.zu ?_ | refine W.zf ?_ | refine W.zd ?_ | refine W.zs ?_ | refine W.zv ?_ | refine W.zx ?_ | refine W.ex ?_ | refine W.mf ?_ | refine W.mk ?_ | refine SW.seq ?_ | refine SW.region ?_ | refine SW.block ?_ | refine SW.cond_t rfl ?_ | refine SW.cond_f rfl ?_ | refine SW.exit ?_ | refine SW.ret ?_ | refine SW.skip ?_))
    refine W.call hH ?_
    rintro _ _ ⟨rfl, rfl⟩
    (repeat' (first | refine W.mv ?_ | refine W.zl ?_ | refine W.fa ?_ | refine W.nl ?_ | refine W.as ?_ | refine W.zb ?_ | refine W.za ?_ | refine W.zi ?_ | refine W.zc ?_ | refine W.zp ?_ | refine W.st ?_ | refine SL.nilB ?_ | refine SL.nil ?_ | refine W.al fun b_ => ?_ | refine W.bx fun b_ => ?_ | refine W.bxa fun b_ => ?_ | refine W.sw ?_ | refine W.sa ?_ | refine W.sk ?_ | refine W.bs0 fun b_ => ?_ | refine W.ma fun b_ => ?_ | refine W.bsl fun b_ => ?_ | refine W.zu ?_ | refine W.zf ?_ | refine W.zd ?_ | refine W.zs ?_ | refine W.zv ?_ | refine W.zx ?_ | refine W.ex ?_ | refine W.mf ?_ | refine W.mk ?_ | refine SW.seq ?_ | refine SW.region ?_ | refine SW.block ?_ | refine SW.cond_t rfl ?_ | refine SW.cond_f rfl ?_ | refine SW.exit ?_ | refine SW.ret ?_ | refine SW.skip ?_))
    (refine SW.regionS [] ?_ (by kernel_rfl); refine SS.tw 0 rfl (p_move rfl rfl) ?_; refine SS.tw 1 rfl (p_nil rfl rfl) ?_; refine SS.tw 2 rfl (p_fieldAddr rfl rfl OfN.ok) ?_; (first | refine SS.ls 3 [] rfl ?_ | refine SS.tw 3 rfl (p_load_sR rfl rfl (by assumption) (by assumption) (by assumption)) ?_); refine SS.tw 4 rfl (p_move rfl rfl) ?_; refine SS.tw 5 rfl (p_nil rfl rfl) ?_; refine SS.tw 6 rfl (p_fieldAddr rfl rfl OfN.ok) ?_; (first | refine SS.ls 7 [] rfl ?_ | refine SS.tw 7 rfl (p_load_sR rfl rfl (by assumption) (by assumption) (by assumption)) ?_); refine SS.tw 8 rfl (p_len_slice rfl rfl) ?_; (first | refine SS.tw 9 rfl (p_sub rfl rfl rfl (w64 (by omega))) ?_ | refine SS.tw 9 rfl (p_uar rfl rfl rfl) ?_); refine SS.tw 10 rfl (p_sl01 rfl rfl rfl (by omega)) ?_; refine SS.tw 11 rfl (p_len_slice rfl rfl) ?_; refine SS.tw 12 rfl (p_move rfl rfl) ?_; refine SS.done ?_ (by kernel_rfl))
    (repeat' (first | refine W.mv ?_ | refine W.zl ?_ | refine W.fa ?_ | refine W.nl ?_ | refine W.as ?_ | refine W.zb ?_ | refine W.za ?_ | refine W.zi ?_ | refine W.zc ?_ | refine W.zp ?_ | refine W.st ?_ | refine SL.nilB ?_ | refine SL.nil ?_ | refine W.al fun b_ => ?_ | refine W.bx fun b_ => ?_ | refine W.bxa fun b_ => ?_ | refine W.sw ?_ | refine W.sa ?_ | refine W.sk ?_ | refine W.bs0 fun b_ => ?_ | refine W.ma fun b_ => ?_ | refine W.bsl fun b_ => ?_ | refine W.zu ?_ | refine W.zf ?_ | refine W.zd ?_ | refine W.zs ?_ | refine W.zv ?_ | refine W.zx ?_ | refine W.ex ?_ | refine W.mf ?_ | refine W.mk ?_ | refine SW.seq ?_ | refine SW.region ?_ | refine SW.cond_t rfl ?_ | refine SW.cond_f rfl ?_ | refine SW.exit ?_ | refine SW.ret ?_ | refine SW.skip ?_))
    refine SW.cutH [] [] (fun x : Value × Hp => [(5, x.1)]) (fun x => x.2) (fun x => Sl 25 32 x.1 (cbs (pathV l j D).flatten) x.2) ?_ ?_
    · (repeat' (first | refine W.mv ?_ | refine W.zl ?_ | refine W.fa ?_ | refine W.nl ?_ | refine W.as ?_ | refine W.zb ?_ | refine W.za ?_ | refine W.zi ?_ | refine W.zc ?_ | refine W.zp ?_ | refine W.st ?_ | refine SL.nilB ?_ | refine SL.nil ?_ | refine W.al fun b_ => ?_ | refine W.bx fun b_ => ?_ | refine W.bxa fun b_ => ?_ | refine W.sw ?_ | refine W.sa ?_ | refine W.sk ?_ | refine W.bs0 fun b_ => ?_ | refine W.ma fun b_ => ?_ | refine W.bsl fun b_ => ?_ | refine W.zu ?_ | refine W.zf ?_ | refine W.zd ?_ | refine W.zs ?_ | refine W.zv ?_ | refine W.zx ?_ | refine W.ex ?_ | refine W.mf ?_ | refine W.mk ?_ | refine SW.seq ?_ | refine SW.region ?_ | refine SW.block ?_ | refine SW.cond_t rfl ?_ | refine SW.cond_f rfl ?_ | refine SW.exit ?_ | refine SW.ret ?_ | refine SW.skip ?_))
      rw [show (j : Int) = ((j / 2 ^ 0 : Nat) : Int) by simp]
      refine SW.loopF [22, 23] (fun x : Nat × Value × Hp => [(1, .int .i64 ((j / 2 ^ x.1 : Nat) : Int)), (5, x.2.1), (24, .int .i64 (x.1 : Int))]) (fun x => x.2.2) (fun x => D - x.1) (fun x => x.1 ≤ D ∧ Sl 25 32 x.2.1 (cbs (pathV l j x.1).flatten) x.2.2) (0, .slice none 0 0, []) ⟨Nat.zero_le _, Sl.nil _ _⟩ ?_
      rintro ⟨d, v2, H2⟩ ⟨hd, h2⟩
      dsimp only at hd h2 ⊢
      have h21 := h2.isOne
      by_cases hdD : d < D
      · obtain ⟨rb, rc, rj, hv, hat, hr32, hrc⟩ := hrw.get (rowsV_get l (D := D) (k := D + 1) (d := d) (by omega))
        rw [rowV_len] at hv hrc
        have hv2 := app_get (lj := lj) hv
        have hXY : 2 ^ (D - d) = 2 ^ (D - (d + 1)) * 2 := by rw [show D - d = D - (d + 1) + 1 by omega, Nat.pow_succ]
        have hjd : j / 2 ^ d < 2 ^ (D - d) := by
          rw [Nat.div_lt_iff_lt_mul (Nat.pow_pos (by omega)), ← Nat.pow_add, show D - d + d = D by omega]
          omega
        have hs : sib (j / 2 ^ d) < 2 ^ (D - d) := by rw [hXY] at hjd ⊢; exact sib_lt hjd
        have hg0 := rowV_get l (D := D) (d := d) hs
        have hg := cbs_getJ (junk := rj) hr32 hg0
        have hc := cl32 (hr32 _ (List.mem_of_getElem? hg0))
        have hjj : j / 2 ^ d ≤ j := Nat.div_le_self ..
        haveI i1 := xor1 (k := j / 2 ^ d) (by omega)
        have hb1 := b1d (hr32 _ (List.mem_of_getElem? hg0))
        have hnx := half_pow j d
        have hnp := pathV_next l j d
        have hpl := pathV_len l j d
        have hfl := flatN_len (pathV_32 hl j d)
        generalize sib (j / 2 ^ d) = S at *
        generalize 2 ^ (D - d) = X at *
        have hnx2 : ((j / 2 ^ (d + 1) : Nat) : Int) = ((j / 2 ^ d : Nat) : Int) / 2 := by rw [← hnx]; rfl
        generalize j / 2 ^ d = J at *
        (repeat' (first | refine W.mv ?_ | refine W.zl ?_ | refine W.fa ?_ | refine W.nl ?_ | refine W.as ?_ | refine W.zb ?_ | refine W.za ?_ | refine W.zi ?_ | refine W.zc ?_ | refine W.zp ?_ | refine W.st ?_ | refine SL.nilB ?_ | refine SL.nil ?_ | refine W.al fun b_ => ?_ | refine W.bx fun b_ => ?_ | refine W.bxa fun b_ => ?_ | refine W.sw ?_ | refine W.sa ?_ | refine W.sk ?_ | refine W.bs0 fun b_ => ?_ | refine W.ma fun b_ => ?_ | refine W.bsl fun b_ => ?_ | refine W.zu ?_ | refine W.zf ?_ | refine W.zd ?_ | refine W.zs ?_ | refine W.zv ?_ | refine W.zx ?_ | refine W.ex ?_ | refine W.mf ?_ | refine W.mk ?_ | refine SW.seq ?_ | refine SW.region ?_ | refine SW.block ?_ | refine SW.cond_t rfl ?_ | refine SW.cond_f rfl ?_ | refine SW.exit ?_ | refine SW.ret ?_ | refine SW.skip ?_))
        refine W.ap (ys := cbs (atV l d S)) (mm := 1) h2 (fun w2 hs => (Sl.own 25 32 b_ (xs := cbs (atV l d S)) hc).srcAt hs inferInstance) (fun v3 H3 h3 => ?_) (hys := hc) (hbytes := by rw [hc, cbs_len, hfl, hpl]; omega)
        have h31 := h3.isOne
        rw [snoc_fl, hnp] at h3
        (repeat' (first | refine W.mv ?_ | refine W.zl ?_ | refine W.fa ?_ | refine W.nl ?_ | refine W.as ?_ | refine W.zb ?_ | refine W.za ?_ | refine W.zi ?_ | refine W.zc ?_ | refine W.zp ?_ | refine W.st ?_ | refine SL.nilB ?_ | refine SL.nil ?_ | refine W.al fun b_ => ?_ | refine W.bx fun b_ => ?_ | refine W.bxa fun b_ => ?_ | refine W.sw ?_ | refine W.sa ?_ | refine W.sk ?_ | refine W.bs0 fun b_ => ?_ | refine W.ma fun b_ => ?_ | refine W.bsl fun b_ => ?_ | refine W.zu ?_ | refine W.zf ?_ | refine W.zd ?_ | refine W.zs ?_ | refine W.zv ?_ | refine W.zx ?_ | refine W.ex ?_ | refine W.mf ?_ | refine W.mk ?_ | refine SW.seq ?_ | refine SW.region ?_ | refine SW.block ?_ | refine SW.cond_t rfl ?_ | refine SW.cond_f rfl ?_ | refine SW.exit ?_ | refine SW.ret ?_ | refine SW.skip ?_))
        rw [← hnx2]
        refine HandF.mk (d + 1, v3, H3) ?_
        exact ⟨hdD, h3⟩
      · have hd2 : d = D := by omega
        subst hd2
        (repeat' (first | refine W.mv ?_ | refine W.zl ?_ | refine W.fa ?_ | refine W.nl ?_ | refine W.as ?_ | refine W.zb ?_ | refine W.za ?_ | refine W.zi ?_ | refine W.zc ?_ | refine W.zp ?_ | refine W.st ?_ | refine SL.nilB ?_ | refine SL.nil ?_ | refine W.al fun b_ => ?_ | refine W.bx fun b_ => ?_ | refine W.bxa fun b_ => ?_ | refine W.sw ?_ | refine W.sa ?_ | refine W.sk ?_ | refine W.bs0 fun b_ => ?_ | refine W.ma fun b_ => ?_ | refine W.bsl fun b_ => ?_ | refine W.zu ?_ | refine W.zf ?_ | refine W.zd ?_ | refine W.zs ?_ | refine W.zv ?_ | refine W.zx ?_ | refine W.ex ?_ | refine W.mf ?_ | refine W.mk ?_ | refine SW.seq ?_ | refine SW.region ?_ | refine SW.block ?_ | refine SW.cond_t rfl ?_ | refine SW.cond_f rfl ?_ | refine SW.exit ?_ | refine SW.ret ?_ | refine SW.skip ?_))
        refine CutF.mk (v2, H2) ?_
        exact h2
    rintro ⟨v2, H2⟩ h2
    dsimp only at h2 ⊢
    have h21 := h2.isOne
    (repeat' (first | refine W.mv ?_ | refine W.zl ?_ | refine W.fa ?_ | refine W.nl ?_ | refine W.as ?_ | refine W.zb ?_ | refine W.za ?_ | refine W.zi ?_ | refine W.zc ?_ | refine W.zp ?_ | refine W.st ?_ | refine SL.nilB ?_ | refine SL.nil ?_ | refine W.al fun b_ => ?_ | refine W.bx fun b_ => ?_ | refine W.bxa fun b_ => ?_ | refine W.sw ?_ | refine W.sa ?_ | refine W.sk ?_ | refine W.bs0 fun b_ => ?_ | refine W.ma fun b_ => ?_ | refine W.bsl fun b_ => ?_ | refine W.zu ?_ | refine W.zf ?_ | refine W.zd ?_ | refine W.zs ?_ | refine W.zv ?_ | refine W.zx ?_ | refine W.ex ?_ | refine W.mf ?_ | refine W.mk ?_ | refine SW.seq ?_ | refine SW.region ?_ | refine SW.block ?_ | refine SW.cond_t rfl ?_ | refine SW.cond_f rfl ?_ | refine SW.exit ?_ | refine SW.ret ?_ | refine SW.skip ?_))
    refine Fin.to (((t, cl [.pointer (some ⟨b, 0, none⟩), .int .i64 (l.length : Int), .slice (some ⟨lb, 0, none⟩) (D + 1) lc] 87) :: ([(lb, cl (vs ++ lj) 38)] ++ Hw)) ++ H2) ?_
    refine F.f1 ?_
    exact ⟨H2, rfl, h2⟩
  · rw [decide_eq_false hk] at hH
    have hp : pathOf l k = [] := by unfold pathOf; rw [if_neg hk]
    rw [hp]
    (repeat' (first | refine W.mv ?_ | refine W.zl ?_ | refine W.fa ?_ | refine W.nl ?_ | refine W.as ?_ | refine W.zb ?_ | refine W.za ?_ | refine W.zi ?_ | refine W.zc ?_ | refine W.zp ?_ | refine W.st ?_ | refine SL.nilB ?_ | refine SL.nil ?_ | refine W.al fun b_ => ?_ | refine W.bx fun b_ => ?_ | refine W.bxa fun b_ => ?_ | refine W.sw ?_ | refine W.sa ?_ | refine W.sk ?_ | refine W.bs0 fun b_ => ?_ | refine W.ma fun b_ => ?_ | refine W.bsl fun b_ => ?_ | refine W.zu ?_ | refine W.zf ?_ | refine W.zd ?_ | refine W.zs ?_ | refine W.zv ?_ | refine W.zx ?_ | refine W.ex ?_ | refine W.mf ?_ | refine W.mk ?_ | refine SW.seq ?_ | refine SW.region ?_ | refine SW.block ?_ | refine SW.cond_t rfl ?_ | refine SW.cond_f rfl ?_ | refine SW.exit ?_ | refine SW.ret ?_ | refine SW.skip ?_))
    refine W.call hH ?_
    rintro _ _ ⟨rfl, rfl⟩
    (repeat' (first | refine W.mv ?_ | refine W.zl ?_ | refine W.fa ?_ | refine W.nl ?_ | refine W.as ?_ | refine W.zb ?_ | refine W.za ?_ | refine W.zi ?_ | refine W.zc ?_ | refine W.zp ?_ | refine W.st ?_ | refine SL.nilB ?_ | refine SL.nil ?_ | refine W.al fun b_ => ?_ | refine W.bx fun b_ => ?_ | refine W.bxa fun b_ => ?_ | refine W.sw ?_ | refine W.sa ?_ | refine W.sk ?_ | refine W.bs0 fun b_ => ?_ | refine W.ma fun b_ => ?_ | refine W.bsl fun b_ => ?_ | refine W.zu ?_ | refine W.zf ?_ | refine W.zd ?_ | refine W.zs ?_ | refine W.zv ?_ | refine W.zx ?_ | refine W.ex ?_ | refine W.mf ?_ | refine W.mk ?_ | refine SW.seq ?_ | refine SW.region ?_ | refine SW.block ?_ | refine SW.cond_t rfl ?_ | refine SW.cond_f rfl ?_ | refine SW.exit ?_ | refine SW.ret ?_ | refine SW.skip ?_))
    refine Fin.to (((t, cl [.pointer (some ⟨b, 0, none⟩), .int .i64 (l.length : Int), .slice (some ⟨lb, 0, none⟩) (dep l.length + 1) lc] 87) :: ([(lb, cl (vs ++ lj) 38)] ++ Hw)) ++ []) ?_
    refine F.f1 ?_
    exact ⟨[], rfl, Sl.nil _ _⟩
end Go.Proofs.Ytieamijnajbcnaa
