/- The document's sums of levels, its root. -/
import Derived.Test.YtieamijnajbcnaaD2
import Derived.Test.YtieamijnajbcnaaD3
set_option linter.unusedVariables false
set_option linter.unusedSimpArgs false
namespace Go.Proofs.Ytieamijnajbcnaa
open Go
attribute [local irreducible] SW SL SQ SH SA SS Pu Fin CutF HandF

/-- A row of sums that is read. -/
theorem Rd.row {K : List Nat} {w : World} {v : Value} {L : List (List UInt8)} (h : Rd K w 32 v (cbs L.flatten)) (hL : D32 L) : ∃ (a : Option Addr) (cap : Nat), v = .slice a L.length cap ∧ L.length ≤ cap ∧
    ∀ (i : Nat) (x : List UInt8), L[i]? = some x → ∃ (b o : Nat) (l : List Value) (T : TypeId) (fz : Nat × Nat), a = some ⟨b, o, none⟩ ∧ w.heap[b]? = some (.cells l.toArray T fz) ∧ b ∉ K ∧ (l.drop (o + i * 32)).take 32 = cbs x := by
  obtain ⟨a, len, cap, rfl, h1, h2, h3⟩ := h
  have hl : L.length = len := by
    rw [cbs_len, flatN_len hL] at h1
    omega
  subst hl
  refine ⟨a, cap, rfl, h2, fun i x hi => ?_⟩
  have hlt : i < L.length := (List.getElem?_eq_some_iff.1 hi).1
  obtain ⟨b, o, l, T, fz, rfl, hb, hk, hy⟩ := h3.resolve_left (by omega)
  refine ⟨b, o, l, T, fz, rfl, hb, hk, ?_⟩
  rw [← cbs_get hL hi, ← hy, List.drop_take, List.take_take, List.drop_drop, Nat.min_eq_left (by omega)]
theorem rat_p (l : List (List UInt8)) (hl : D32 l) (v : Value) (hn : l.length ≤ 1099511627776) : ∀ (d i : Nat), (i + 1) * 2 ^ d ≤ 1099511627776 →
    Tri Try.prog 25 [v, .int .i64 (d : Int), .int .i64 (i : Int)] [] (fun w => Rd [] w 32 v (cbs l.flatten)) (fun r H => r = dgV (atV l d i) ∧ H = []) := by
  intro d
  induction d with
  | zero =>
    intro i hi
    refine Tri.mk Try.func25 rfl Try.ntmps25 rfl fun w hw => ?_
    have hw2 := hw
    obtain ⟨a, cap, rfl, hc, hg⟩ := hw.row hl
    have hr := cl32 (atV_len hl 0 i)
    by_cases h : i < l.length
    · obtain ⟨b, o, lv, T, fz, rfl, hb, hk, hv⟩ := hg i _ (List.getElem?_eq_getElem h)
      have ha : atV l 0 i = l[i] := by unfold atV; rw [List.getD_eq_getElem?_getD, List.getElem?_eq_getElem h]; rfl
      rw [← ha] at hv
      (repeat' (first | refine W.mv ?_ | refine W.zl ?_ | refine W.fa ?_ | refine W.nl ?_ | refine W.as ?_ | refine W.zb ?_ | refine W.za ?_ | refine W.zi ?_ | refine W.zc ?_ | refine W.zp ?_ | refine W.st ?_ | refine SL.nilB ?_ | refine SL.nil ?_ | refine W.al fun b_ => ?_ | refine W.bx fun b_ => ?_ | refine W.bxa fun b_ => ?_ | refine W.sw ?_ | refine W.sa ?_ | refine W.sk ?_ | refine W.bs0 fun b_ => ?_ | refine W.ma fun b_ => ?_ | refine W.bsl fun b_ => ?_ | refine W.zu ?_ | refine W.zf ?_ | refine W.zd ?_ | refine W.zs ?_ | refine W.zv ?_ | refine W.zx ?_ | refine W.ex ?_ | refine W.mf ?_ | refine W.mk ?_ | refine SW.seq ?_ | refine SW.region ?_ | refine SW.block ?_ | refine SW.cond_t rfl ?_ | refine SW.cond_f rfl ?_ | refine SW.exit ?_ | refine SW.ret ?_ | refine SW.skip ?_))
      exact F.c0 (cbs (atV l 0 i)) ⟨rfl, rfl⟩
    · have ha : atV l 0 i = z32 := by unfold atV; rw [List.getD_eq_getElem?_getD, List.getElem?_eq_none (by omega)]; rfl
      (repeat' (first | refine W.mv ?_ | refine W.zl ?_ | refine W.fa ?_ | refine W.nl ?_ | refine W.as ?_ | refine W.zb ?_ | refine W.za ?_ | refine W.zi ?_ | refine W.zc ?_ | refine W.zp ?_ | refine W.st ?_ | refine SL.nilB ?_ | refine SL.nil ?_ | refine W.al fun b_ => ?_ | refine W.bx fun b_ => ?_ | refine W.bxa fun b_ => ?_ | refine W.sw ?_ | refine W.sa ?_ | refine W.sk ?_ | refine W.bs0 fun b_ => ?_ | refine W.ma fun b_ => ?_ | refine W.bsl fun b_ => ?_ | refine W.zu ?_ | refine W.zf ?_ | refine W.zd ?_ | refine W.zs ?_ | refine W.zv ?_ | refine W.zx ?_ | refine W.ex ?_ | refine W.mf ?_ | refine W.mk ?_ | refine SW.seq ?_ | refine SW.region ?_ | refine SW.block ?_ | refine SW.cond_t rfl ?_ | refine SW.cond_f rfl ?_ | refine SW.exit ?_ | refine SW.ret ?_ | refine SW.skip ?_))
      rw [ha]
      exact F.c0 (cbs z32) ⟨rfl, rfl⟩
  | succ d ih =>
    intro i hi
    refine Tri.mk Try.func25 rfl Try.ntmps25 rfl fun w hw => ?_
    have hw2 := hw
    obtain ⟨a, cap, rfl, hc, hg⟩ := hw.row hl
    have hr := cl32 (atV_len hl (d + 1) i)
    have hx1 := atV_len hl d (2 * i)
    have hx2 := atV_len hl d (2 * i + 1)
    rw [Nat.pow_succ] at hi
    have hb1 : (2 * i + 1) * 2 ^ d ≤ (i + 1) * (2 ^ d * 2) := by rw [← Nat.mul_assoc, Nat.mul_right_comm]; exact Nat.mul_le_mul_right _ (by omega)
    have hb2 : (2 * i + 1 + 1) * 2 ^ d ≤ (i + 1) * (2 ^ d * 2) := by rw [← Nat.mul_assoc, Nat.mul_right_comm]; exact Nat.mul_le_mul_right _ (by omega)
    have hi3 : 2 * i + 1 ≤ (2 * i + 1) * 2 ^ d := Nat.le_mul_of_pos_right _ (Nat.pow_pos (by omega))
    have hd3 : d < 2 ^ d := Nat.lt_two_pow_self
    have hd4 : 2 ^ d ≤ (2 * i + 1) * 2 ^ d := Nat.le_mul_of_pos_left _ (by omega)
    have h1 := ih (2 * i) (by omega)
    have h2 := ih (2 * i + 1) (by omega)
    have e1 : (((d + 1 : Nat) : Int) - 1) = (d : Int) := by omega
    have e2 : ((2 * i : Nat) : Int) = 2 * (i : Int) := by omega
    have e3 : ((2 * i + 1 : Nat) : Int) = 2 * (i : Int) + 1 := by omega
    generalize (i + 1) * (2 ^ d * 2) = X at hi hb1 hb2
    generalize (2 * i + 1) * 2 ^ d = Y at hb1 hi3 hd4
    generalize (2 * i + 1 + 1) * 2 ^ d = Z at hb2
    generalize 2 ^ d = D at hd3 hd4
    (repeat' (first | refine W.mv ?_ | refine W.zl ?_ | refine W.fa ?_ | refine W.nl ?_ | refine W.as ?_ | refine W.zb ?_ | refine W.za ?_ | refine W.zi ?_ | refine W.zc ?_ | refine W.zp ?_ | refine W.st ?_ | refine SL.nilB ?_ | refine SL.nil ?_ | refine W.al fun b_ => ?_ | refine W.bx fun b_ => ?_ | refine W.bxa fun b_ => ?_ | refine W.sw ?_ | refine W.sa ?_ | refine W.sk ?_ | refine W.bs0 fun b_ => ?_ | refine W.ma fun b_ => ?_ | refine W.bsl fun b_ => ?_ | refine W.zu ?_ | refine W.zf ?_ | refine W.zd ?_ | refine W.zs ?_ | refine W.zv ?_ | refine W.zx ?_ | refine W.ex ?_ | refine W.mf ?_ | refine W.mk ?_ | refine SW.seq ?_ | refine SW.region ?_ | refine SW.block ?_ | refine SW.cond_t rfl ?_ | refine SW.cond_f rfl ?_ | refine SW.exit ?_ | refine SW.ret ?_ | refine SW.skip ?_))
    refine W.callE h1 ?_ ?_ (hpre := fun w2 hs => hw2.ro (Hc := []) hs)
    · rw [e1, e2]
    rintro _ _ ⟨rfl, rfl⟩
    (repeat' (first | refine W.mv ?_ | refine W.zl ?_ | refine W.fa ?_ | refine W.nl ?_ | refine W.as ?_ | refine W.zb ?_ | refine W.za ?_ | refine W.zi ?_ | refine W.zc ?_ | refine W.zp ?_ | refine W.st ?_ | refine SL.nilB ?_ | refine SL.nil ?_ | refine W.al fun b_ => ?_ | refine W.bx fun b_ => ?_ | refine W.bxa fun b_ => ?_ | refine W.sw ?_ | refine W.sa ?_ | refine W.sk ?_ | refine W.bs0 fun b_ => ?_ | refine W.ma fun b_ => ?_ | refine W.bsl fun b_ => ?_ | refine W.zu ?_ | refine W.zf ?_ | refine W.zd ?_ | refine W.zs ?_ | refine W.zv ?_ | refine W.zx ?_ | refine W.ex ?_ | refine W.mf ?_ | refine W.mk ?_ | refine SW.seq ?_ | refine SW.region ?_ | refine SW.block ?_ | refine SW.cond_t rfl ?_ | refine SW.cond_f rfl ?_ | refine SW.exit ?_ | refine SW.ret ?_ | refine SW.skip ?_))
    refine W.callE h2 ?_ ?_ (hpre := fun w2 hs => hw2.ro (Hc := []) hs)
    · rw [e1, e3]
    rintro _ _ ⟨rfl, rfl⟩
    (repeat' (first | refine W.mv ?_ | refine W.zl ?_ | refine W.fa ?_ | refine W.nl ?_ | refine W.as ?_ | refine W.zb ?_ | refine W.za ?_ | refine W.zi ?_ | refine W.zc ?_ | refine W.zp ?_ | refine W.st ?_ | refine SL.nilB ?_ | refine SL.nil ?_ | refine W.al fun b_ => ?_ | refine W.bx fun b_ => ?_ | refine W.bxa fun b_ => ?_ | refine W.sw ?_ | refine W.sa ?_ | refine W.sk ?_ | refine W.bs0 fun b_ => ?_ | refine W.ma fun b_ => ?_ | refine W.bsl fun b_ => ?_ | refine W.zu ?_ | refine W.zf ?_ | refine W.zd ?_ | refine W.zs ?_ | refine W.zv ?_ | refine W.zx ?_ | refine W.ex ?_ | refine W.mf ?_ | refine W.mk ?_ | refine SW.seq ?_ | refine SW.region ?_ | refine SW.block ?_ | refine SW.cond_t rfl ?_ | refine SW.cond_f rfl ?_ | refine SW.exit ?_ | refine SW.ret ?_ | refine SW.skip ?_))
    refine W.call (rnode_p (d + 1) i _ _ hx1 hx2) ?_
    rintro _ _ ⟨rfl, rfl⟩
    rw [show nodeV (d + 1) i (atV l d (2 * i)) (atV l d (2 * i + 1)) = atV l (d + 1) i from rfl]
    (repeat' (first | refine W.mv ?_ | refine W.zl ?_ | refine W.fa ?_ | refine W.nl ?_ | refine W.as ?_ | refine W.zb ?_ | refine W.za ?_ | refine W.zi ?_ | refine W.zc ?_ | refine W.zp ?_ | refine W.st ?_ | refine SL.nilB ?_ | refine SL.nil ?_ | refine W.al fun b_ => ?_ | refine W.bx fun b_ => ?_ | refine W.bxa fun b_ => ?_ | refine W.sw ?_ | refine W.sa ?_ | refine W.sk ?_ | refine W.bs0 fun b_ => ?_ | refine W.ma fun b_ => ?_ | refine W.bsl fun b_ => ?_ | refine W.zu ?_ | refine W.zf ?_ | refine W.zd ?_ | refine W.zs ?_ | refine W.zv ?_ | refine W.zx ?_ | refine W.ex ?_ | refine W.mf ?_ | refine W.mk ?_ | refine SW.seq ?_ | refine SW.region ?_ | refine SW.block ?_ | refine SW.cond_t rfl ?_ | refine SW.cond_f rfl ?_ | refine SW.exit ?_ | refine SW.ret ?_ | refine SW.skip ?_))
    exact F.c0 (cbs (atV l (d + 1) i)) ⟨rfl, rfl⟩
theorem rroot_p (l : List (List UInt8)) (hl : D32 l) (v : Value) (hn : l.length ≤ 1024) :
    Tri Try.prog 21 [v] [] (fun w => Rd [] w 32 v (cbs l.flatten)) (fun r H => r = dgV (rootV l) ∧ H = []) := by
  refine Tri.mk Try.func21 rfl Try.ntmps21 rfl fun w hw => ?_
  have hw2 := hw
  obtain ⟨a, cap, rfl, hc, hg⟩ := hw.row hl
  have hr := cl32 (Sha.sum_len (rootT l.length (topV l)))
  have hd : dep l.length ≤ 10 := dep_max (by simpa using hn)
  have hd2 : 2 ^ dep l.length ≤ 2 ^ 10 := Nat.pow_le_pow_right (by omega) hd
  have ht : (topV l).length = 32 := atV_len hl _ _
  (repeat' (first | refine W.mv ?_ | refine W.zl ?_ | refine W.fa ?_ | refine W.nl ?_ | refine W.as ?_ | refine W.zb ?_ | refine W.za ?_ | refine W.zi ?_ | refine W.zc ?_ | refine W.zp ?_ | refine W.st ?_ | refine SL.nilB ?_ | refine SL.nil ?_ | refine W.al fun b_ => ?_ | refine W.bx fun b_ => ?_ | refine W.bxa fun b_ => ?_ | refine W.sw ?_ | refine W.sa ?_ | refine W.sk ?_ | refine W.bs0 fun b_ => ?_ | refine W.ma fun b_ => ?_ | refine W.bsl fun b_ => ?_ | refine W.zu ?_ | refine W.zf ?_ | refine W.zd ?_ | refine W.zs ?_ | refine W.zv ?_ | refine W.zx ?_ | refine W.ex ?_ | refine W.mf ?_ | refine W.mk ?_ | refine SW.seq ?_ | refine SW.region ?_ | refine SW.block ?_ | refine SW.cond_t rfl ?_ | refine SW.cond_f rfl ?_ | refine SW.exit ?_ | refine SW.ret ?_ | refine SW.skip ?_))
  refine W.call (rdepth_p l.length (by omega)) ?_
  rintro _ _ ⟨rfl, rfl⟩
  (repeat' (first | refine W.mv ?_ | refine W.zl ?_ | refine W.fa ?_ | refine W.nl ?_ | refine W.as ?_ | refine W.zb ?_ | refine W.za ?_ | refine W.zi ?_ | refine W.zc ?_ | refine W.zp ?_ | refine W.st ?_ | refine SL.nilB ?_ | refine SL.nil ?_ | refine W.al fun b_ => ?_ | refine W.bx fun b_ => ?_ | refine W.bxa fun b_ => ?_ | refine W.sw ?_ | refine W.sa ?_ | refine W.sk ?_ | refine W.bs0 fun b_ => ?_ | refine W.ma fun b_ => ?_ | refine W.bsl fun b_ => ?_ | refine W.zu ?_ | refine W.zf ?_ | refine W.zd ?_ | refine W.zs ?_ | refine W.zv ?_ | refine W.zx ?_ | refine W.ex ?_ | refine W.mf ?_ | refine W.mk ?_ | refine SW.seq ?_ | refine SW.region ?_ | refine SW.block ?_ | refine SW.cond_t rfl ?_ | refine SW.cond_f rfl ?_ | refine SW.exit ?_ | refine SW.ret ?_ | refine SW.skip ?_))
  refine W.callE (rat_p l hl (.slice a l.length cap) (by omega) (dep l.length) 0 (by omega)) rfl ?_ (hpre := fun w2 hs => hw2.ro (Hc := []) hs)
  rintro _ _ ⟨rfl, rfl⟩
  rw [show atV l (dep l.length) 0 = topV l from rfl]
  (repeat' (first | refine W.mv ?_ | refine W.zl ?_ | refine W.fa ?_ | refine W.nl ?_ | refine W.as ?_ | refine W.zb ?_ | refine W.za ?_ | refine W.zi ?_ | refine W.zc ?_ | refine W.zp ?_ | refine W.st ?_ | refine SL.nilB ?_ | refine SL.nil ?_ | refine W.al fun b_ => ?_ | refine W.bx fun b_ => ?_ | refine W.bxa fun b_ => ?_ | refine W.sw ?_ | refine W.sa ?_ | refine W.sk ?_ | refine W.bs0 fun b_ => ?_ | refine W.ma fun b_ => ?_ | refine W.bsl fun b_ => ?_ | refine W.zu ?_ | refine W.zf ?_ | refine W.zd ?_ | refine W.zs ?_ | refine W.zv ?_ | refine W.zx ?_ | refine W.ex ?_ | refine W.mf ?_ | refine W.mk ?_ | refine SW.seq ?_ | refine SW.region ?_ | refine SW.block ?_ | refine SW.cond_t rfl ?_ | refine SW.cond_f rfl ?_ | refine SW.exit ?_ | refine SW.ret ?_ | refine SW.skip ?_))
  refine W.call (rtop_p l.length _ ht) ?_
  rintro _ _ ⟨rfl, rfl⟩
  (repeat' (first | refine W.mv ?_ | refine W.zl ?_ | refine W.fa ?_ | refine W.nl ?_ | refine W.as ?_ | refine W.zb ?_ | refine W.za ?_ | refine W.zi ?_ | refine W.zc ?_ | refine W.zp ?_ | refine W.st ?_ | refine SL.nilB ?_ | refine SL.nil ?_ | refine W.al fun b_ => ?_ | refine W.bx fun b_ => ?_ | refine W.bxa fun b_ => ?_ | refine W.sw ?_ | refine W.sa ?_ | refine W.sk ?_ | refine W.bs0 fun b_ => ?_ | refine W.ma fun b_ => ?_ | refine W.bsl fun b_ => ?_ | refine W.zu ?_ | refine W.zf ?_ | refine W.zd ?_ | refine W.zs ?_ | refine W.zv ?_ | refine W.zx ?_ | refine W.ex ?_ | refine W.mf ?_ | refine W.mk ?_ | refine SW.seq ?_ | refine SW.region ?_ | refine SW.block ?_ | refine SW.cond_t rfl ?_ | refine SW.cond_f rfl ?_ | refine SW.exit ?_ | refine SW.ret ?_ | refine SW.skip ?_))
  exact F.c0 (cbs (rootV l)) ⟨rfl, rfl⟩
end Go.Proofs.Ytieamijnajbcnaa
