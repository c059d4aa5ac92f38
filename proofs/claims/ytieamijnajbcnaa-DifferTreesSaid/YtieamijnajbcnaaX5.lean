/- In which leaves two trees are unlike, and how many pairs of sums tell that. -/
import Derived.Test.YtieamijnajbcnaaX4
set_option linter.unusedVariables false
set_option linter.unusedSimpArgs false
set_option linter.unusedSectionVars false
namespace Go.Proofs.Ytieamijnajbcnaa
open Go
attribute [local irreducible] SW SL SQ SH SA SS Pu Fin CutF HandF

theorem flatMap_len {α : Type} {f : Nat → List α} {N : Nat} (h : ∀ d, (f d).length ≤ N) : ∀ k, ((List.range k).flatMap f).length ≤ k * N := by
  intro k
  induction k with
  | zero => simp
  | succ k ih =>
    rw [List.range_succ, List.flatMap_append, List.length_append, Nat.succ_mul]
    have := h k
    simp only [List.flatMap_cons, List.flatMap_nil, List.append_nil]
    omega
theorem textsV_len (l : List (List UInt8)) {D : Nat} (h : D ≤ 5) : (textsV l D).length ≤ 160 := by
  have h1 := flatMap_len (f := fun d => (List.range (2 ^ (D - (d + 1)))).map fun i => nodeT (d + 1) i (atV l d (2 * i)) (atV l d (2 * i + 1))) (N := 32) (fun d => by
    rw [List.length_map, List.length_range]
    exact Nat.pow_le_pow_right (n := 2) (by omega) (show D - (d + 1) ≤ 5 by omega)) D
  unfold textsV
  omega
theorem nodeT_len {d i : Nat} {x y : List UInt8} (hx : x.length = 32) (hy : y.length = 32) : (nodeT d i x y).length = 70 := by simp [nodeT, leN_len, hx, hy]
theorem rootT_len {n : Nat} {x : List UInt8} (hx : x.length = 32) : (rootT n x).length = 37 := by simp [rootT, leN_len, hx]
theorem textsV_121 {l : List (List UInt8)} (hl : D32 l) (D : Nat) : ∀ t ∈ textsV l D, t.length ≤ 121 := by
  intro t ht
  obtain ⟨d, -, h2⟩ := List.mem_flatMap.1 ht
  obtain ⟨i, -, rfl⟩ := List.mem_map.1 h2
  rw [nodeT_len (atV_len hl _ _) (atV_len hl _ _)]
  omega
theorem seenL_le (xs : List Nat) : (seenL xs).length ≤ xs.length := by
  have key : ∀ (xs s : List Nat), (xs.foldl seenS s).length ≤ s.length + xs.length := by
    intro xs
    induction xs with
    | nil => intro s; simp
    | cons x xs ih =>
      intro s
      have := ih (seenS s x)
      have h2 : (seenS s x).length ≤ s.length + 1 := by unfold seenS; split <;> simp
      rw [List.foldl_cons, List.length_cons]
      omega
  simpa [seenL] using key xs []
theorem aboveV_le (ks : List Nat) (D : Nat) : aboveV ks D ≤ D * ks.length := by
  induction D with
  | zero => simp [aboveV]
  | succ D ih =>
    have := seenL_le (ks.map fun k => k / 2 ^ (D + 1))
    rw [List.length_map] at this
    unfold aboveV seenAt
    rw [Nat.succ_mul]
    omega
theorem flatN_setB {α : Type} {n : Nat} {L : List (List α)} {x : List α} {c : α} (h : ∀ x ∈ L, x.length = n) : ∀ {k i : Nat}, i < n → L[k]? = some x → L.flatten.set (k * n + i) c = (L.set k (x.set i c)).flatten := by
  induction L with
  | nil => intro k i _ hk; simp at hk
  | cons a t ih =>
    intro k i hi hk
    have ha := h a (List.mem_cons_self ..)
    cases k with
    | zero =>
      simp only [List.getElem?_cons_zero, Option.some.injEq] at hk
      subst hk
      rw [List.flatten_cons, Nat.zero_mul, Nat.zero_add, List.set_append_left _ _ (by omega), List.set_cons_zero, List.flatten_cons]
    | succ k =>
      rw [List.getElem?_cons_succ] at hk
      rw [List.flatten_cons, List.set_append_right _ _ (by rw [ha, Nat.succ_mul]; omega), ha, show (k + 1) * n + i - n = k * n + i by rw [Nat.succ_mul]; omega, ih (fun y hy => h y (List.mem_cons_of_mem _ hy)) hi hk, List.set_cons_succ, List.flatten_cons]
theorem cbs_setB {L : List (List UInt8)} {junk : List Value} {x : List UInt8} (c : UInt8) (h : D32 L) {k i : Nat} (hi : i < 32) (hk : L[k]? = some x) : (cbs L.flatten ++ junk).set (k * 32 + i) (.int .u8 (c.toNat : Int)) = cbs (L.set k (x.set i c)).flatten ++ junk := by
  have hkl := (List.getElem?_eq_some_iff.1 hk).1
  have hl : (cbs L.flatten).length = L.length * 32 := by rw [cbs_len, flatN_len h]
  have hm : (k + 1) * 32 ≤ L.length * 32 := Nat.mul_le_mul_right _ hkl
  rw [List.set_append_left _ _ (by rw [hl]; omega), ← flatN_setB h hi hk]
  congr 1
  unfold cbs
  rw [List.map_set]
set_option maxRecDepth 100000 in
theorem awake34_p : Tri Try.prog 38 [] [] (fun _ => True) (fun v H => v = .bool true ∧ H = []) := by
  refine Tri.mk Try.func38 rfl Try.ntmps38 rfl fun w hw => ?_
  have hset : (zs (List.replicate 32 (.int .u8 0)) 5).set (4 * 32 + 0) (.int .u8 1) = cbs exM.flatten := by
    have := cbs_setB (L := exL) (junk := []) (x := z32) 1 exL_32 (k := 4) (i := 0) (by omega) rfl
    rw [List.append_nil, List.append_nil] at this
    rw [zs32]
    exact this
  (repeat' (first | refine W.mv ?_ | refine W.zl ?_ | refine W.fa ?_ | refine W.nl ?_ | refine W.as ?_ | refine W.zb ?_ | refine W.za ?_ | refine W.zi ?_ | refine W.zc ?_ | refine W.zp ?_ | refine W.st ?_ | refine SL.nilB ?_ | refine SL.nil ?_ | refine W.al fun b_ => ?_ | refine W.bx fun b_ => ?_ | refine W.bxa fun b_ => ?_ | refine W.sw ?_ | refine W.sa ?_ | refine W.sk ?_ | refine W.bs0 fun b_ => ?_ | refine W.ma fun b_ => ?_ | refine W.bsl fun b_ => ?_ | refine W.zu ?_ | refine W.zf ?_ | refine W.zd ?_ | refine W.zs ?_ | refine W.zv ?_ | refine W.zx ?_ | refine W.ex ?_ | refine W.mf ?_ | refine W.mk ?_ | refine SW.seq ?_ | refine SW.region ?_ | refine SW.block ?_ | refine SW.cond_t rfl ?_ | refine SW.cond_f rfl ?_ | refine SW.exit ?_ | refine SW.ret ?_ | refine SW.skip ?_))
  rw [hset, zs32, show (List.replicate 5 z32 : List (List UInt8)) = exL from rfl]
  rename_i b1
  have hUn := ex_unlike
  have hDif := ex_dif
  have hDep : dep exL.length = 3 := ex_dep
  have h1 : exL.length = 5 := rfl
  have h2 : exM.length = 5 := rfl
  have hL := exL_32
  have hM := exM_32
  have hcl : (cbs exL.flatten).length = 5 * 32 := by rw [cbs_len, flatN_len hL, h1]
  have hcm : (cbs exM.flatten).length = 5 * 32 := by rw [cbs_len, flatN_len hM, h2]
  have hbq : bfill (fun i => some (i * 1, 1)) (zs [.int .i64 0] 1) [(0, .int .i64 4)] = some (iv [4]) := rfl
  generalize exL = L at *
  generalize exM = M at *
  refine W.call Book_p ?_
  rintro _ B0 ⟨b, tp, rfl, hB⟩
  (repeat' (first | refine W.mv ?_ | refine W.zl ?_ | refine W.fa ?_ | refine W.nl ?_ | refine W.as ?_ | refine W.zb ?_ | refine W.za ?_ | refine W.zi ?_ | refine W.zc ?_ | refine W.zp ?_ | refine W.st ?_ | refine SL.nilB ?_ | refine SL.nil ?_ | refine W.al fun b_ => ?_ | refine W.bx fun b_ => ?_ | refine W.bxa fun b_ => ?_ | refine W.sw ?_ | refine W.sa ?_ | refine W.sk ?_ | refine W.bs0 fun b_ => ?_ | refine W.ma fun b_ => ?_ | refine W.bsl fun b_ => ?_ | refine W.zu ?_ | refine W.zf ?_ | refine W.zd ?_ | refine W.zs ?_ | refine W.zv ?_ | refine W.zx ?_ | refine W.ex ?_ | refine W.mf ?_ | refine W.mk ?_ | refine SW.seq ?_ | refine SW.region ?_ | refine SW.block ?_ | refine SW.cond_t rfl ?_ | refine SW.cond_f rfl ?_ | refine SW.exit ?_ | refine SW.ret ?_ | refine SW.skip ?_))
  refine W.call (planted_p hB L hL (by omega) (by omega) _) ?_ rfl (fun w2 hs => ?_)
  rotate_left
  · exact Rd.own (Hc := B0) (Sl.own 24 32 b1 (len := 5) (xs := cbs L.flatten) hcl) hs inferInstance
  rintro _ _ ⟨ta, Ha, B1, rfl, rfl, hTa, hB1⟩
  (repeat' (first | refine W.mv ?_ | refine W.zl ?_ | refine W.fa ?_ | refine W.nl ?_ | refine W.as ?_ | refine W.zb ?_ | refine W.za ?_ | refine W.zi ?_ | refine W.zc ?_ | refine W.zp ?_ | refine W.st ?_ | refine SL.nilB ?_ | refine SL.nil ?_ | refine W.al fun b_ => ?_ | refine W.bx fun b_ => ?_ | refine W.bxa fun b_ => ?_ | refine W.sw ?_ | refine W.sa ?_ | refine W.sk ?_ | refine W.bs0 fun b_ => ?_ | refine W.ma fun b_ => ?_ | refine W.bsl fun b_ => ?_ | refine W.zu ?_ | refine W.zf ?_ | refine W.zd ?_ | refine W.zs ?_ | refine W.zv ?_ | refine W.zx ?_ | refine W.ex ?_ | refine W.mf ?_ | refine W.mk ?_ | refine SW.seq ?_ | refine SW.region ?_ | refine SW.block ?_ | refine SW.cond_t rfl ?_ | refine SW.cond_f rfl ?_ | refine SW.exit ?_ | refine SW.ret ?_ | refine SW.skip ?_))
  refine W.call (planted_p hB1 M hM (by omega) (by omega) _) ?_ rfl (fun w2 hs => ?_)
  rotate_left
  · exact Rd.own (Hc := B1) (Sl.own 24 32 b_ (len := 5) (xs := cbs M.flatten) hcm) hs inferInstance
  rintro _ _ ⟨tb, Hm, B2, rfl, rfl, hTb, hB2⟩
  (repeat' (first | refine W.mv ?_ | refine W.zl ?_ | refine W.fa ?_ | refine W.nl ?_ | refine W.as ?_ | refine W.zb ?_ | refine W.za ?_ | refine W.zi ?_ | refine W.zc ?_ | refine W.zp ?_ | refine W.st ?_ | refine SL.nilB ?_ | refine SL.nil ?_ | refine W.al fun b_ => ?_ | refine W.bx fun b_ => ?_ | refine W.bxa fun b_ => ?_ | refine W.sw ?_ | refine W.sa ?_ | refine W.sk ?_ | refine W.bs0 fun b_ => ?_ | refine W.ma fun b_ => ?_ | refine W.bsl fun b_ => ?_ | refine W.zu ?_ | refine W.zf ?_ | refine W.zd ?_ | refine W.zs ?_ | refine W.zv ?_ | refine W.zx ?_ | refine W.ex ?_ | refine W.mf ?_ | refine W.mk ?_ | refine SW.seq ?_ | refine SW.region ?_ | refine SW.block ?_ | refine SW.cond_t rfl ?_ | refine SW.cond_f rfl ?_ | refine SW.exit ?_ | refine SW.ret ?_ | refine SW.skip ?_))
  refine W.call (Trees_p hTa hTb hL hM (by omega) (by omega) (by omega) True (fun _ => hDif)) ?_
  rintro _ Hx ⟨ov, Ho, out, n, rfl, rfl, hov, hol2, hres⟩
  obtain ⟨rfl, rfl⟩ := hres trivial
  rw [hUn] at hov
  rw [hUn, hDep]
  have ho1 := hov.isOne
  obtain ⟨oa, ol, oc, rfl, hol⟩ := hov.form
  rw [show 1 + 2 * aboveV [4] 3 = 7 from rfl]
  (repeat' (first | refine W.mv ?_ | refine W.zl ?_ | refine W.fa ?_ | refine W.nl ?_ | refine W.as ?_ | refine W.zb ?_ | refine W.za ?_ | refine W.zi ?_ | refine W.zc ?_ | refine W.zp ?_ | refine W.st ?_ | refine SL.nilB ?_ | refine SL.nil ?_ | refine W.al fun b_ => ?_ | refine W.bx fun b_ => ?_ | refine W.bxa fun b_ => ?_ | refine W.sw ?_ | refine W.sa ?_ | refine W.sk ?_ | refine W.bs0 fun b_ => ?_ | refine W.ma fun b_ => ?_ | refine W.bsl fun b_ => ?_ | refine W.zu ?_ | refine W.zf ?_ | refine W.zd ?_ | refine W.zs ?_ | refine W.zv ?_ | refine W.zx ?_ | refine W.ex ?_ | refine W.mf ?_ | refine W.mk ?_ | refine SW.seq ?_ | refine SW.region ?_ | refine SW.block ?_ | refine SW.cond_t rfl ?_ | refine SW.cond_f rfl ?_ | refine SW.exit ?_ | refine SW.ret ?_ | refine SW.skip ?_))
  refine W.call (same_p [4] [4] (.slice oa ol oc) (.slice (some ⟨b_, 0, none⟩) 1 1) (by simp) (by simp)) ?_ rfl (fun w2 hs => ⟨Rd.ownB [] hov hs, Rd.own (Hc := []) (Sl.own 3 1 b_ (len := 1) (xs := iv [4]) rfl) hs inferInstance⟩)
  rintro _ _ ⟨rfl, rfl⟩
  rw [decide_eq_true rfl]
  (repeat' (first | refine W.mv ?_ | refine W.zl ?_ | refine W.fa ?_ | refine W.nl ?_ | refine W.as ?_ | refine W.zb ?_ | refine W.za ?_ | refine W.zi ?_ | refine W.zc ?_ | refine W.zp ?_ | refine W.st ?_ | refine SL.nilB ?_ | refine SL.nil ?_ | refine W.al fun b_ => ?_ | refine W.bx fun b_ => ?_ | refine W.bxa fun b_ => ?_ | refine W.sw ?_ | refine W.sa ?_ | refine W.sk ?_ | refine W.bs0 fun b_ => ?_ | refine W.ma fun b_ => ?_ | refine W.bsl fun b_ => ?_ | refine W.zu ?_ | refine W.zf ?_ | refine W.zd ?_ | refine W.zs ?_ | refine W.zv ?_ | refine W.zx ?_ | refine W.ex ?_ | refine W.mf ?_ | refine W.mk ?_ | refine SW.seq ?_ | refine SW.region ?_ | refine SW.block ?_ | refine SW.cond_t rfl ?_ | refine SW.cond_f rfl ?_ | refine SW.exit ?_ | refine SW.ret ?_ | refine SW.skip ?_))
  refine Fin.to [] ?_
  exact F.f1 ⟨rfl, rfl⟩
set_option maxHeartbeats 2000000 in
theorem differ_law (l : List (List UInt8)) (hl : D32 l) (ks : List Int) (hkn : ks.length ≤ 9223372036854775807) (bs : List UInt8) (v kv zv : Value) : Tri Try.prog 9 [v, kv, zv] [] (fun w => Rd [] w 32 v (cbs l.flatten) ∧ Rd [] w 1 kv (ks.map fun k : Int => (.int .i64 k : Value)) ∧ Rd [] w 1 zv (cbs bs)) (fun r _ => r = .bool true) := by
  refine Tri.mk Try.func9 rfl Try.ntmps9 rfl fun w hw => ?_
  obtain ⟨hw, hkr, hzr⟩ := hw
  obtain ⟨a, cap, rfl, -, -⟩ := hw.row hl
  obtain ⟨ka, kl, kc, rfl, hkl, hkc, hkg⟩ := hkr.get
  obtain ⟨za, zl, zc, rfl, hzl, hzc, hzg⟩ := hzr.get
  rw [List.length_map, Nat.mul_one] at hkl
  rw [cbs_len, Nat.mul_one] at hzl
  subst hkl hzl
  have hfew := few34_q l hl a cap
  obtain ⟨hL, hL20, hw2⟩ := hw.few hl
  generalize l.take 20 = L at hfew hL hL20 hw2
  (repeat' (first | refine W.mv ?_ | refine W.zl ?_ | refine W.fa ?_ | refine W.nl ?_ | refine W.as ?_ | refine W.zb ?_ | refine W.za ?_ | refine W.zi ?_ | refine W.zc ?_ | refine W.zp ?_ | refine W.st ?_ | refine SL.nilB ?_ | refine SL.nil ?_ | refine W.al fun b_ => ?_ | refine W.bx fun b_ => ?_ | refine W.bxa fun b_ => ?_ | refine W.sw ?_ | refine W.sa ?_ | refine W.sk ?_ | refine W.bs0 fun b_ => ?_ | refine W.ma fun b_ => ?_ | refine W.bsl fun b_ => ?_ | refine W.zu ?_ | refine W.zf ?_ | refine W.zd ?_ | refine W.zs ?_ | refine W.zv ?_ | refine W.zx ?_ | refine W.ex ?_ | refine W.mf ?_ | refine W.mk ?_ | refine SW.seq ?_ | refine SW.region ?_ | refine SW.block ?_ | refine SW.cond_t rfl ?_ | refine SW.cond_f rfl ?_ | refine SW.exit ?_ | refine SW.ret ?_ | refine SW.skip ?_))
  refine W.call hfew ?_ rfl (fun w2 hs => hw.ro (Hc := []) hs)
  rintro _ _ ⟨rfl, rfl⟩
  have hfl : (cbs L.flatten).length = L.length * 32 := by rw [cbs_len, flatN_len hL]
  (repeat' (first | refine W.mv ?_ | refine W.zl ?_ | refine W.fa ?_ | refine W.nl ?_ | refine W.as ?_ | refine W.zb ?_ | refine W.za ?_ | refine W.zi ?_ | refine W.zc ?_ | refine W.zp ?_ | refine W.st ?_ | refine SL.nilB ?_ | refine SL.nil ?_ | refine W.al fun b_ => ?_ | refine W.bx fun b_ => ?_ | refine W.bxa fun b_ => ?_ | refine W.sw ?_ | refine W.sa ?_ | refine W.sk ?_ | refine W.bs0 fun b_ => ?_ | refine W.ma fun b_ => ?_ | refine W.bsl fun b_ => ?_ | refine W.zu ?_ | refine W.zf ?_ | refine W.zd ?_ | refine W.zs ?_ | refine W.zv ?_ | refine W.zx ?_ | refine W.ex ?_ | refine W.mf ?_ | refine W.mk ?_ | refine SW.seq ?_ | refine SW.region ?_ | refine SW.block ?_ | refine SW.cond_t rfl ?_ | refine SW.cond_f rfl ?_ | refine SW.exit ?_ | refine SW.ret ?_ | refine SW.skip ?_))
  refine W.ap (ys := cbs L.flatten) (mm := L.length) (Sl.own 24 32 b_ (len := 0) (xs := []) rfl) (fun w2 hs => hw2.srcAt hs) (fun wv0 HW hwv => ?_) (hys := hfl) (hbytes := by rw [hfl]; simp; omega)
  rw [List.nil_append] at hwv
  have hwv1 := hwv.isOne
  have hkget : ∀ m k, ks[m]? = some k → ∃ (b o : Nat) (l : List Value) (T : TypeId) (fz : Nat × Nat), ka = some ⟨b, o, none⟩ ∧ w.heap[b]? = some (.cells l.toArray T fz) ∧ b ∉ ([] : List Nat) ∧ l[o + m]? = some (.int .i64 k) := fun m k hk => by
    obtain ⟨b, o, lv, T, fz, e1, e2, e3, e4⟩ := hkg (by have := (List.getElem?_eq_some_iff.1 hk).1; omega)
    exact ⟨b, o, lv, T, fz, e1, e2, e3, take_get e4 (by rw [List.getElem?_map, hk]; rfl)⟩
  have hzget : ∀ m c, bs[m]? = some c → ∃ (b o : Nat) (l : List Value) (T : TypeId) (fz : Nat × Nat), za = some ⟨b, o, none⟩ ∧ w.heap[b]? = some (.cells l.toArray T fz) ∧ b ∉ ([] : List Nat) ∧ l[o + m]? = some (.int .u8 (c.toNat : Int)) := fun m c hk => by
    obtain ⟨b, o, lv, T, fz, e1, e2, e3, e4⟩ := hzg (by have := (List.getElem?_eq_some_iff.1 hk).1; omega)
    exact ⟨b, o, lv, T, fz, e1, e2, e3, take_get e4 (by rw [List.getElem?_map, hk]; rfl)⟩
  by_cases h0 : L.length = 0
  · obtain ⟨wa, wl, wc, rfl, hwl⟩ := hwv.form
    obtain rfl : wl = 0 := by omega
    rw [h0]
    (repeat' (first | refine W.mv ?_ | refine W.zl ?_ | refine W.fa ?_ | refine W.nl ?_ | refine W.as ?_ | refine W.zb ?_ | refine W.za ?_ | refine W.zi ?_ | refine W.zc ?_ | refine W.zp ?_ | refine W.st ?_ | refine SL.nilB ?_ | refine SL.nil ?_ | refine W.al fun b_ => ?_ | refine W.bx fun b_ => ?_ | refine W.bxa fun b_ => ?_ | refine W.sw ?_ | refine W.sa ?_ | refine W.sk ?_ | refine W.bs0 fun b_ => ?_ | refine W.ma fun b_ => ?_ | refine W.bsl fun b_ => ?_ | refine W.zu ?_ | refine W.zf ?_ | refine W.zd ?_ | refine W.zs ?_ | refine W.zv ?_ | refine W.zx ?_ | refine W.ex ?_ | refine W.mf ?_ | refine W.mk ?_ | refine SW.seq ?_ | refine SW.region ?_ | refine SW.cond_t rfl ?_ | refine SW.cond_f rfl ?_ | refine SW.exit ?_ | refine SW.ret ?_ | refine SW.skip ?_))
    refine SW.cut [0, 7] [] (fun _ : Unit => []) (fun _ => []) (fun _ => True) ?_ ?_
    · (repeat' (first | refine W.mv ?_ | refine W.zl ?_ | refine W.fa ?_ | refine W.nl ?_ | refine W.as ?_ | refine W.zb ?_ | refine W.za ?_ | refine W.zi ?_ | refine W.zc ?_ | refine W.zp ?_ | refine W.st ?_ | refine SL.nilB ?_ | refine SL.nil ?_ | refine W.al fun b_ => ?_ | refine W.bx fun b_ => ?_ | refine W.bxa fun b_ => ?_ | refine W.sw ?_ | refine W.sa ?_ | refine W.sk ?_ | refine W.bs0 fun b_ => ?_ | refine W.ma fun b_ => ?_ | refine W.bsl fun b_ => ?_ | refine W.zu ?_ | refine W.zf ?_ | refine W.zd ?_ | refine W.zs ?_ | refine W.zv ?_ | refine W.zx ?_ | refine W.ex ?_ | refine W.mf ?_ | refine W.mk ?_ | refine SW.seq ?_ | refine SW.region ?_ | refine SW.block ?_ | refine SW.cond_t rfl ?_ | refine SW.cond_f rfl ?_ | refine SW.exit ?_ | refine SW.ret ?_ | refine SW.skip ?_))
      refine SW.loopG [0, 2, 7, 20, 21] [] (fun m : Nat => [(22, .int .i64 (m : Int))]) (fun _ => []) (fun m => ks.length - m) (fun m => m ≤ ks.length) 0 (Nat.zero_le _) ?_
      intro m hm
      by_cases hmk : m < ks.length
      · obtain ⟨k, hk⟩ : ∃ k, ks[m]? = some k := ⟨_, List.getElem?_eq_getElem hmk⟩
        obtain ⟨kb, ko, kv, kT, kz, rfl, g1, g2, g3⟩ := hkget m k hk
        rcases (show 8 ≤ m ∨ (m < 8 ∧ bs.length ≤ m) ∨ ((m < 8 ∧ m < bs.length) ∧ k < 0) ∨ ((m < 8 ∧ m < bs.length) ∧ 0 ≤ k) by omega) with c | ⟨c1, c2⟩ | ⟨⟨c1, c2⟩, c3⟩ | ⟨⟨c1, c2⟩, c3⟩
        all_goals
          (repeat' (first | refine W.mv ?_ | refine W.zl ?_ | refine W.fa ?_ | refine W.nl ?_ | refine W.as ?_ | refine W.zb ?_ | refine W.za ?_ | refine W.zi ?_ | refine W.zc ?_ | refine W.zp ?_ | refine W.st ?_ | refine SL.nilB ?_ | refine SL.nil ?_ | refine W.al fun b_ => ?_ | refine W.bx fun b_ => ?_ | refine W.bxa fun b_ => ?_ | refine W.sw ?_ | refine W.sa ?_ | refine W.sk ?_ | refine W.bs0 fun b_ => ?_ | refine W.ma fun b_ => ?_ | refine W.bsl fun b_ => ?_ | refine W.zu ?_ | refine W.zf ?_ | refine W.zd ?_ | refine W.zs ?_ | refine W.zv ?_ | refine W.zx ?_ | refine W.ex ?_ | refine W.mf ?_ | refine W.mk ?_ | refine SW.seq ?_ | refine SW.region ?_ | refine SW.block ?_ | refine SW.cond_t rfl ?_ | refine SW.cond_f rfl ?_ | refine SW.exit ?_ | refine SW.ret ?_ | refine SW.skip ?_))
          refine HandF.mk (m + 1) ?_
          omega
      · (repeat' (first | refine W.mv ?_ | refine W.zl ?_ | refine W.fa ?_ | refine W.nl ?_ | refine W.as ?_ | refine W.zb ?_ | refine W.za ?_ | refine W.zi ?_ | refine W.zc ?_ | refine W.zp ?_ | refine W.st ?_ | refine SL.nilB ?_ | refine SL.nil ?_ | refine W.al fun b_ => ?_ | refine W.bx fun b_ => ?_ | refine W.bxa fun b_ => ?_ | refine W.sw ?_ | refine W.sa ?_ | refine W.sk ?_ | refine W.bs0 fun b_ => ?_ | refine W.ma fun b_ => ?_ | refine W.bsl fun b_ => ?_ | refine W.zu ?_ | refine W.zf ?_ | refine W.zd ?_ | refine W.zs ?_ | refine W.zv ?_ | refine W.zx ?_ | refine W.ex ?_ | refine W.mf ?_ | refine W.mk ?_ | refine SW.seq ?_ | refine SW.region ?_ | refine SW.block ?_ | refine SW.cond_t rfl ?_ | refine SW.cond_f rfl ?_ | refine SW.exit ?_ | refine SW.ret ?_ | refine SW.skip ?_))
        exact CutF.mk () trivial
    rintro _ -
    (repeat' (first | refine W.mv ?_ | refine W.zl ?_ | refine W.fa ?_ | refine W.nl ?_ | refine W.as ?_ | refine W.zb ?_ | refine W.za ?_ | refine W.zi ?_ | refine W.zc ?_ | refine W.zp ?_ | refine W.st ?_ | refine SL.nilB ?_ | refine SL.nil ?_ | refine W.al fun b_ => ?_ | refine W.bx fun b_ => ?_ | refine W.bxa fun b_ => ?_ | refine W.sw ?_ | refine W.sa ?_ | refine W.sk ?_ | refine W.bs0 fun b_ => ?_ | refine W.ma fun b_ => ?_ | refine W.bsl fun b_ => ?_ | refine W.zu ?_ | refine W.zf ?_ | refine W.zd ?_ | refine W.zs ?_ | refine W.zv ?_ | refine W.zx ?_ | refine W.ex ?_ | refine W.mf ?_ | refine W.mk ?_ | refine SW.seq ?_ | refine SW.region ?_ | refine SW.block ?_ | refine SW.cond_t rfl ?_ | refine SW.cond_f rfl ?_ | refine SW.exit ?_ | refine SW.ret ?_ | refine SW.skip ?_))
    refine W.call Book_p ?_
    rintro _ B0 ⟨b, tp, rfl, hB⟩
    (repeat' (first | refine W.mv ?_ | refine W.zl ?_ | refine W.fa ?_ | refine W.nl ?_ | refine W.as ?_ | refine W.zb ?_ | refine W.za ?_ | refine W.zi ?_ | refine W.zc ?_ | refine W.zp ?_ | refine W.st ?_ | refine SL.nilB ?_ | refine SL.nil ?_ | refine W.al fun b_ => ?_ | refine W.bx fun b_ => ?_ | refine W.bxa fun b_ => ?_ | refine W.sw ?_ | refine W.sa ?_ | refine W.sk ?_ | refine W.bs0 fun b_ => ?_ | refine W.ma fun b_ => ?_ | refine W.bsl fun b_ => ?_ | refine W.zu ?_ | refine W.zf ?_ | refine W.zd ?_ | refine W.zs ?_ | refine W.zv ?_ | refine W.zx ?_ | refine W.ex ?_ | refine W.mf ?_ | refine W.mk ?_ | refine SW.seq ?_ | refine SW.region ?_ | refine SW.block ?_ | refine SW.cond_t rfl ?_ | refine SW.cond_f rfl ?_ | refine SW.exit ?_ | refine SW.ret ?_ | refine SW.skip ?_))
    refine W.call (planted_none b a cap) ?_
    rintro _ _ ⟨rfl, rfl⟩
    (repeat' (first | refine W.mv ?_ | refine W.zl ?_ | refine W.fa ?_ | refine W.nl ?_ | refine W.as ?_ | refine W.zb ?_ | refine W.za ?_ | refine W.zi ?_ | refine W.zc ?_ | refine W.zp ?_ | refine W.st ?_ | refine SL.nilB ?_ | refine SL.nil ?_ | refine W.al fun b_ => ?_ | refine W.bx fun b_ => ?_ | refine W.bxa fun b_ => ?_ | refine W.sw ?_ | refine W.sa ?_ | refine W.sk ?_ | refine W.bs0 fun b_ => ?_ | refine W.ma fun b_ => ?_ | refine W.bsl fun b_ => ?_ | refine W.zu ?_ | refine W.zf ?_ | refine W.zd ?_ | refine W.zs ?_ | refine W.zv ?_ | refine W.zx ?_ | refine W.ex ?_ | refine W.mf ?_ | refine W.mk ?_ | refine SW.seq ?_ | refine SW.region ?_ | refine SW.block ?_ | refine SW.cond_t rfl ?_ | refine SW.cond_f rfl ?_ | refine SW.exit ?_ | refine SW.ret ?_ | refine SW.skip ?_))
    refine W.call (planted_none b wa wc) ?_
    rintro _ _ ⟨rfl, rfl⟩
    (repeat' (first | refine W.mv ?_ | refine W.zl ?_ | refine W.fa ?_ | refine W.nl ?_ | refine W.as ?_ | refine W.zb ?_ | refine W.za ?_ | refine W.zi ?_ | refine W.zc ?_ | refine W.zp ?_ | refine W.st ?_ | refine SL.nilB ?_ | refine SL.nil ?_ | refine W.al fun b_ => ?_ | refine W.bx fun b_ => ?_ | refine W.bxa fun b_ => ?_ | refine W.sw ?_ | refine W.sa ?_ | refine W.sk ?_ | refine W.bs0 fun b_ => ?_ | refine W.ma fun b_ => ?_ | refine W.bsl fun b_ => ?_ | refine W.zu ?_ | refine W.zf ?_ | refine W.zd ?_ | refine W.zs ?_ | refine W.zv ?_ | refine W.zx ?_ | refine W.ex ?_ | refine W.mf ?_ | refine W.mk ?_ | refine SW.seq ?_ | refine SW.region ?_ | refine SW.block ?_ | refine SW.cond_t rfl ?_ | refine SW.cond_f rfl ?_ | refine SW.exit ?_ | refine SW.ret ?_ | refine SW.skip ?_))
    refine W.call (Trees_nil _) ?_
    rintro _ _ ⟨rfl, rfl⟩
    (repeat' (first | refine W.mv ?_ | refine W.zl ?_ | refine W.fa ?_ | refine W.nl ?_ | refine W.as ?_ | refine W.zb ?_ | refine W.za ?_ | refine W.zi ?_ | refine W.zc ?_ | refine W.zp ?_ | refine W.st ?_ | refine SL.nilB ?_ | refine SL.nil ?_ | refine W.al fun b_ => ?_ | refine W.bx fun b_ => ?_ | refine W.bxa fun b_ => ?_ | refine W.sw ?_ | refine W.sa ?_ | refine W.sk ?_ | refine W.bs0 fun b_ => ?_ | refine W.ma fun b_ => ?_ | refine W.bsl fun b_ => ?_ | refine W.zu ?_ | refine W.zf ?_ | refine W.zd ?_ | refine W.zs ?_ | refine W.zv ?_ | refine W.zx ?_ | refine W.ex ?_ | refine W.mf ?_ | refine W.mk ?_ | refine SW.seq ?_ | refine SW.region ?_ | refine SW.block ?_ | refine SW.cond_t rfl ?_ | refine SW.cond_f rfl ?_ | refine SW.exit ?_ | refine SW.ret ?_ | refine SW.skip ?_))
    refine W.call awake34_p ?_
    rintro _ _ ⟨rfl, rfl⟩
    (repeat' (first | refine W.mv ?_ | refine W.zl ?_ | refine W.fa ?_ | refine W.nl ?_ | refine W.as ?_ | refine W.zb ?_ | refine W.za ?_ | refine W.zi ?_ | refine W.zc ?_ | refine W.zp ?_ | refine W.st ?_ | refine SL.nilB ?_ | refine SL.nil ?_ | refine W.al fun b_ => ?_ | refine W.bx fun b_ => ?_ | refine W.bxa fun b_ => ?_ | refine W.sw ?_ | refine W.sa ?_ | refine W.sk ?_ | refine W.bs0 fun b_ => ?_ | refine W.ma fun b_ => ?_ | refine W.bsl fun b_ => ?_ | refine W.zu ?_ | refine W.zf ?_ | refine W.zd ?_ | refine W.zs ?_ | refine W.zv ?_ | refine W.zx ?_ | refine W.ex ?_ | refine W.mf ?_ | refine W.mk ?_ | refine SW.seq ?_ | refine SW.region ?_ | refine SW.block ?_ | refine SW.cond_t rfl ?_ | refine SW.cond_f rfl ?_ | refine SW.exit ?_ | refine SW.ret ?_ | refine SW.skip ?_))
    refine Fin.to [] ?_
    exact F.f1 rfl
  · rcases hwv with ⟨-, h2, -⟩ | ⟨wb, wl, wc, wj, rfl, hwx, hwj, hwlc, rfl⟩
    · have h3 := congrArg List.length h2
      rw [hfl, List.length_nil] at h3
      omega
    obtain rfl : wl = L.length := by omega
    (repeat' (first | refine W.mv ?_ | refine W.zl ?_ | refine W.fa ?_ | refine W.nl ?_ | refine W.as ?_ | refine W.zb ?_ | refine W.za ?_ | refine W.zi ?_ | refine W.zc ?_ | refine W.zp ?_ | refine W.st ?_ | refine SL.nilB ?_ | refine SL.nil ?_ | refine W.al fun b_ => ?_ | refine W.bx fun b_ => ?_ | refine W.bxa fun b_ => ?_ | refine W.sw ?_ | refine W.sa ?_ | refine W.sk ?_ | refine W.bs0 fun b_ => ?_ | refine W.ma fun b_ => ?_ | refine W.bsl fun b_ => ?_ | refine W.zu ?_ | refine W.zf ?_ | refine W.zd ?_ | refine W.zs ?_ | refine W.zv ?_ | refine W.zx ?_ | refine W.ex ?_ | refine W.mf ?_ | refine W.mk ?_ | refine SW.seq ?_ | refine SW.region ?_ | refine SW.cond_t rfl ?_ | refine SW.cond_f rfl ?_ | refine SW.exit ?_ | refine SW.ret ?_ | refine SW.skip ?_))
    refine SW.cutH [0, 7] [(wb, cl (cbs L.flatten ++ wj) 24)] (fun V : List (List UInt8) => []) (fun V => [(wb, cl (cbs V.flatten ++ wj) 24)]) (fun V => D32 V ∧ V.length = L.length) ?_ ?_
    · (repeat' (first | refine W.mv ?_ | refine W.zl ?_ | refine W.fa ?_ | refine W.nl ?_ | refine W.as ?_ | refine W.zb ?_ | refine W.za ?_ | refine W.zi ?_ | refine W.zc ?_ | refine W.zp ?_ | refine W.st ?_ | refine SL.nilB ?_ | refine SL.nil ?_ | refine W.al fun b_ => ?_ | refine W.bx fun b_ => ?_ | refine W.bxa fun b_ => ?_ | refine W.sw ?_ | refine W.sa ?_ | refine W.sk ?_ | refine W.bs0 fun b_ => ?_ | refine W.ma fun b_ => ?_ | refine W.bsl fun b_ => ?_ | refine W.zu ?_ | refine W.zf ?_ | refine W.zd ?_ | refine W.zs ?_ | refine W.zv ?_ | refine W.zx ?_ | refine W.ex ?_ | refine W.mf ?_ | refine W.mk ?_ | refine SW.seq ?_ | refine SW.region ?_ | refine SW.block ?_ | refine SW.cond_t rfl ?_ | refine SW.cond_f rfl ?_ | refine SW.exit ?_ | refine SW.ret ?_ | refine SW.skip ?_))
      refine SW.loopF [0, 2, 7, 20, 21] (fun y : Nat × List (List UInt8) => [(22, .int .i64 (y.1 : Int))]) (fun y => [(wb, cl (cbs y.2.flatten ++ wj) 24)]) (fun y => ks.length - y.1) (fun y => y.1 ≤ ks.length ∧ D32 y.2 ∧ y.2.length = L.length) (0, L) ⟨Nat.zero_le _, hL, rfl⟩ ?_
      rintro ⟨m, V⟩ ⟨hm, hV, hVl⟩
      dsimp only at hm hV hVl ⊢
      by_cases hmk : m < ks.length
      · obtain ⟨k, hk⟩ : ∃ k, ks[m]? = some k := ⟨_, List.getElem?_eq_getElem hmk⟩
        obtain ⟨kb, ko, kv, kT, kz, rfl, g1, g2, g3⟩ := hkget m k hk
        rcases (show ((m < 8 ∧ m < bs.length) ∧ 0 ≤ k ∧ k < (L.length : Int)) ∨ 8 ≤ m ∨ (m < 8 ∧ bs.length ≤ m) ∨ ((m < 8 ∧ m < bs.length) ∧ k < 0) ∨ ((m < 8 ∧ m < bs.length) ∧ 0 ≤ k ∧ (L.length : Int) ≤ k) by omega) with ⟨⟨c1, c2⟩, c3, c4⟩ | c | ⟨c1, c2⟩ | ⟨⟨c1, c2⟩, c3⟩ | ⟨⟨c1, c2⟩, c3, c4⟩
        case' inl =>
          obtain ⟨c, hc⟩ : ∃ c, bs[m]? = some c := ⟨_, List.getElem?_eq_getElem c2⟩
          obtain ⟨zb, zo, zv, zT, zz, rfl, e1, e2, e3⟩ := hzget m c hc
          obtain ⟨j, hkj⟩ : ∃ j : Nat, k = (j : Int) := ⟨k.toNat, by omega⟩
          haveI : NatI k j := ⟨hkj⟩
          obtain ⟨x, hx⟩ : ∃ x, V[j]? = some x := ⟨_, List.getElem?_eq_getElem (by omega)⟩
          have hset := cbs_setB (junk := wj) c hV (k := j) (i := m) (by omega) hx
          have hfit : j * 32 + m < (cbs V.flatten ++ wj).length := by
            rw [List.length_append, cbs_len, flatN_len hV]; omega
          have hx32 := hV x (List.mem_of_getElem? hx)
          have hV2 : D32 (V.set j (x.set m c)) := set_len hV (by rw [List.length_set]; exact hx32)
          (repeat' (first | refine W.mv ?_ | refine W.zl ?_ | refine W.fa ?_ | refine W.nl ?_ | refine W.as ?_ | refine W.zb ?_ | refine W.za ?_ | refine W.zi ?_ | refine W.zc ?_ | refine W.zp ?_ | refine W.st ?_ | refine SL.nilB ?_ | refine SL.nil ?_ | refine W.al fun b_ => ?_ | refine W.bx fun b_ => ?_ | refine W.bxa fun b_ => ?_ | refine W.sw ?_ | refine W.sa ?_ | refine W.sk ?_ | refine W.bs0 fun b_ => ?_ | refine W.ma fun b_ => ?_ | refine W.bsl fun b_ => ?_ | refine W.zu ?_ | refine W.zf ?_ | refine W.zd ?_ | refine W.zs ?_ | refine W.zv ?_ | refine W.zx ?_ | refine W.ex ?_ | refine W.mf ?_ | refine W.mk ?_ | refine SW.seq ?_ | refine SW.region ?_ | refine SW.block ?_ | refine SW.cond_t rfl ?_ | refine SW.cond_f rfl ?_ | refine SW.exit ?_ | refine SW.ret ?_ | refine SW.skip ?_))
          (refine SW.regionS [9] ?_ (by kernel_rfl); refine SS.tw 0 rfl (p_move rfl rfl) ?_; refine SS.tw 1 rfl (p_move rfl rfl) ?_; refine SS.tw 2 rfl (p_move rfl rfl) ?_; refine SS.tw 3 rfl (p_move rfl rfl) ?_; refine SS.tw 4 rfl (p_move rfl rfl) ?_; (first | refine SS.tw 5 rfl (p_ix rfl rfl rfl (by omega)) ?_ | refine SS.tw 5 rfl (p_ixa rfl rfl rfl (by omega)) ?_); (first | refine SS.ls 6 [9] rfl ?_ | refine SS.tw 6 rfl (p_load_sR rfl rfl (by assumption) (by assumption) (by assumption)) ?_); (first | refine SS.tw 7 rfl (p_ix rfl rfl rfl (by omega)) ?_ | refine SS.tw 7 rfl (p_ixa rfl rfl rfl (by omega)) ?_); (first | refine SS.tw 8 rfl (p_ix rfl rfl rfl (by omega)) ?_ | refine SS.tw 8 rfl (p_ixa rfl rfl rfl (by omega)) ?_); refine SS.effB 9 ?_ rfl (by kernel_rfl); (repeat' (first | refine W.mv ?_ | refine W.zl ?_ | refine W.fa ?_ | refine W.nl ?_ | refine W.as ?_ | refine W.zb ?_ | refine W.za ?_ | refine W.zi ?_ | refine W.zc ?_ | refine W.zp ?_ | refine W.st ?_ | refine SL.nilB ?_ | refine SL.nil ?_ | refine W.al fun b_ => ?_ | refine W.bx fun b_ => ?_ | refine W.bxa fun b_ => ?_ | refine W.sw ?_ | refine W.sa ?_ | refine W.sk ?_ | refine W.bs0 fun b_ => ?_ | refine W.ma fun b_ => ?_ | refine W.bsl fun b_ => ?_ | refine W.zu ?_ | refine W.zf ?_ | refine W.zd ?_ | refine W.zs ?_ | refine W.zv ?_ | refine W.zx ?_ | refine W.ex ?_ | refine W.mf ?_ | refine W.mk ?_)); refine SS.done ?_ (by kernel_rfl))
          rw [hset]
          (repeat' (first | refine W.mv ?_ | refine W.zl ?_ | refine W.fa ?_ | refine W.nl ?_ | refine W.as ?_ | refine W.zb ?_ | refine W.za ?_ | refine W.zi ?_ | refine W.zc ?_ | refine W.zp ?_ | refine W.st ?_ | refine SL.nilB ?_ | refine SL.nil ?_ | refine W.al fun b_ => ?_ | refine W.bx fun b_ => ?_ | refine W.bxa fun b_ => ?_ | refine W.sw ?_ | refine W.sa ?_ | refine W.sk ?_ | refine W.bs0 fun b_ => ?_ | refine W.ma fun b_ => ?_ | refine W.bsl fun b_ => ?_ | refine W.zu ?_ | refine W.zf ?_ | refine W.zd ?_ | refine W.zs ?_ | refine W.zv ?_ | refine W.zx ?_ | refine W.ex ?_ | refine W.mf ?_ | refine W.mk ?_ | refine SW.seq ?_ | refine SW.region ?_ | refine SW.block ?_ | refine SW.cond_t rfl ?_ | refine SW.cond_f rfl ?_ | refine SW.exit ?_ | refine SW.ret ?_ | refine SW.skip ?_))
          refine HandF.mk (m + 1, V.set j (x.set m c)) ?_
          exact ⟨hmk, hV2, by rw [List.length_set]; exact hVl⟩
        all_goals
          (repeat' (first | refine W.mv ?_ | refine W.zl ?_ | refine W.fa ?_ | refine W.nl ?_ | refine W.as ?_ | refine W.zb ?_ | refine W.za ?_ | refine W.zi ?_ | refine W.zc ?_ | refine W.zp ?_ | refine W.st ?_ | refine SL.nilB ?_ | refine SL.nil ?_ | refine W.al fun b_ => ?_ | refine W.bx fun b_ => ?_ | refine W.bxa fun b_ => ?_ | refine W.sw ?_ | refine W.sa ?_ | refine W.sk ?_ | refine W.bs0 fun b_ => ?_ | refine W.ma fun b_ => ?_ | refine W.bsl fun b_ => ?_ | refine W.zu ?_ | refine W.zf ?_ | refine W.zd ?_ | refine W.zs ?_ | refine W.zv ?_ | refine W.zx ?_ | refine W.ex ?_ | refine W.mf ?_ | refine W.mk ?_ | refine SW.seq ?_ | refine SW.region ?_ | refine SW.block ?_ | refine SW.cond_t rfl ?_ | refine SW.cond_f rfl ?_ | refine SW.exit ?_ | refine SW.ret ?_ | refine SW.skip ?_))
          refine HandF.mk (m + 1, V) ?_
          exact ⟨hmk, hV, hVl⟩
      · (repeat' (first | refine W.mv ?_ | refine W.zl ?_ | refine W.fa ?_ | refine W.nl ?_ | refine W.as ?_ | refine W.zb ?_ | refine W.za ?_ | refine W.zi ?_ | refine W.zc ?_ | refine W.zp ?_ | refine W.st ?_ | refine SL.nilB ?_ | refine SL.nil ?_ | refine W.al fun b_ => ?_ | refine W.bx fun b_ => ?_ | refine W.bxa fun b_ => ?_ | refine W.sw ?_ | refine W.sa ?_ | refine W.sk ?_ | refine W.bs0 fun b_ => ?_ | refine W.ma fun b_ => ?_ | refine W.bsl fun b_ => ?_ | refine W.zu ?_ | refine W.zf ?_ | refine W.zd ?_ | refine W.zs ?_ | refine W.zv ?_ | refine W.zx ?_ | refine W.ex ?_ | refine W.mf ?_ | refine W.mk ?_ | refine SW.seq ?_ | refine SW.region ?_ | refine SW.block ?_ | refine SW.cond_t rfl ?_ | refine SW.cond_f rfl ?_ | refine SW.exit ?_ | refine SW.ret ?_ | refine SW.skip ?_))
        refine CutF.mk V ?_
        exact ⟨hV, hVl⟩
    rintro V ⟨hV, hVl⟩
    have hflV : (cbs V.flatten).length = V.length * 32 := by rw [cbs_len, flatN_len hV]
    have hrdV : ∀ (K : List Nat) (w0 w2 : World) (H Hc r : Hp), True := fun _ _ _ _ _ _ => trivial
    (repeat' (first | refine W.mv ?_ | refine W.zl ?_ | refine W.fa ?_ | refine W.nl ?_ | refine W.as ?_ | refine W.zb ?_ | refine W.za ?_ | refine W.zi ?_ | refine W.zc ?_ | refine W.zp ?_ | refine W.st ?_ | refine SL.nilB ?_ | refine SL.nil ?_ | refine W.al fun b_ => ?_ | refine W.bx fun b_ => ?_ | refine W.bxa fun b_ => ?_ | refine W.sw ?_ | refine W.sa ?_ | refine W.sk ?_ | refine W.bs0 fun b_ => ?_ | refine W.ma fun b_ => ?_ | refine W.bsl fun b_ => ?_ | refine W.zu ?_ | refine W.zf ?_ | refine W.zd ?_ | refine W.zs ?_ | refine W.zv ?_ | refine W.zx ?_ | refine W.ex ?_ | refine W.mf ?_ | refine W.mk ?_ | refine SW.seq ?_ | refine SW.region ?_ | refine SW.block ?_ | refine SW.cond_t rfl ?_ | refine SW.cond_f rfl ?_ | refine SW.exit ?_ | refine SW.ret ?_ | refine SW.skip ?_))
    refine W.call Book_p ?_
    rintro _ B0 ⟨b, tp, rfl, hB⟩
    (repeat' (first | refine W.mv ?_ | refine W.zl ?_ | refine W.fa ?_ | refine W.nl ?_ | refine W.as ?_ | refine W.zb ?_ | refine W.za ?_ | refine W.zi ?_ | refine W.zc ?_ | refine W.zp ?_ | refine W.st ?_ | refine SL.nilB ?_ | refine SL.nil ?_ | refine W.al fun b_ => ?_ | refine W.bx fun b_ => ?_ | refine W.bxa fun b_ => ?_ | refine W.sw ?_ | refine W.sa ?_ | refine W.sk ?_ | refine W.bs0 fun b_ => ?_ | refine W.ma fun b_ => ?_ | refine W.bsl fun b_ => ?_ | refine W.zu ?_ | refine W.zf ?_ | refine W.zd ?_ | refine W.zs ?_ | refine W.zv ?_ | refine W.zx ?_ | refine W.ex ?_ | refine W.mf ?_ | refine W.mk ?_ | refine SW.seq ?_ | refine SW.region ?_ | refine SW.block ?_ | refine SW.cond_t rfl ?_ | refine SW.cond_f rfl ?_ | refine SW.exit ?_ | refine SW.ret ?_ | refine SW.skip ?_))
    refine W.call (planted_p hB L hL (by omega) (by omega) _) ?_ rfl (fun w2 hs => hw2.ro (Hc := B0) hs)
    rintro _ _ ⟨ta, Ha, B1, rfl, rfl, hTa, hB1⟩
    (repeat' (first | refine W.mv ?_ | refine W.zl ?_ | refine W.fa ?_ | refine W.nl ?_ | refine W.as ?_ | refine W.zb ?_ | refine W.za ?_ | refine W.zi ?_ | refine W.zc ?_ | refine W.zp ?_ | refine W.st ?_ | refine SL.nilB ?_ | refine SL.nil ?_ | refine W.al fun b_ => ?_ | refine W.bx fun b_ => ?_ | refine W.bxa fun b_ => ?_ | refine W.sw ?_ | refine W.sa ?_ | refine W.sk ?_ | refine W.bs0 fun b_ => ?_ | refine W.ma fun b_ => ?_ | refine W.bsl fun b_ => ?_ | refine W.zu ?_ | refine W.zf ?_ | refine W.zd ?_ | refine W.zs ?_ | refine W.zv ?_ | refine W.zx ?_ | refine W.ex ?_ | refine W.mf ?_ | refine W.mk ?_ | refine SW.seq ?_ | refine SW.region ?_ | refine SW.block ?_ | refine SW.cond_t rfl ?_ | refine SW.cond_f rfl ?_ | refine SW.exit ?_ | refine SW.ret ?_ | refine SW.skip ?_))
    refine W.call (planted_p hB1 V hV (by omega) (by omega) (.slice (some ⟨wb, 0, none⟩) V.length wc)) ?_ (by rw [hVl]; rfl) (fun w2 hs => ?_)
    rotate_left
    · exact Rd.atH (Hc := B1) (T := 24) (fz := (0, 0)) (l := cbs V.flatten ++ wj) (o := 0) hs inferInstance (by rw [List.drop_zero, ← hflV, List.take_left']; rfl) hflV (by omega)
    rintro _ _ ⟨tb, Hm, B2, rfl, rfl, hTb, hB2⟩
    rw [← Bk.adds_app, hVl] at hB2
    have hd5 := dep_max (n := L.length) (k := 5) (by show L.length ≤ 32; omega)
    have hUl : (unlike L V).length ≤ 20 := by
      have := List.length_filter_le (fun k => decide (L.getD k z32 ≠ V.getD k z32)) (List.range L.length)
      rw [List.length_range] at this
      unfold unlike
      omega
    have hUk : ∀ k ∈ unlike L V, k ≤ 1099511627776 := fun k hk => by have := (unlike_mem.1 hk).1; omega
    have hab := aboveV_le (unlike L V) (dep L.length)
    have hab2 : dep L.length * (unlike L V).length ≤ 5 * 20 := Nat.mul_le_mul hd5 hUl
    have hInv : (Bk.new.adds (textsV L (dep L.length) ++ textsV V (dep L.length))).Inv := by
      refine Bk.Inv.new.adds _ fun t ht => ?_
      rcases List.mem_append.1 ht with h | h
      · exact textsV_121 hL _ t h
      · exact textsV_121 hV _ t h
    have hlen : (textsV L (dep L.length) ++ textsV V (dep L.length)).length ≤ 16384 := by
      have a1 := textsV_len L hd5
      have a2 := textsV_len V hd5
      rw [List.length_append]
      omega
    have hDif := fun hc : (Bk.new.adds (textsV L (dep L.length) ++ textsV V (dep L.length))).clash = none => dif_iff (D := dep L.length) hL hV hVl.symm (fun t ht => List.mem_append_left _ ht) (fun t ht => List.mem_append_right _ ht) (Bk.clear hlen hc)
    generalize Bk.new.adds (textsV L (dep L.length) ++ textsV V (dep L.length)) = s at *
    have hTrees := Trees_p hTa hTb hL hV (by omega) (by omega) hVl.symm (s.clash = none) hDif
    have hUn := Unlike_p L V hL hV hVl.symm (by omega) (.slice a L.length cap) (.slice (some ⟨wb, 0, none⟩) L.length wc)
    have hPa := fun v => Pairs_p L.length (unlike L V) (by omega) (by omega) hUk (by omega) v
    have hSh := fun hc => shown_p hB2 hInv hc
    generalize unlike L V = U at *
    generalize aboveV U (dep L.length) = A at *
    (repeat' (first | refine W.mv ?_ | refine W.zl ?_ | refine W.fa ?_ | refine W.nl ?_ | refine W.as ?_ | refine W.zb ?_ | refine W.za ?_ | refine W.zi ?_ | refine W.zc ?_ | refine W.zp ?_ | refine W.st ?_ | refine SL.nilB ?_ | refine SL.nil ?_ | refine W.al fun b_ => ?_ | refine W.bx fun b_ => ?_ | refine W.bxa fun b_ => ?_ | refine W.sw ?_ | refine W.sa ?_ | refine W.sk ?_ | refine W.bs0 fun b_ => ?_ | refine W.ma fun b_ => ?_ | refine W.bsl fun b_ => ?_ | refine W.zu ?_ | refine W.zf ?_ | refine W.zd ?_ | refine W.zs ?_ | refine W.zv ?_ | refine W.zx ?_ | refine W.ex ?_ | refine W.mf ?_ | refine W.mk ?_ | refine SW.seq ?_ | refine SW.region ?_ | refine SW.block ?_ | refine SW.cond_t rfl ?_ | refine SW.cond_f rfl ?_ | refine SW.exit ?_ | refine SW.ret ?_ | refine SW.skip ?_))
    refine W.call hTrees ?_
    rintro _ Hx ⟨ov, Ho, out, n, rfl, rfl, hov, hol, hres⟩
    have ho1 := hov.isOne
    obtain ⟨oa, ol, oc, rfl, -⟩ := hov.form
    (repeat' (first | refine W.mv ?_ | refine W.zl ?_ | refine W.fa ?_ | refine W.nl ?_ | refine W.as ?_ | refine W.zb ?_ | refine W.za ?_ | refine W.zi ?_ | refine W.zc ?_ | refine W.zp ?_ | refine W.st ?_ | refine SL.nilB ?_ | refine SL.nil ?_ | refine W.al fun b_ => ?_ | refine W.bx fun b_ => ?_ | refine W.bxa fun b_ => ?_ | refine W.sw ?_ | refine W.sa ?_ | refine W.sk ?_ | refine W.bs0 fun b_ => ?_ | refine W.ma fun b_ => ?_ | refine W.bsl fun b_ => ?_ | refine W.zu ?_ | refine W.zf ?_ | refine W.zd ?_ | refine W.zs ?_ | refine W.zv ?_ | refine W.zx ?_ | refine W.ex ?_ | refine W.mf ?_ | refine W.mk ?_ | refine SW.seq ?_ | refine SW.region ?_ | refine SW.block ?_ | refine SW.cond_t rfl ?_ | refine SW.cond_f rfl ?_ | refine SW.exit ?_ | refine SW.ret ?_ | refine SW.skip ?_))
    refine W.call hUn ?_ rfl (fun w2 hs => ⟨hw2.ro (Hc := []) hs, ?_⟩)
    rotate_left
    · rw [← hVl]
      exact Rd.at (T := 24) (fz := (0, 0)) [] hs (l := cbs V.flatten ++ wj) (o := 0) (by rw [List.drop_zero, ← hflV, List.take_left']; rfl) hflV (by omega)
    intro uv Hu huv
    have hu1 := huv.isOne
    obtain ⟨ua, ul, uc, rfl, -⟩ := huv.form
    (repeat' (first | refine W.mv ?_ | refine W.zl ?_ | refine W.fa ?_ | refine W.nl ?_ | refine W.as ?_ | refine W.zb ?_ | refine W.za ?_ | refine W.zi ?_ | refine W.zc ?_ | refine W.zp ?_ | refine W.st ?_ | refine SL.nilB ?_ | refine SL.nil ?_ | refine W.al fun b_ => ?_ | refine W.bx fun b_ => ?_ | refine W.bxa fun b_ => ?_ | refine W.sw ?_ | refine W.sa ?_ | refine W.sk ?_ | refine W.bs0 fun b_ => ?_ | refine W.ma fun b_ => ?_ | refine W.bsl fun b_ => ?_ | refine W.zu ?_ | refine W.zf ?_ | refine W.zd ?_ | refine W.zs ?_ | refine W.zv ?_ | refine W.zx ?_ | refine W.ex ?_ | refine W.mf ?_ | refine W.mk ?_ | refine SW.seq ?_ | refine SW.region ?_ | refine SW.block ?_ | refine SW.cond_t rfl ?_ | refine SW.cond_f rfl ?_ | refine SW.exit ?_ | refine SW.ret ?_ | refine SW.skip ?_))
    refine W.call (same_p out U (.slice oa ol oc) (.slice ua ul uc) (by omega) (by omega)) ?_ rfl (fun w2 hs => ⟨Rd.ownB [] hov hs, Rd.ownB [] huv hs⟩)
    rintro _ _ ⟨rfl, rfl⟩
    by_cases e1 : out = U
    · rw [decide_eq_true e1]
      (repeat' (first | refine W.mv ?_ | refine W.zl ?_ | refine W.fa ?_ | refine W.nl ?_ | refine W.as ?_ | refine W.zb ?_ | refine W.za ?_ | refine W.zi ?_ | refine W.zc ?_ | refine W.zp ?_ | refine W.st ?_ | refine SL.nilB ?_ | refine SL.nil ?_ | refine W.al fun b_ => ?_ | refine W.bx fun b_ => ?_ | refine W.bxa fun b_ => ?_ | refine W.sw ?_ | refine W.sa ?_ | refine W.sk ?_ | refine W.bs0 fun b_ => ?_ | refine W.ma fun b_ => ?_ | refine W.bsl fun b_ => ?_ | refine W.zu ?_ | refine W.zf ?_ | refine W.zd ?_ | refine W.zs ?_ | refine W.zv ?_ | refine W.zx ?_ | refine W.ex ?_ | refine W.mf ?_ | refine W.mk ?_ | refine SW.seq ?_ | refine SW.region ?_ | refine SW.block ?_ | refine SW.cond_t rfl ?_ | refine SW.cond_f rfl ?_ | refine SW.exit ?_ | refine SW.ret ?_ | refine SW.skip ?_))
      refine W.call (hPa _) ?_ rfl (fun w2 hs => Rd.ownB [] huv hs)
      rintro _ _ ⟨rfl, rfl⟩
      by_cases e2 : n = 1 + 2 * A
      · (repeat' (first | refine W.mv ?_ | refine W.zl ?_ | refine W.fa ?_ | refine W.nl ?_ | refine W.as ?_ | refine W.zb ?_ | refine W.za ?_ | refine W.zi ?_ | refine W.zc ?_ | refine W.zp ?_ | refine W.st ?_ | refine SL.nilB ?_ | refine SL.nil ?_ | refine W.al fun b_ => ?_ | refine W.bx fun b_ => ?_ | refine W.bxa fun b_ => ?_ | refine W.sw ?_ | refine W.sa ?_ | refine W.sk ?_ | refine W.bs0 fun b_ => ?_ | refine W.ma fun b_ => ?_ | refine W.bsl fun b_ => ?_ | refine W.zu ?_ | refine W.zf ?_ | refine W.zd ?_ | refine W.zs ?_ | refine W.zv ?_ | refine W.zx ?_ | refine W.ex ?_ | refine W.mf ?_ | refine W.mk ?_ | refine SW.seq ?_ | refine SW.region ?_ | refine SW.block ?_ | refine SW.cond_t rfl ?_ | refine SW.cond_f rfl ?_ | refine SW.exit ?_ | refine SW.ret ?_ | refine SW.skip ?_))
        refine W.call awake34_p ?_
        rintro _ _ ⟨rfl, rfl⟩
        (repeat' (first | refine W.mv ?_ | refine W.zl ?_ | refine W.fa ?_ | refine W.nl ?_ | refine W.as ?_ | refine W.zb ?_ | refine W.za ?_ | refine W.zi ?_ | refine W.zc ?_ | refine W.zp ?_ | refine W.st ?_ | refine SL.nilB ?_ | refine SL.nil ?_ | refine W.al fun b_ => ?_ | refine W.bx fun b_ => ?_ | refine W.bxa fun b_ => ?_ | refine W.sw ?_ | refine W.sa ?_ | refine W.sk ?_ | refine W.bs0 fun b_ => ?_ | refine W.ma fun b_ => ?_ | refine W.bsl fun b_ => ?_ | refine W.zu ?_ | refine W.zf ?_ | refine W.zd ?_ | refine W.zs ?_ | refine W.zv ?_ | refine W.zx ?_ | refine W.ex ?_ | refine W.mf ?_ | refine W.mk ?_ | refine SW.seq ?_ | refine SW.region ?_ | refine SW.block ?_ | refine SW.cond_t rfl ?_ | refine SW.cond_f rfl ?_ | refine SW.exit ?_ | refine SW.ret ?_ | refine SW.skip ?_))
        refine Fin.to [] ?_
        exact F.f1 rfl
      · (repeat' (first | refine W.mv ?_ | refine W.zl ?_ | refine W.fa ?_ | refine W.nl ?_ | refine W.as ?_ | refine W.zb ?_ | refine W.za ?_ | refine W.zi ?_ | refine W.zc ?_ | refine W.zp ?_ | refine W.st ?_ | refine SL.nilB ?_ | refine SL.nil ?_ | refine W.al fun b_ => ?_ | refine W.bx fun b_ => ?_ | refine W.bxa fun b_ => ?_ | refine W.sw ?_ | refine W.sa ?_ | refine W.sk ?_ | refine W.bs0 fun b_ => ?_ | refine W.ma fun b_ => ?_ | refine W.bsl fun b_ => ?_ | refine W.zu ?_ | refine W.zf ?_ | refine W.zd ?_ | refine W.zs ?_ | refine W.zv ?_ | refine W.zx ?_ | refine W.ex ?_ | refine W.mf ?_ | refine W.mk ?_ | refine SW.seq ?_ | refine SW.region ?_ | refine SW.block ?_ | refine SW.cond_t rfl ?_ | refine SW.cond_f rfl ?_ | refine SW.exit ?_ | refine SW.ret ?_ | refine SW.skip ?_))
        refine W.call (hSh fun hc => e2 (hres hc).2) ?_
        rintro _ Hy rfl
        (repeat' (first | refine W.mv ?_ | refine W.zl ?_ | refine W.fa ?_ | refine W.nl ?_ | refine W.as ?_ | refine W.zb ?_ | refine W.za ?_ | refine W.zi ?_ | refine W.zc ?_ | refine W.zp ?_ | refine W.st ?_ | refine SL.nilB ?_ | refine SL.nil ?_ | refine W.al fun b_ => ?_ | refine W.bx fun b_ => ?_ | refine W.bxa fun b_ => ?_ | refine W.sw ?_ | refine W.sa ?_ | refine W.sk ?_ | refine W.bs0 fun b_ => ?_ | refine W.ma fun b_ => ?_ | refine W.bsl fun b_ => ?_ | refine W.zu ?_ | refine W.zf ?_ | refine W.zd ?_ | refine W.zs ?_ | refine W.zv ?_ | refine W.zx ?_ | refine W.ex ?_ | refine W.mf ?_ | refine W.mk ?_ | refine SW.seq ?_ | refine SW.region ?_ | refine SW.block ?_ | refine SW.cond_t rfl ?_ | refine SW.cond_f rfl ?_ | refine SW.exit ?_ | refine SW.ret ?_ | refine SW.skip ?_))
        refine Fin.to [] ?_
        exact F.f1 rfl
    · rw [decide_eq_false e1]
      (repeat' (first | refine W.mv ?_ | refine W.zl ?_ | refine W.fa ?_ | refine W.nl ?_ | refine W.as ?_ | refine W.zb ?_ | refine W.za ?_ | refine W.zi ?_ | refine W.zc ?_ | refine W.zp ?_ | refine W.st ?_ | refine SL.nilB ?_ | refine SL.nil ?_ | refine W.al fun b_ => ?_ | refine W.bx fun b_ => ?_ | refine W.bxa fun b_ => ?_ | refine W.sw ?_ | refine W.sa ?_ | refine W.sk ?_ | refine W.bs0 fun b_ => ?_ | refine W.ma fun b_ => ?_ | refine W.bsl fun b_ => ?_ | refine W.zu ?_ | refine W.zf ?_ | refine W.zd ?_ | refine W.zs ?_ | refine W.zv ?_ | refine W.zx ?_ | refine W.ex ?_ | refine W.mf ?_ | refine W.mk ?_ | refine SW.seq ?_ | refine SW.region ?_ | refine SW.block ?_ | refine SW.cond_t rfl ?_ | refine SW.cond_f rfl ?_ | refine SW.exit ?_ | refine SW.ret ?_ | refine SW.skip ?_))
      refine W.call (hSh fun hc => e1 (hres hc).1) ?_
      rintro _ Hy rfl
      (repeat' (first | refine W.mv ?_ | refine W.zl ?_ | refine W.fa ?_ | refine W.nl ?_ | refine W.as ?_ | refine W.zb ?_ | refine W.za ?_ | refine W.zi ?_ | refine W.zc ?_ | refine W.zp ?_ | refine W.st ?_ | refine SL.nilB ?_ | refine SL.nil ?_ | refine W.al fun b_ => ?_ | refine W.bx fun b_ => ?_ | refine W.bxa fun b_ => ?_ | refine W.sw ?_ | refine W.sa ?_ | refine W.sk ?_ | refine W.bs0 fun b_ => ?_ | refine W.ma fun b_ => ?_ | refine W.bsl fun b_ => ?_ | refine W.zu ?_ | refine W.zf ?_ | refine W.zd ?_ | refine W.zs ?_ | refine W.zv ?_ | refine W.zx ?_ | refine W.ex ?_ | refine W.mf ?_ | refine W.mk ?_ | refine SW.seq ?_ | refine SW.region ?_ | refine SW.block ?_ | refine SW.cond_t rfl ?_ | refine SW.cond_f rfl ?_ | refine SW.exit ?_ | refine SW.ret ?_ | refine SW.skip ?_))
      refine Fin.to [] ?_
      exact F.f1 rfl
end Go.Proofs.Ytieamijnajbcnaa
