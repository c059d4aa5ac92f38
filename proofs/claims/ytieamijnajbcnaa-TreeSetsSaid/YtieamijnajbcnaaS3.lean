/- What Set does. -/
import Derived.Test.YtieamijnajbcnaaS2
set_option linter.unusedVariables false
set_option linter.unusedSimpArgs false
set_option linter.unusedSectionVars false
namespace Go.Proofs.Ytieamijnajbcnaa
open Go
attribute [local irreducible] SW SL SQ SH SA SS Pu Fin CutF HandF
open Pq

theorem TreeP.open2 {t b n : Nat} {L : List (List (List UInt8))} {H : Hp} (h : TreeP t b n L H) (hL : 0 < L.length) :
    ∃ (lb lc : Nat) (vs lj : List Value) (Hw : Hp), H = (t, cl [.pointer (some ⟨b, 0, none⟩), .int .i64 (n : Int), .slice (some ⟨lb, 0, none⟩) L.length lc] 87) :: ([(lb, cl (vs ++ lj) 38)] ++ Hw) ∧ RowsP vs L Hw ∧ vs.length = L.length ∧ L.length ≤ lc ∧ Sl 38 1 (.slice (some ⟨lb, 0, none⟩) L.length lc) vs [(lb, cl (vs ++ lj) 38)] := by
  obtain ⟨lv, vs, Hl, Hw, rfl, hlv, hrw⟩ := h
  have hv := hrw.len
  have hlv2 := hlv
  rcases hlv with ⟨rfl, rfl, rfl⟩ | ⟨lb, len, cap, junk, rfl, hx, hj, hlc, rfl⟩
  · simp at hv; omega
  · obtain rfl : len = L.length := by omega
    exact ⟨lb, cap, vs, junk, Hw, rfl, hrw, hv, hlc, hlv2⟩
theorem b2p (p : Int × Int) : bfill (fun i => some (i * 2, 2)) (zs [.int .i64 0, .int .i64 0] 1) [(0, .agg [(.int .i64 p.1 : Value), .int .i64 p.2].toArray)] = some (tc p) := rfl
theorem Set_bad {t b n : Nat} {L : List (List (List UInt8))} {H : Hp} (hT : TreeP t b n L H) (xs : List (Int × List UInt8)) (hxs : ∀ x ∈ xs, x.2.length = 32) (hn : xs.length ≤ 1000000) (hbad : xs.any (fun x => !okK n x.1) = true) (v : Value) :
    Tri Try.prog 43 [.pointer (some ⟨t, 0, none⟩), v] H (fun w => Rd (H.map Prod.fst) w 33 v (leafsC xs)) (fun r H' => r = .tuple #[.int .i64 0, .int .i64 3] ∧ H' = H) := by
  refine Tri.mk Try.func43 rfl Try.ntmps43 rfl fun w hw => ?_
  have hv1 := hw.isOne
  have hw2 := hw
  obtain ⟨a, len, cap, rfl, -⟩ := hw.get
  (repeat' (first | refine W.mv ?_ | refine W.zl ?_ | refine W.fa ?_ | refine W.nl ?_ | refine W.as ?_ | refine W.zb ?_ | refine W.za ?_ | refine W.zi ?_ | refine W.zc ?_ | refine W.zp ?_ | refine W.st ?_ | refine SL.nilB ?_ | refine SL.nil ?_ | refine W.al fun b_ => ?_ | refine W.bx fun b_ => ?_ | refine W.bxa fun b_ => ?_ | refine W.sw ?_ | refine W.sa ?_ | refine W.sk ?_ | refine W.bs0 fun b_ => ?_ | refine W.ma fun b_ => ?_ | refine W.bsl fun b_ => ?_ | refine W.zu ?_ | refine W.zf ?_ | refine W.zd ?_ | refine W.zs ?_ | refine W.zv ?_ | refine W.zx ?_ | refine W.ex ?_ | refine W.mf ?_ | refine W.mk ?_ | refine SW.seq ?_ | refine SW.region ?_ | refine SW.block ?_ | refine SW.cond_t rfl ?_ | refine SW.cond_f rfl ?_ | refine SW.exit ?_ | refine SW.ret ?_ | refine SW.skip ?_))
  have hc := cont_p (bx := b_) hT xs hxs hn (.slice a len cap)
  rw [hbad] at hc
  refine W.call hc ?_ rfl (fun w2 hs => hw2.ro (Hc := (b_, cl [.pointer (some ⟨t, 0, none⟩)] 34) :: H) hs)
  rintro _ _ ⟨rfl, rfl⟩
  (repeat' (first | refine W.mv ?_ | refine W.zl ?_ | refine W.fa ?_ | refine W.nl ?_ | refine W.as ?_ | refine W.zb ?_ | refine W.za ?_ | refine W.zi ?_ | refine W.zc ?_ | refine W.zp ?_ | refine W.st ?_ | refine SL.nilB ?_ | refine SL.nil ?_ | refine W.al fun b_ => ?_ | refine W.bx fun b_ => ?_ | refine W.bxa fun b_ => ?_ | refine W.sw ?_ | refine W.sa ?_ | refine W.sk ?_ | refine W.bs0 fun b_ => ?_ | refine W.ma fun b_ => ?_ | refine W.bsl fun b_ => ?_ | refine W.zu ?_ | refine W.zf ?_ | refine W.zd ?_ | refine W.zs ?_ | refine W.zv ?_ | refine W.zx ?_ | refine W.ex ?_ | refine W.mf ?_ | refine W.mk ?_ | refine SW.seq ?_ | refine SW.region ?_ | refine SW.block ?_ | refine SW.cond_t rfl ?_ | refine SW.cond_f rfl ?_ | refine SW.exit ?_ | refine SW.ret ?_ | refine SW.skip ?_))
  refine Fin.to H ?_
  exact F.f2 ⟨rfl, rfl⟩
def plx (x : Sx) : Pl := (x.a.toNat, x.b.toNat)
def NN (ws : List Sx) : Prop := ∀ x ∈ ws, 0 ≤ x.a ∧ 0 ≤ x.b
structure WS where
  ws : List Sx
  next : Nat
  last : Pl
  done : List Pl
  cur : Nat → Nat → List UInt8
  vs : List Value
  Hw : Hp
  Hq : Hp
  Hb : Hp
  s : Bk
theorem pop_p {qp : Nat} {ws : List Sx} {next : Nat} {H : Hp} (hQ : QueueP qp fBl belowB ws next H) (hN : NN ws) (hn : ws.length ≤ 1000000) : Tri Try.prog 71 [.pointer (some ⟨qp, 0, none⟩)] H (fun _ => True)
    (fun v H' => ∃ (p : Pl) (ok : Bool) (ws' : List Sx), v = .tuple #[placeV p.1 p.2, .bool ok] ∧ QueueP qp fBl belowB ws' next H' ∧ NN ws' ∧ ((ok = false ∧ ws = [] ∧ ws' = []) ∨ (ok = true ∧ ws'.length + 1 = ws.length ∧ (∃ x ∈ ws, plx x = p) ∧ (∀ y ∈ ws, ¬ plt (plx y) p) ∧ (∀ y ∈ ws', y ∈ ws) ∧ (∀ y ∈ ws, plx y ≠ p → y ∈ ws')))) := by
  refine (QPop_p belowB_ord below_p hQ hn).mono ?_
  rintro v H' (⟨h1, rfl, rfl⟩ | ⟨x, hmin, hQ2, rfl⟩)
  · subst h1
    exact ⟨(0, 0), false, [], rfl, hQ, hN, .inl ⟨rfl, rfl, rfl⟩⟩
  · obtain ⟨ha, hb⟩ := hN x hmin.1
    have hlen := List.length_erase_of_mem hmin.1
    have hpos := List.length_pos_of_mem hmin.1
    refine ⟨plx x, true, ws.erase x, ?_, hQ2, fun y hy => hN y (List.mem_of_mem_erase hy), .inr ⟨rfl, by omega, ⟨x, hmin.1, rfl⟩, fun y hy h => ?_, fun y hy => List.mem_of_mem_erase hy, fun y hy hne => (List.mem_erase_of_ne (by rintro rfl; exact hne rfl)).2 hy⟩⟩
    · unfold placeV tc plx
      dsimp only
      rw [Int.toNat_of_nonneg ha, Int.toNat_of_nonneg hb]
    · have h1 := hmin.2 y hy
      obtain ⟨hc, hd⟩ := hN y hy
      have h2 : belowB (y.a, y.b) (x.a, x.b) = true := by
        unfold plt plx at h
        dsimp only at h
        unfold belowB
        refine decide_eq_true ?_
        dsimp only
        omega
      unfold le lts at h1
      rw [h2] at h1
      simp at h1
theorem pop_SI {ks : List Nat} {D : Nat} {V : List (List UInt8)} {last : Pl} {done : List Pl} {cur : Nat → Nat → List UInt8} {ws ws' : List Sx} {p : Pl} {ok : Bool} (h : SI ks D V (fun q => ∃ y ∈ ws, plx y = q) last done cur)
    (hp : (ok = false ∧ ws = [] ∧ ws' = []) ∨ (ok = true ∧ ws'.length + 1 = ws.length ∧ (∃ x ∈ ws, plx x = p) ∧ (∀ y ∈ ws, ¬ plt (plx y) p) ∧ (∀ y ∈ ws', y ∈ ws) ∧ (∀ y ∈ ws, plx y ≠ p → y ∈ ws'))) :
    SI ks D V (fun q => (ok = true ∧ q = p) ∨ ∃ y ∈ ws', plx y = q) last done cur ∧ (ok = true → ∀ y ∈ ws', ¬ plt (plx y) p) ∧ (ok = false → ws' = []) ∧ ws'.length + ok.toNat ≤ ws.length := by
  rcases hp with ⟨rfl, h3, h4⟩ | ⟨rfl, h3, ⟨z, hz, hzp⟩, h5, h6, h7⟩
  · subst h3 h4
    refine ⟨?_, by simp, by simp, by simp⟩
    have e : (fun q => (false = true ∧ q = p) ∨ ∃ y ∈ ([] : List Sx), plx y = q) = (fun q => ∃ y ∈ ([] : List Sx), plx y = q) := by funext q; simp
    rw [e]; exact h
  · refine ⟨?_, fun _ y hy => h5 y (h6 y hy), by simp, by simp; omega⟩
    have e : (fun q => (true = true ∧ q = p) ∨ ∃ y ∈ ws', plx y = q) = (fun q => ∃ y ∈ ws, plx y = q) := by
      funext q
      refine propext ⟨?_, ?_⟩
      · rintro (⟨-, rfl⟩ | ⟨y, hy, e⟩)
        · exact ⟨z, hz, hzp⟩
        · exact ⟨y, h6 y hy, e⟩
      · rintro ⟨y, hy, e⟩
        by_cases hq : q = p
        · exact .inl ⟨rfl, hq⟩
        · exact .inr ⟨y, h7 y hy (by rw [e]; exact hq), e⟩
    rw [e]; exact h
set_option maxHeartbeats 2000000 in
theorem Set_p {t b tp : Nat} {s : Bk} {l : List (List UInt8)} {Ht Hb : Hp} (hT : TreeV t b l Ht) (hB : BookP b tp s Hb) (hl : D32 l) (h1 : 1 ≤ l.length) (h2 : l.length ≤ 1024) (xs : List (Int × List UInt8)) (hxs : ∀ x ∈ xs, x.2.length = 32) (hn : xs.length ≤ 1000) (hok : xs.any (fun x => !okK l.length x.1) = false) (v : Value) :
    Tri Try.prog 43 [.pointer (some ⟨t, 0, none⟩), v] (Ht ++ Hb) (fun w => Rd ((Ht ++ Hb).map Prod.fst) w 33 v (leafsC xs))
      (fun r H' => ∃ Ht' Hb' s', r = .tuple #[.int .i64 ((aboveV (xs.map fun x => x.1.toNat) (dep l.length) : Nat) : Int), .int .i64 0] ∧ H' = Ht' ++ Hb' ∧ TreeV t b (setL l xs) Ht' ∧ BookP b tp s' Hb') := by
  refine Tri.mk Try.func43 rfl Try.ntmps43 rfl fun w hw => ?_
  have hv1 := hw.isOne
  have hw2 := hw
  have hokx : ∀ x ∈ xs, 0 ≤ x.1 ∧ x.1 < l.length := fun x hx => by
    have := List.any_eq_false.1 hok x hx
    simpa [okK] using this
  have hL33 : ∀ y ∈ xs.map leafC, y.length = 33 := fun y hy => by
    obtain ⟨x, hx, rfl⟩ := List.mem_map.1 hy
    exact leafC_len (hxs x hx)
  obtain ⟨a, cap, rfl, hcap, hg⟩ := hw.rows (by decide) hL33
  rw [List.length_map] at hcap hw2 hv1 ⊢
  have hd10 := dep_max (n := l.length) (k := 10) (by simpa using h2)
  have hle := dep_le l.length
  have hwl : (setL l xs).length = l.length := setL_len l xs
  have hcont := fun bx => cont_p (bx := bx) hT xs hxs (by omega) (.slice a xs.length cap)
  obtain ⟨lb, lc, vs0, lj, Hw0, hHt, hrw0, hvl, hlc, hSl⟩ := hT.open2 (by simp [rowsV])
  have hLl : (rowsV l (dep l.length) (dep l.length + 1)).length = dep l.length + 1 := by simp [rowsV]
  rw [hLl] at hHt hvl hlc hSl
  unfold TreeV
  rw [hwl]
  have hrw1 : RowsP vs0 (rowsF (curJ l xs 0) (dep l.length)) Hw0 := by rw [curJ_0]; exact hrw0
  generalize hD : dep l.length = D at *
  rw [hok] at hcont
  (repeat' (first | refine W.mv ?_ | refine W.zl ?_ | refine W.fa ?_ | refine W.nl ?_ | refine W.as ?_ | refine W.zb ?_ | refine W.za ?_ | refine W.zi ?_ | refine W.zc ?_ | refine W.zp ?_ | refine W.st ?_ | refine SL.nilB ?_ | refine SL.nil ?_ | refine W.al fun b_ => ?_ | refine W.bx fun b_ => ?_ | refine W.bxa fun b_ => ?_ | refine W.sw ?_ | refine W.sa ?_ | refine W.sk ?_ | refine W.bs0 fun b_ => ?_ | refine W.ma fun b_ => ?_ | refine W.bsl fun b_ => ?_ | refine W.zu ?_ | refine W.zf ?_ | refine W.zd ?_ | refine W.zs ?_ | refine W.zv ?_ | refine W.zx ?_ | refine W.ex ?_ | refine W.mf ?_ | refine W.mk ?_ | refine SW.seq ?_ | refine SW.region ?_ | refine SW.block ?_ | refine SW.cond_t rfl ?_ | refine SW.cond_f rfl ?_ | refine SW.exit ?_ | refine SW.ret ?_ | refine SW.skip ?_))
  refine W.call (hcont b_) ?_ rfl (fun w2 hs => hw2.ro (Hc := (b_, cl [.pointer (some ⟨t, 0, none⟩)] 34) :: Ht) hs)
  rintro _ _ ⟨rfl, rfl⟩
  subst hHt
  (repeat' (first | refine W.mv ?_ | refine W.zl ?_ | refine W.fa ?_ | refine W.nl ?_ | refine W.as ?_ | refine W.zb ?_ | refine W.za ?_ | refine W.zi ?_ | refine W.zc ?_ | refine W.zp ?_ | refine W.st ?_ | refine SL.nilB ?_ | refine SL.nil ?_ | refine W.al fun b_ => ?_ | refine W.bx fun b_ => ?_ | refine W.bxa fun b_ => ?_ | refine W.sw ?_ | refine W.sa ?_ | refine W.sk ?_ | refine W.bs0 fun b_ => ?_ | refine W.ma fun b_ => ?_ | refine W.bsl fun b_ => ?_ | refine W.zu ?_ | refine W.zf ?_ | refine W.zd ?_ | refine W.zs ?_ | refine W.zv ?_ | refine W.zx ?_ | refine W.ex ?_ | refine W.mf ?_ | refine W.mk ?_ | refine SW.seq ?_ | refine SW.region ?_ | refine SW.block ?_ | refine SW.cond_t rfl ?_ | refine SW.cond_f rfl ?_ | refine SW.exit ?_ | refine SW.ret ?_ | refine SW.skip ?_))
  refine W.call (QNew_p fBl belowB) ?_
  rintro _ Hq0 ⟨qp, rfl, hQ0⟩
  (repeat' (first | refine W.mv ?_ | refine W.zl ?_ | refine W.fa ?_ | refine W.nl ?_ | refine W.as ?_ | refine W.zb ?_ | refine W.za ?_ | refine W.zi ?_ | refine W.zc ?_ | refine W.zp ?_ | refine W.st ?_ | refine SL.nilB ?_ | refine SL.nil ?_ | refine W.al fun b_ => ?_ | refine W.bx fun b_ => ?_ | refine W.bxa fun b_ => ?_ | refine W.sw ?_ | refine W.sa ?_ | refine W.sk ?_ | refine W.bs0 fun b_ => ?_ | refine W.ma fun b_ => ?_ | refine W.bsl fun b_ => ?_ | refine W.zu ?_ | refine W.zf ?_ | refine W.zd ?_ | refine W.zs ?_ | refine W.zv ?_ | refine W.zx ?_ | refine W.ex ?_ | refine W.mf ?_ | refine W.mk ?_ | refine SW.seq ?_ | refine SW.region ?_ | refine SW.cond_t rfl ?_ | refine SW.cond_f rfl ?_ | refine SW.exit ?_ | refine SW.ret ?_ | refine SW.skip ?_))
  refine SW.cutH [2, 6] (Hw0 ++ Hq0) (fun x : WS => []) (fun x => x.Hw ++ x.Hq) (fun x => RowsP vs0 (rowsF (curJ l xs xs.length) D) x.Hw ∧ QueueP qp fBl belowB x.ws xs.length x.Hq ∧ NN x.ws ∧ x.ws.length = xs.length ∧ ∀ p, (∃ y ∈ x.ws, plx y = p) ↔ ∃ k ∈ xs.map (fun x => x.1.toNat), p = (1, k / 2)) ?_ ?_
  · (repeat' (first | refine W.mv ?_ | refine W.zl ?_ | refine W.fa ?_ | refine W.nl ?_ | refine W.as ?_ | refine W.zb ?_ | refine W.za ?_ | refine W.zi ?_ | refine W.zc ?_ | refine W.zp ?_ | refine W.st ?_ | refine SL.nilB ?_ | refine SL.nil ?_ | refine W.al fun b_ => ?_ | refine W.bx fun b_ => ?_ | refine W.bxa fun b_ => ?_ | refine W.sw ?_ | refine W.sa ?_ | refine W.sk ?_ | refine W.bs0 fun b_ => ?_ | refine W.ma fun b_ => ?_ | refine W.bsl fun b_ => ?_ | refine W.zu ?_ | refine W.zf ?_ | refine W.zd ?_ | refine W.zs ?_ | refine W.zv ?_ | refine W.zx ?_ | refine W.ex ?_ | refine W.mf ?_ | refine W.mk ?_ | refine SW.seq ?_ | refine SW.region ?_ | refine SW.block ?_ | refine SW.cond_t rfl ?_ | refine SW.cond_f rfl ?_ | refine SW.exit ?_ | refine SW.ret ?_ | refine SW.skip ?_))
    refine SW.loopF [2, 6, 20, 21] (fun y : Nat × List Sx × Hp × Hp => [(22, .int .i64 (y.1 : Int))]) (fun y => y.2.2.1 ++ y.2.2.2) (fun y => xs.length - y.1) (fun y => y.1 ≤ xs.length ∧ RowsP vs0 (rowsF (curJ l xs y.1) D) y.2.2.1 ∧ QueueP qp fBl belowB y.2.1 y.1 y.2.2.2 ∧ NN y.2.1 ∧ y.2.1.length = y.1 ∧ ∀ p, (∃ z ∈ y.2.1, plx z = p) ↔ ∃ k ∈ (xs.take y.1).map (fun x => x.1.toNat), p = (1, k / 2)) (0, [], Hw0, Hq0) ⟨Nat.zero_le _, hrw1, hQ0, by simp [NN], rfl, by simp⟩ ?_
    rintro ⟨j, ws, Hw1, Hq1⟩ ⟨hj, hrw, hQ, hNN, hwsl, hmem⟩
    dsimp only at hj hrw hQ hNN hwsl hmem ⊢
    by_cases hjx : j < xs.length
    · obtain ⟨x, hx⟩ : ∃ x, xs[j]? = some x := ⟨_, List.getElem?_eq_getElem hjx⟩
      have hxm := List.mem_of_getElem? hx
      obtain ⟨pb, po, lv, T, fz, rfl, hb, hk, hv⟩ := hg j (leafC x) (by rw [List.getElem?_map, hx]; rfl)
      obtain ⟨hk0, hk1⟩ := hokx x hxm
      obtain ⟨k, hkk⟩ : ∃ k : Nat, x.1 = (k : Int) := ⟨x.1.toNat, by omega⟩
      have hkt : x.1.toNat = k := by omega
      have hkl : k < l.length := by omega
      obtain ⟨rb, rc, rj, Ha, Hz, hvr, rfl, hr32, hrc, hback⟩ := hrw.get2 (rowsF_get (curJ l xs j) (Nat.zero_le D))
      rw [rowF_len, Nat.sub_zero] at hvr hrc
      have hvr2 := app_get (lj := lj) hvr
      have hset := cbs_setJ (junk := rj) (x := x.2) hr32 (i := k) (by rw [rowF_len, Nat.sub_zero]; omega)
      have hcn := curJ_next l hx (by rw [hkt]; exact hkl)
      rw [hkt] at hcn
      rw [rowF_put, ← hcn] at hset
      have hb3 := hback (rowF (curJ l xs (j + 1)) D 0) (rowF_32 (curJ_32 hl hxs _) D 0) (by rw [rowF_len, rowF_len])
      have hset2 := rowsF_put (curJ l xs j) k x.2 (Nat.zero_le D)
      rw [← hcn] at hset2
      rw [hset2] at hb3
      have hz0 : (leafC x)[0]? = some (.int .i64 (k : Int)) := by unfold leafC; rw [hkk]; rfl
      have hz1 : ((leafC x).drop (0 + 1)).take 32 = cbs x.2 := by
        unfold leafC
        rw [Nat.zero_add, List.drop_succ_cons, List.drop_zero, List.take_of_length_le (by rw [cbs_len, hxs x hxm]; omega)]
      have hzl := leafC_len (hxs x hxm)
      have hzO : OC (leafC x) := inferInstance
      have hc2 := cl32 (hxs x hxm)
      have hz33 : (List.replicate 33 (Value.int .u8 0)).length = 33 := rfl
      have hfit : k * 32 + 32 ≤ (cbs (rowF (curJ l xs j) D 0).flatten ++ rj).length := by
        rw [List.length_append, cbs_len, flatN_len hr32, rowF_len, Nat.sub_zero]; omega
      have hbp : bfill (fun i => [(0, 1), (1, 1)][i]?) ([.int .i64 0] ++ [.int .i64 0]) [(0, .int .i64 0), (1, .int .i64 (k : Int))] = some [.int .i64 ((0 : Nat) : Int), .int .i64 (k : Int)] := rfl
      have hbq := b2p (((1 : Nat) : Int), ((k / 2 : Nat) : Int))
      generalize leafC x = Z at *
      generalize 2 ^ D = X at *
      (repeat' (first | refine W.mv ?_ | refine W.zl ?_ | refine W.fa ?_ | refine W.nl ?_ | refine W.as ?_ | refine W.zb ?_ | refine W.za ?_ | refine W.zi ?_ | refine W.zc ?_ | refine W.zp ?_ | refine W.st ?_ | refine SL.nilB ?_ | refine SL.nil ?_ | refine W.al fun b_ => ?_ | refine W.bx fun b_ => ?_ | refine W.bxa fun b_ => ?_ | refine W.sw ?_ | refine W.sa ?_ | refine W.sk ?_ | refine W.bs0 fun b_ => ?_ | refine W.ma fun b_ => ?_ | refine W.bsl fun b_ => ?_ | refine W.zu ?_ | refine W.zf ?_ | refine W.zd ?_ | refine W.zs ?_ | refine W.zv ?_ | refine W.zx ?_ | refine W.ex ?_ | refine W.mf ?_ | refine W.mk ?_ | refine SW.seq ?_ | refine SW.region ?_ | refine SW.block ?_ | refine SW.cond_t rfl ?_ | refine SW.cond_f rfl ?_ | refine SW.exit ?_ | refine SW.ret ?_ | refine SW.skip ?_))
      (refine SW.regionS [11] ?_ (by kernel_rfl); (first | refine SS.ls 0 [11] rfl ?_ | refine SS.tw 0 rfl (p_load_sR rfl rfl (by assumption) (by assumption) (by assumption)) ?_); refine SS.tw 1 rfl (p_nil rfl rfl) ?_; refine SS.tw 2 rfl (p_fieldAddr rfl rfl OfN.ok) ?_; (first | refine SS.ls 3 [11] rfl ?_ | refine SS.tw 3 rfl (p_load_sR rfl rfl (by assumption) (by assumption) (by assumption)) ?_); (first | refine SS.tw 4 rfl (p_ix rfl rfl rfl (by omega)) ?_ | refine SS.tw 4 rfl (p_ixa rfl rfl rfl (by omega)) ?_); (first | refine SS.ls 5 [11] rfl ?_ | refine SS.tw 5 rfl (p_load_sR rfl rfl (by assumption) (by assumption) (by assumption)) ?_); refine SS.tw 6 rfl (p_fieldAddr rfl rfl OfN.ok) ?_; (first | refine SS.ls 7 [11] rfl ?_ | refine SS.tw 7 rfl (p_load_sR rfl rfl (by assumption) (by assumption) (by assumption)) ?_); refine SS.tw 8 rfl (p_fieldAddr rfl rfl OfN.ok) ?_; (first | refine SS.lw 9 [11] rfl ?_ | refine SS.la 9 [11] rfl ?_ | refine SS.tw 9 rfl (p_load_aR rfl rfl (by assumption) (by assumption) (by assumption) (by assumption)) ?_); (first | refine SS.tw 10 rfl (p_ix rfl rfl rfl (by omega)) ?_ | refine SS.tw 10 rfl (p_ixa rfl rfl rfl (by omega)) ?_); refine SS.effB 11 ?_ rfl (by kernel_rfl); (repeat' (first | refine W.mv ?_ | refine W.zl ?_ | refine W.fa ?_ | refine W.nl ?_ | refine W.as ?_ | refine W.zb ?_ | refine W.za ?_ | refine W.zi ?_ | refine W.zc ?_ | refine W.zp ?_ | refine W.st ?_ | refine SL.nilB ?_ | refine SL.nil ?_ | refine W.al fun b_ => ?_ | refine W.bx fun b_ => ?_ | refine W.bxa fun b_ => ?_ | refine W.sw ?_ | refine W.sa ?_ | refine W.sk ?_ | refine W.bs0 fun b_ => ?_ | refine W.ma fun b_ => ?_ | refine W.bsl fun b_ => ?_ | refine W.zu ?_ | refine W.zf ?_ | refine W.zd ?_ | refine W.zs ?_ | refine W.zv ?_ | refine W.zx ?_ | refine W.ex ?_ | refine W.mf ?_ | refine W.mk ?_)); refine SS.done ?_ (by kernel_rfl))
      rw [hset]
      (repeat' (first | refine W.mv ?_ | refine W.zl ?_ | refine W.fa ?_ | refine W.nl ?_ | refine W.as ?_ | refine W.zb ?_ | refine W.za ?_ | refine W.zi ?_ | refine W.zc ?_ | refine W.zp ?_ | refine W.st ?_ | refine SL.nilB ?_ | refine SL.nil ?_ | refine W.al fun b_ => ?_ | refine W.bx fun b_ => ?_ | refine W.bxa fun b_ => ?_ | refine W.sw ?_ | refine W.sa ?_ | refine W.sk ?_ | refine W.bs0 fun b_ => ?_ | refine W.ma fun b_ => ?_ | refine W.bsl fun b_ => ?_ | refine W.zu ?_ | refine W.zf ?_ | refine W.zd ?_ | refine W.zs ?_ | refine W.zv ?_ | refine W.zx ?_ | refine W.ex ?_ | refine W.mf ?_ | refine W.mk ?_ | refine SW.seq ?_ | refine SW.region ?_ | refine SW.block ?_ | refine SW.cond_t rfl ?_ | refine SW.cond_f rfl ?_ | refine SW.exit ?_ | refine SW.ret ?_ | refine SW.skip ?_))
      refine W.call (up_pl 0 k (by omega) (by omega)) ?_
      rintro _ _ ⟨rfl, rfl⟩
      (repeat' (first | refine W.mv ?_ | refine W.zl ?_ | refine W.fa ?_ | refine W.nl ?_ | refine W.as ?_ | refine W.zb ?_ | refine W.za ?_ | refine W.zi ?_ | refine W.zc ?_ | refine W.zp ?_ | refine W.st ?_ | refine SL.nilB ?_ | refine SL.nil ?_ | refine W.al fun b_ => ?_ | refine W.bx fun b_ => ?_ | refine W.bxa fun b_ => ?_ | refine W.sw ?_ | refine W.sa ?_ | refine W.sk ?_ | refine W.bs0 fun b_ => ?_ | refine W.ma fun b_ => ?_ | refine W.bsl fun b_ => ?_ | refine W.zu ?_ | refine W.zf ?_ | refine W.zd ?_ | refine W.zs ?_ | refine W.zv ?_ | refine W.zx ?_ | refine W.ex ?_ | refine W.mf ?_ | refine W.mk ?_ | refine SW.seq ?_ | refine SW.region ?_ | refine SW.block ?_ | refine SW.cond_t rfl ?_ | refine SW.cond_f rfl ?_ | refine SW.exit ?_ | refine SW.ret ?_ | refine SW.skip ?_))
      refine W.call (QPush_p belowB_ord below_p hQ [(((1 : Nat) : Int), ((k / 2 : Nat) : Int))] (.slice (some ⟨b_, 0, none⟩) 1 1) (by rw [hwsl]; simp; omega) (by simp; omega)) ?_ rfl (fun w2 hs => ?_)
      rotate_left
      · rw [List.flatMap_cons, List.flatMap_nil, List.append_nil]
        exact Rd.own (Hc := Hq1) (Sl.own 90 2 b_ (len := 1) (xs := tc (((1 : Nat) : Int), ((k / 2 : Nat) : Int))) rfl) hs inferInstance
      rintro _ Hq2 ⟨rfl, hQ2⟩
      have hQ3 : QueueP qp fBl belowB (ws ++ [⟨((1 : Nat) : Int), ((k / 2 : Nat) : Int), (j : Int)⟩]) (j + 1) Hq2 := hQ2
      have hplx : plx ⟨((1 : Nat) : Int), ((k / 2 : Nat) : Int), (j : Int)⟩ = (1, k / 2) := by unfold plx; dsimp only; rw [Int.toNat_natCast, Int.toNat_natCast]
      have hmem2 : ∀ p, (∃ z ∈ ws ++ [(⟨((1 : Nat) : Int), ((k / 2 : Nat) : Int), (j : Int)⟩ : Sx)], plx z = p) ↔ ∃ k ∈ (xs.take (j + 1)).map (fun x => x.1.toNat), p = (1, k / 2) := fun p => by
        rw [List.take_add_one, hx, show (some x).toList = [x] from rfl, List.map_append]
        constructor
        · rintro ⟨z, hz, rfl⟩
          rcases List.mem_append.1 hz with h | h
          · obtain ⟨k', hk', e⟩ := (hmem (plx z)).1 ⟨z, h, rfl⟩
            exact ⟨k', List.mem_append_left _ hk', e⟩
          · rw [List.mem_singleton] at h; subst h
            exact ⟨k, List.mem_append_right _ (by simp [hkt]), hplx⟩
        · rintro ⟨k', hk', rfl⟩
          rcases List.mem_append.1 hk' with h | h
          · obtain ⟨z, hz, e⟩ := (hmem _).2 ⟨k', h, rfl⟩
            exact ⟨z, List.mem_append_left _ hz, e⟩
          · simp only [List.map_cons, List.map_nil, List.mem_singleton] at h
            refine ⟨⟨((1 : Nat) : Int), ((k / 2 : Nat) : Int), (j : Int)⟩, by simp, ?_⟩
            rw [h, hkt]
            exact hplx
      (repeat' (first | refine W.mv ?_ | refine W.zl ?_ | refine W.fa ?_ | refine W.nl ?_ | refine W.as ?_ | refine W.zb ?_ | refine W.za ?_ | refine W.zi ?_ | refine W.zc ?_ | refine W.zp ?_ | refine W.st ?_ | refine SL.nilB ?_ | refine SL.nil ?_ | refine W.al fun b_ => ?_ | refine W.bx fun b_ => ?_ | refine W.bxa fun b_ => ?_ | refine W.sw ?_ | refine W.sa ?_ | refine W.sk ?_ | refine W.bs0 fun b_ => ?_ | refine W.ma fun b_ => ?_ | refine W.bsl fun b_ => ?_ | refine W.zu ?_ | refine W.zf ?_ | refine W.zd ?_ | refine W.zs ?_ | refine W.zv ?_ | refine W.zx ?_ | refine W.ex ?_ | refine W.mf ?_ | refine W.mk ?_ | refine SW.seq ?_ | refine SW.region ?_ | refine SW.block ?_ | refine SW.cond_t rfl ?_ | refine SW.cond_f rfl ?_ | refine SW.exit ?_ | refine SW.ret ?_ | refine SW.skip ?_))
      refine HandF.mk (j + 1, ws ++ [⟨((1 : Nat) : Int), ((k / 2 : Nat) : Int), (j : Int)⟩], Ha ++ ((rb, cl (cbs (rowF (curJ l xs (j + 1)) D 0).flatten ++ rj) 25) :: Hz), Hq2) ?_
      refine ⟨hjx, hb3, hQ3, fun z hz => ?_, by rw [List.length_append, hwsl]; rfl, hmem2⟩
      rcases List.mem_append.1 hz with h | h
      · exact hNN z h
      · rw [List.mem_singleton] at h; subst h; exact ⟨by simp, by dsimp only; omega⟩
    · have hj2 : j = xs.length := by omega
      subst hj2
      rw [List.take_length] at hmem
      (repeat' (first | refine W.mv ?_ | refine W.zl ?_ | refine W.fa ?_ | refine W.nl ?_ | refine W.as ?_ | refine W.zb ?_ | refine W.za ?_ | refine W.zi ?_ | refine W.zc ?_ | refine W.zp ?_ | refine W.st ?_ | refine SL.nilB ?_ | refine SL.nil ?_ | refine W.al fun b_ => ?_ | refine W.bx fun b_ => ?_ | refine W.bxa fun b_ => ?_ | refine W.sw ?_ | refine W.sa ?_ | refine W.sk ?_ | refine W.bs0 fun b_ => ?_ | refine W.ma fun b_ => ?_ | refine W.bsl fun b_ => ?_ | refine W.zu ?_ | refine W.zf ?_ | refine W.zd ?_ | refine W.zs ?_ | refine W.zv ?_ | refine W.zx ?_ | refine W.ex ?_ | refine W.mf ?_ | refine W.mk ?_ | refine SW.seq ?_ | refine SW.region ?_ | refine SW.block ?_ | refine SW.cond_t rfl ?_ | refine SW.cond_f rfl ?_ | refine SW.exit ?_ | refine SW.ret ?_ | refine SW.skip ?_))
      refine CutF.mk ⟨ws, 0, (0, 0), [], atV l, [], Hw1, Hq1, [], s⟩ ?_
      exact ⟨hrw, hQ, hNN, hwsl, hmem⟩
  rintro ⟨ws, next, last, done, cur, vs, Hw1, Hq1, Hb1, s1⟩ ⟨hrw, hQ, hNN, hwsl, hmem⟩
  dsimp only at hrw hQ hNN hwsl hmem ⊢
  have hks : ∀ k ∈ xs.map (fun x => x.1.toNat), k < l.length := fun k hk => by
    obtain ⟨x, hx, rfl⟩ := List.mem_map.1 hk
    have := hokx x hx
    omega
  have hst0 := SI.start (ks := xs.map fun x => x.1.toNat) (D := D) (l := l) (w := setL l xs) (setL_other l xs) (cur := curJ l xs xs.length) (fun i hi => by unfold curJ; rw [if_pos rfl, List.take_length]; rfl) (fun d i h1 h2 => by unfold curJ; rw [if_neg (by omega)]) hmem
  have hA := aboveV_le (xs.map fun x => x.1.toNat) D
  rw [List.length_map] at hA
  have hA2 : aboveV (xs.map fun x => x.1.toNat) D ≤ 10 * 1000 := Nat.le_trans hA (Nat.mul_le_mul hd10 hn)
  have h32c := fun d i => curJ_32 hl hxs xs.length d i
  generalize hKS : xs.map (fun x => x.1.toNat) = ks at *
  generalize hAA : aboveV ks D = A at *
  generalize hV : setL l xs = V at *
  generalize curJ l xs xs.length = cur0 at *
  have hb00 : bfill (fun i => [(0, 1), (1, 1)][i]?) ([.int .i64 0] ++ [.int .i64 0]) [] = some (plC (0, 0)) := rfl
  (repeat' (first | refine W.mv ?_ | refine W.zl ?_ | refine W.fa ?_ | refine W.nl ?_ | refine W.as ?_ | refine W.zb ?_ | refine W.za ?_ | refine W.zi ?_ | refine W.zc ?_ | refine W.zp ?_ | refine W.st ?_ | refine SL.nilB ?_ | refine SL.nil ?_ | refine W.al fun b_ => ?_ | refine W.bx fun b_ => ?_ | refine W.bxa fun b_ => ?_ | refine W.sw ?_ | refine W.sa ?_ | refine W.sk ?_ | refine W.bs0 fun b_ => ?_ | refine W.ma fun b_ => ?_ | refine W.bsl fun b_ => ?_ | refine W.zu ?_ | refine W.zf ?_ | refine W.zd ?_ | refine W.zs ?_ | refine W.zv ?_ | refine W.zx ?_ | refine W.ex ?_ | refine W.mf ?_ | refine W.mk ?_ | refine SW.seq ?_ | refine SW.region ?_ | refine SW.cond_t rfl ?_ | refine SW.cond_f rfl ?_ | refine SW.exit ?_ | refine SW.ret ?_ | refine SW.skip ?_))
  refine W.call (pop_p hQ hNN (by omega)) ?_
  rintro _ Hq2 ⟨p0, ok0, ws0, rfl, hQ0', hNN0, hp0⟩
  obtain ⟨g1, g2, g3, g4⟩ := pop_SI hst0 hp0
  (repeat' (first | refine W.mv ?_ | refine W.zl ?_ | refine W.fa ?_ | refine W.nl ?_ | refine W.as ?_ | refine W.zb ?_ | refine W.za ?_ | refine W.zi ?_ | refine W.zc ?_ | refine W.zp ?_ | refine W.st ?_ | refine SL.nilB ?_ | refine SL.nil ?_ | refine W.al fun b_ => ?_ | refine W.bx fun b_ => ?_ | refine W.bxa fun b_ => ?_ | refine W.sw ?_ | refine W.sa ?_ | refine W.sk ?_ | refine W.bs0 fun b_ => ?_ | refine W.ma fun b_ => ?_ | refine W.bsl fun b_ => ?_ | refine W.zu ?_ | refine W.zf ?_ | refine W.zd ?_ | refine W.zs ?_ | refine W.zv ?_ | refine W.zx ?_ | refine W.ex ?_ | refine W.mf ?_ | refine W.mk ?_ | refine SW.seq ?_ | refine SW.region ?_ | refine SW.cond_t rfl ?_ | refine SW.cond_f rfl ?_ | refine SW.exit ?_ | refine SW.ret ?_ | refine SW.skip ?_))
  rename_i bx b10
  refine SW.cutH [2, 6] ((b_, cl (plC p0) 90) :: (b10, cl (plC (0, 0)) 90) :: (Hw1 ++ (Hq2 ++ Hb))) (fun y : WS => [(9, .int .i64 (A : Int))]) (fun y => y.Hw ++ y.Hb) (fun y => RowsP vs0 (rowsV V D (D + 1)) y.Hw ∧ BookP b tp y.s y.Hb) ?_ ?_
  rotate_left
  · rintro ⟨j1, j2, j3, j4, j5, j6, Hw9, j7, Hb9, s9⟩ ⟨hr9, hB9⟩
    dsimp only at hr9 hB9 ⊢
    (repeat' (first | refine W.mv ?_ | refine W.zl ?_ | refine W.fa ?_ | refine W.nl ?_ | refine W.as ?_ | refine W.zb ?_ | refine W.za ?_ | refine W.zi ?_ | refine W.zc ?_ | refine W.zp ?_ | refine W.st ?_ | refine SL.nilB ?_ | refine SL.nil ?_ | refine W.al fun b_ => ?_ | refine W.bx fun b_ => ?_ | refine W.bxa fun b_ => ?_ | refine W.sw ?_ | refine W.sa ?_ | refine W.sk ?_ | refine W.bs0 fun b_ => ?_ | refine W.ma fun b_ => ?_ | refine W.bsl fun b_ => ?_ | refine W.zu ?_ | refine W.zf ?_ | refine W.zd ?_ | refine W.zs ?_ | refine W.zv ?_ | refine W.zx ?_ | refine W.ex ?_ | refine W.mf ?_ | refine W.mk ?_ | refine SW.seq ?_ | refine SW.region ?_ | refine SW.block ?_ | refine SW.cond_t rfl ?_ | refine SW.cond_f rfl ?_ | refine SW.exit ?_ | refine SW.ret ?_ | refine SW.skip ?_))
    refine Fin.to (((t, cl [.pointer (some ⟨b, 0, none⟩), .int .i64 (l.length : Int), .slice (some ⟨lb, 0, none⟩) (D + 1) lc] 87) :: ([(lb, cl (vs0 ++ lj) 38)] ++ Hw9)) ++ Hb9) ?_
    refine F.f2 ?_
    refine ⟨_, Hb9, s9, rfl, rfl, ⟨_, vs0, _, Hw9, rfl, hSl, hr9⟩, hB9⟩
  · (repeat' (first | refine W.mv ?_ | refine W.zl ?_ | refine W.fa ?_ | refine W.nl ?_ | refine W.as ?_ | refine W.zb ?_ | refine W.za ?_ | refine W.zi ?_ | refine W.zc ?_ | refine W.zp ?_ | refine W.st ?_ | refine SL.nilB ?_ | refine SL.nil ?_ | refine W.al fun b_ => ?_ | refine W.bx fun b_ => ?_ | refine W.bxa fun b_ => ?_ | refine W.sw ?_ | refine W.sa ?_ | refine W.sk ?_ | refine W.bs0 fun b_ => ?_ | refine W.ma fun b_ => ?_ | refine W.bsl fun b_ => ?_ | refine W.zu ?_ | refine W.zf ?_ | refine W.zd ?_ | refine W.zs ?_ | refine W.zv ?_ | refine W.zx ?_ | refine W.ex ?_ | refine W.mf ?_ | refine W.mk ?_ | refine SW.seq ?_ | refine SW.region ?_ | refine SW.block ?_ | refine SW.cond_t rfl ?_ | refine SW.cond_f rfl ?_ | refine SW.exit ?_ | refine SW.ret ?_ | refine SW.skip ?_))
    refine SW.loopF [2, 6, 10] (fun y : Nat × Pl × Bool × WS => [(9, .int .i64 (y.2.2.2.done.length : Int)), (11, .pointer (some ⟨y.1, 0, none⟩)), (12, .bool y.2.2.1)]) (fun y => (y.1, cl (plC y.2.1) 90) :: (b10, cl (plC y.2.2.2.last) 90) :: (y.2.2.2.Hw ++ (y.2.2.2.Hq ++ y.2.2.2.Hb))) (fun y => y.2.2.2.ws.length + (A - y.2.2.2.done.length) + y.2.2.1.toNat)
      (fun y => (RowsP vs0 (rowsF y.2.2.2.cur D) y.2.2.2.Hw ∧ (∀ d i, (y.2.2.2.cur d i).length = 32) ∧ BookP b tp y.2.2.2.s y.2.2.2.Hb) ∧ (QueueP qp fBl belowB y.2.2.2.ws y.2.2.2.next y.2.2.2.Hq ∧ NN y.2.2.2.ws) ∧ SI ks D V (fun q => (y.2.2.1 = true ∧ q = y.2.1) ∨ ∃ z ∈ y.2.2.2.ws, plx z = q) y.2.2.2.last y.2.2.2.done y.2.2.2.cur ∧ ((y.2.2.1 = true → ∀ z ∈ y.2.2.2.ws, ¬ plt (plx z) y.2.1) ∧ (y.2.2.1 = false → y.2.2.2.ws = [])) ∧ y.2.2.2.ws.length + (A - y.2.2.2.done.length) + y.2.2.1.toNat ≤ 20000 ∧ y.2.2.2.next + (A - y.2.2.2.done.length) ≤ 20000)
      (b_, p0, ok0, ⟨ws0, xs.length, (0, 0), [], cur0, [], Hw1, Hq2, Hb, s⟩) ⟨⟨hrw, h32c, hB⟩, ⟨hQ0', hNN0⟩, g1, ⟨g2, g3⟩, by simp only [List.length_nil]; omega, by simp only [List.length_nil]; omega⟩ ?_
    rintro ⟨b11, p, ok, ⟨ws1, nx, last1, done1, cur1, j6, Hw2, Hq3, Hb2, s2⟩⟩ ⟨⟨hrw2, h32d, hB2⟩, ⟨hQ2, hNN2⟩, hSI, ⟨hmin, hend⟩, hb1, hb2⟩
    dsimp only at hrw2 h32d hB2 hQ2 hNN2 hSI hmin hend hb1 hb2 ⊢
    cases ok with
    | false =>
      have hws := hend rfl
      subst hws
      have hno : ∀ q, ¬ ((false = true ∧ q = p) ∨ ∃ z ∈ ([] : List Sx), plx z = q) := fun q => by simp
      have hcnt := hSI.count hno
      have hfin := (hSI.fin hno).1
      have hrows : rowsF cur1 D = rowsV V D (D + 1) := by
        unfold rowsF rowsV
        refine List.map_congr_left fun d hd => ?_
        unfold rowF rowV
        refine List.map_congr_left fun i hi => ?_
        exact hfin d i (by have := List.mem_range.1 hd; omega) (List.mem_range.1 hi)
      rw [hrows] at hrw2
      rw [hAA] at hcnt
      rw [hcnt]
      (repeat' (first | refine W.mv ?_ | refine W.zl ?_ | refine W.fa ?_ | refine W.nl ?_ | refine W.as ?_ | refine W.zb ?_ | refine W.za ?_ | refine W.zi ?_ | refine W.zc ?_ | refine W.zp ?_ | refine W.st ?_ | refine SL.nilB ?_ | refine SL.nil ?_ | refine W.al fun b_ => ?_ | refine W.bx fun b_ => ?_ | refine W.bxa fun b_ => ?_ | refine W.sw ?_ | refine W.sa ?_ | refine W.sk ?_ | refine W.bs0 fun b_ => ?_ | refine W.ma fun b_ => ?_ | refine W.bsl fun b_ => ?_ | refine W.zu ?_ | refine W.zf ?_ | refine W.zd ?_ | refine W.zs ?_ | refine W.zv ?_ | refine W.zx ?_ | refine W.ex ?_ | refine W.mf ?_ | refine W.mk ?_ | refine SW.seq ?_ | refine SW.region ?_ | refine SW.block ?_ | refine SW.cond_t rfl ?_ | refine SW.cond_f rfl ?_ | refine SW.exit ?_ | refine SW.ret ?_ | refine SW.skip ?_))
      refine CutF.mk ⟨[], 0, (0, 0), [], cur1, [], Hw2, [], Hb2, s2⟩ ?_
      exact ⟨hrw2, hB2⟩
    | true =>
      have hmin' := hmin rfl
      have hdl := hSI.le
      rw [hAA] at hdl
      (repeat' (first | refine W.mv ?_ | refine W.zl ?_ | refine W.fa ?_ | refine W.nl ?_ | refine W.as ?_ | refine W.zb ?_ | refine W.za ?_ | refine W.zi ?_ | refine W.zc ?_ | refine W.zp ?_ | refine W.st ?_ | refine SL.nilB ?_ | refine SL.nil ?_ | refine W.al fun b_ => ?_ | refine W.bx fun b_ => ?_ | refine W.bxa fun b_ => ?_ | refine W.sw ?_ | refine W.sa ?_ | refine W.sk ?_ | refine W.bs0 fun b_ => ?_ | refine W.ma fun b_ => ?_ | refine W.bsl fun b_ => ?_ | refine W.zu ?_ | refine W.zf ?_ | refine W.zd ?_ | refine W.zs ?_ | refine W.zv ?_ | refine W.zx ?_ | refine W.ex ?_ | refine W.mf ?_ | refine W.mk ?_ | refine SW.seq ?_ | refine SW.region ?_ | refine SW.cond_t rfl ?_ | refine SW.cond_f rfl ?_ | refine SW.exit ?_ | refine SW.ret ?_ | refine SW.skip ?_))
      refine SW.cutH [2, 6, 10, 11] ((b10, cl (plC last1) 90) :: (Hw2 ++ (Hq3 ++ Hb2))) (fun y : WS => [(9, .int .i64 (y.done.length : Int))]) (fun y => (b10, cl (plC y.last) 90) :: (y.Hw ++ (y.Hq ++ y.Hb)))
        (fun y => (RowsP vs0 (rowsF y.cur D) y.Hw ∧ (∀ d i, (y.cur d i).length = 32) ∧ BookP b tp y.s y.Hb) ∧ (QueueP qp fBl belowB y.ws y.next y.Hq ∧ NN y.ws) ∧ SI ks D V (fun q => ∃ z ∈ y.ws, plx z = q) y.last y.done y.cur ∧ y.ws.length + (A - y.done.length) ≤ ws1.length + (A - done1.length) ∧ y.next + (A - y.done.length) ≤ 20000) ?_ ?_
      rotate_left
      · rintro ⟨ws3, nx3, last3, done3, cur3, j6', Hw4, Hq4, Hb4, s4⟩ ⟨⟨hrw4, h32e, hB4⟩, ⟨hQ4, hNN4⟩, hSI4, hm4, hn4⟩
        dsimp only at hrw4 h32e hB4 hQ4 hNN4 hSI4 hm4 hn4 ⊢
        (repeat' (first | refine W.mv ?_ | refine W.zl ?_ | refine W.fa ?_ | refine W.nl ?_ | refine W.as ?_ | refine W.zb ?_ | refine W.za ?_ | refine W.zi ?_ | refine W.zc ?_ | refine W.zp ?_ | refine W.st ?_ | refine SL.nilB ?_ | refine SL.nil ?_ | refine W.al fun b_ => ?_ | refine W.bx fun b_ => ?_ | refine W.bxa fun b_ => ?_ | refine W.sw ?_ | refine W.sa ?_ | refine W.sk ?_ | refine W.bs0 fun b_ => ?_ | refine W.ma fun b_ => ?_ | refine W.bsl fun b_ => ?_ | refine W.zu ?_ | refine W.zf ?_ | refine W.zd ?_ | refine W.zs ?_ | refine W.zv ?_ | refine W.zx ?_ | refine W.ex ?_ | refine W.mf ?_ | refine W.mk ?_ | refine SW.seq ?_ | refine SW.region ?_ | refine SW.block ?_ | refine SW.cond_t rfl ?_ | refine SW.cond_f rfl ?_ | refine SW.exit ?_ | refine SW.ret ?_ | refine SW.skip ?_))
        refine W.call (pop_p hQ4 hNN4 (by omega)) ?_
        rintro _ Hq5 ⟨p5, ok5, ws5, rfl, hQ5, hNN5, hp5⟩
        obtain ⟨e1, e2, e3, e4⟩ := pop_SI hSI4 hp5
        (repeat' (first | refine W.mv ?_ | refine W.zl ?_ | refine W.fa ?_ | refine W.nl ?_ | refine W.as ?_ | refine W.zb ?_ | refine W.za ?_ | refine W.zi ?_ | refine W.zc ?_ | refine W.zp ?_ | refine W.st ?_ | refine SL.nilB ?_ | refine SL.nil ?_ | refine W.al fun b_ => ?_ | refine W.bx fun b_ => ?_ | refine W.bxa fun b_ => ?_ | refine W.sw ?_ | refine W.sa ?_ | refine W.sk ?_ | refine W.bs0 fun b_ => ?_ | refine W.ma fun b_ => ?_ | refine W.bsl fun b_ => ?_ | refine W.zu ?_ | refine W.zf ?_ | refine W.zd ?_ | refine W.zs ?_ | refine W.zv ?_ | refine W.zx ?_ | refine W.ex ?_ | refine W.mf ?_ | refine W.mk ?_ | refine SW.seq ?_ | refine SW.region ?_ | refine SW.block ?_ | refine SW.cond_t rfl ?_ | refine SW.cond_f rfl ?_ | refine SW.exit ?_ | refine SW.ret ?_ | refine SW.skip ?_))
        refine HandF.mk (b_, p5, ok5, ⟨ws5, nx3, last3, done3, cur3, [], Hw4, Hq5, Hb4, s4⟩) ?_ (hM := ?_)
        · exact ⟨⟨hrw4, h32e, hB4⟩, ⟨hQ5, hNN5⟩, e1, ⟨e2, e3⟩, by dsimp only; omega, hn4⟩
        · show ws5.length + (A - done3.length) + ok5.toNat < ws1.length + (A - done1.length) + true.toNat
          rw [Bool.toNat_true]
          omega
      by_cases hpl : p = last1
      · subst hpl
        have hsk := hSI.skip (p := p) (Q' := fun q => ∃ z ∈ ws1, plx z = q) (.inl rfl) (fun q hq => .inr hq) (fun q hq hne => hq.elim (fun h => absurd h.2 hne) id)
        (repeat' (first | refine W.mv ?_ | refine W.zl ?_ | refine W.fa ?_ | refine W.nl ?_ | refine W.as ?_ | refine W.zb ?_ | refine W.za ?_ | refine W.zi ?_ | refine W.zc ?_ | refine W.zp ?_ | refine W.st ?_ | refine SL.nilB ?_ | refine SL.nil ?_ | refine W.al fun b_ => ?_ | refine W.bx fun b_ => ?_ | refine W.bxa fun b_ => ?_ | refine W.sw ?_ | refine W.sa ?_ | refine W.sk ?_ | refine W.bs0 fun b_ => ?_ | refine W.ma fun b_ => ?_ | refine W.bsl fun b_ => ?_ | refine W.zu ?_ | refine W.zf ?_ | refine W.zd ?_ | refine W.zs ?_ | refine W.zv ?_ | refine W.zx ?_ | refine W.ex ?_ | refine W.mf ?_ | refine W.mk ?_ | refine SW.seq ?_ | refine SW.region ?_ | refine SW.block ?_ | refine SW.cond_t rfl ?_ | refine SW.cond_f rfl ?_ | refine SW.exit ?_ | refine SW.ret ?_ | refine SW.skip ?_))
        (refine SW.regionS [] ?_ (by kernel_rfl); (first | refine SS.lw 0 [] rfl ?_ | refine SS.la 0 [] rfl ?_ | refine SS.tw 0 rfl (p_load_aR rfl rfl (by assumption) (by assumption) (by assumption) (by assumption)) ?_); (first | refine SS.lw 1 [] rfl ?_ | refine SS.la 1 [] rfl ?_ | refine SS.tw 1 rfl (p_load_aR rfl rfl (by assumption) (by assumption) (by assumption) (by assumption)) ?_); refine SS.tw 2 rfl (p_eqS_t rfl rfl rfl (plC_q _) (plC_q _) rfl) ?_; refine SS.tw 3 rfl (p_move rfl rfl) ?_; (first | refine SS.sk 4 rfl ?_ | refine SS.tw 4 rfl (p_fieldAddr rfl rfl OfN.ok) ?_); (first | refine SS.sk 5 rfl ?_ | refine SS.ls 5 [] rfl ?_ | refine SS.tw 5 rfl (p_load_sR rfl rfl (by assumption) (by assumption) (by assumption)) ?_); (first | refine SS.sk 6 rfl ?_ | refine SS.ls 6 [] rfl ?_ | refine SS.tw 6 rfl (p_load_sR rfl rfl (by assumption) (by assumption) (by assumption)) ?_); (first | refine SS.sk 7 rfl ?_ | refine SS.tw 7 rfl (p_nil rfl rfl) ?_); (first | refine SS.sk 8 rfl ?_ | refine SS.tw 8 rfl (p_fieldAddr rfl rfl OfN.ok) ?_); (first | refine SS.sk 9 rfl ?_ | refine SS.ls 9 [] rfl ?_ | refine SS.tw 9 rfl (p_load_sR rfl rfl (by assumption) (by assumption) (by assumption)) ?_); (first | refine SS.sk 10 rfl ?_ | refine SS.tw 10 rfl (p_len_slice rfl rfl) ?_); (first | refine SS.sk 11 rfl ?_ | refine SS.tw 11 rfl (Pu.t (p_cmp rfl rfl rfl rfl) (by dsimp only [cmpP]; first | done | omega)) ?_ | refine SS.tw 11 rfl (Pu.f (p_cmp rfl rfl rfl rfl) (by dsimp only [cmpP]; first | done | omega)) ?_ | refine SS.tw 11 rfl (p_cmp rfl rfl rfl rfl) ?_ | refine SS.tw 11 rfl (p_neb rfl rfl rfl) ?_); (first | refine SS.tw 12 rfl (p_pick_t rfl rfl rfl) ?_ | refine SS.tw 12 rfl (p_pick_f rfl rfl rfl) ?_); refine SS.done ?_ (by kernel_rfl))
        (repeat' (first | refine W.mv ?_ | refine W.zl ?_ | refine W.fa ?_ | refine W.nl ?_ | refine W.as ?_ | refine W.zb ?_ | refine W.za ?_ | refine W.zi ?_ | refine W.zc ?_ | refine W.zp ?_ | refine W.st ?_ | refine SL.nilB ?_ | refine SL.nil ?_ | refine W.al fun b_ => ?_ | refine W.bx fun b_ => ?_ | refine W.bxa fun b_ => ?_ | refine W.sw ?_ | refine W.sa ?_ | refine W.sk ?_ | refine W.bs0 fun b_ => ?_ | refine W.ma fun b_ => ?_ | refine W.bsl fun b_ => ?_ | refine W.zu ?_ | refine W.zf ?_ | refine W.zd ?_ | refine W.zs ?_ | refine W.zv ?_ | refine W.zx ?_ | refine W.ex ?_ | refine W.mf ?_ | refine W.mk ?_ | refine SW.seq ?_ | refine SW.region ?_ | refine SW.block ?_ | refine SW.cond_t rfl ?_ | refine SW.cond_f rfl ?_ | refine SW.exit ?_ | refine SW.ret ?_ | refine SW.skip ?_))
        refine CutF.mk ⟨ws1, nx, p, done1, cur1, [], Hw2, Hq3, Hb2, s2⟩ ?_
        exact ⟨⟨hrw2, h32d, hB2⟩, ⟨hQ2, hNN2⟩, hsk, Nat.le_refl _, hb2⟩
      · by_cases hpD : D < p.1
        · have hsk := hSI.skip (p := p) (Q' := fun q => ∃ z ∈ ws1, plx z = q) (.inr hpD) (fun q hq => .inr hq) (fun q hq hne => hq.elim (fun h => absurd h.2 hne) id)
          (repeat' (first | refine W.mv ?_ | refine W.zl ?_ | refine W.fa ?_ | refine W.nl ?_ | refine W.as ?_ | refine W.zb ?_ | refine W.za ?_ | refine W.zi ?_ | refine W.zc ?_ | refine W.zp ?_ | refine W.st ?_ | refine SL.nilB ?_ | refine SL.nil ?_ | refine W.al fun b_ => ?_ | refine W.bx fun b_ => ?_ | refine W.bxa fun b_ => ?_ | refine W.sw ?_ | refine W.sa ?_ | refine W.sk ?_ | refine W.bs0 fun b_ => ?_ | refine W.ma fun b_ => ?_ | refine W.bsl fun b_ => ?_ | refine W.zu ?_ | refine W.zf ?_ | refine W.zd ?_ | refine W.zs ?_ | refine W.zv ?_ | refine W.zx ?_ | refine W.ex ?_ | refine W.mf ?_ | refine W.mk ?_ | refine SW.seq ?_ | refine SW.region ?_ | refine SW.block ?_ | refine SW.cond_t rfl ?_ | refine SW.cond_f rfl ?_ | refine SW.exit ?_ | refine SW.ret ?_ | refine SW.skip ?_))
          (refine SW.regionS [] ?_ (by kernel_rfl); (first | refine SS.lw 0 [] rfl ?_ | refine SS.la 0 [] rfl ?_ | refine SS.tw 0 rfl (p_load_aR rfl rfl (by assumption) (by assumption) (by assumption) (by assumption)) ?_); (first | refine SS.lw 1 [] rfl ?_ | refine SS.la 1 [] rfl ?_ | refine SS.tw 1 rfl (p_load_aR rfl rfl (by assumption) (by assumption) (by assumption) (by assumption)) ?_); refine SS.tw 2 rfl (p_eqS_f rfl rfl rfl (plC_q _) (plC_q _) (plC_ne hpl)) ?_; refine SS.tw 3 rfl (p_move rfl rfl) ?_; (first | refine SS.sk 4 rfl ?_ | refine SS.tw 4 rfl (p_fieldAddr rfl rfl OfN.ok) ?_); (first | refine SS.sk 5 rfl ?_ | refine SS.ls 5 [] rfl ?_ | refine SS.tw 5 rfl (p_load_sR rfl rfl (by assumption) (by assumption) (by assumption)) ?_); (first | refine SS.sk 6 rfl ?_ | refine SS.ls 6 [] rfl ?_ | refine SS.tw 6 rfl (p_load_sR rfl rfl (by assumption) (by assumption) (by assumption)) ?_); (first | refine SS.sk 7 rfl ?_ | refine SS.tw 7 rfl (p_nil rfl rfl) ?_); (first | refine SS.sk 8 rfl ?_ | refine SS.tw 8 rfl (p_fieldAddr rfl rfl OfN.ok) ?_); (first | refine SS.sk 9 rfl ?_ | refine SS.ls 9 [] rfl ?_ | refine SS.tw 9 rfl (p_load_sR rfl rfl (by assumption) (by assumption) (by assumption)) ?_); (first | refine SS.sk 10 rfl ?_ | refine SS.tw 10 rfl (p_len_slice rfl rfl) ?_); (first | refine SS.sk 11 rfl ?_ | refine SS.tw 11 rfl (Pu.t (p_cmp rfl rfl rfl rfl) (by dsimp only [cmpP]; first | done | omega)) ?_ | refine SS.tw 11 rfl (Pu.f (p_cmp rfl rfl rfl rfl) (by dsimp only [cmpP]; first | done | omega)) ?_ | refine SS.tw 11 rfl (p_cmp rfl rfl rfl rfl) ?_ | refine SS.tw 11 rfl (p_neb rfl rfl rfl) ?_); (first | refine SS.tw 12 rfl (p_pick_t rfl rfl rfl) ?_ | refine SS.tw 12 rfl (p_pick_f rfl rfl rfl) ?_); refine SS.done ?_ (by kernel_rfl))
          (repeat' (first | refine W.mv ?_ | refine W.zl ?_ | refine W.fa ?_ | refine W.nl ?_ | refine W.as ?_ | refine W.zb ?_ | refine W.za ?_ | refine W.zi ?_ | refine W.zc ?_ | refine W.zp ?_ | refine W.st ?_ | refine SL.nilB ?_ | refine SL.nil ?_ | refine W.al fun b_ => ?_ | refine W.bx fun b_ => ?_ | refine W.bxa fun b_ => ?_ | refine W.sw ?_ | refine W.sa ?_ | refine W.sk ?_ | refine W.bs0 fun b_ => ?_ | refine W.ma fun b_ => ?_ | refine W.bsl fun b_ => ?_ | refine W.zu ?_ | refine W.zf ?_ | refine W.zd ?_ | refine W.zs ?_ | refine W.zv ?_ | refine W.zx ?_ | refine W.ex ?_ | refine W.mf ?_ | refine W.mk ?_ | refine SW.seq ?_ | refine SW.region ?_ | refine SW.block ?_ | refine SW.cond_t rfl ?_ | refine SW.cond_f rfl ?_ | refine SW.exit ?_ | refine SW.ret ?_ | refine SW.skip ?_))
          refine CutF.mk ⟨ws1, nx, last1, done1, cur1, [], Hw2, Hq3, Hb2, s2⟩ ?_
          exact ⟨⟨hrw2, h32d, hB2⟩, ⟨hQ2, hNN2⟩, hsk, Nat.le_refl _, hb2⟩
        · obtain ⟨q1, q2, q3⟩ := hSI.q p (.inl ⟨rfl, rfl⟩)
          obtain ⟨k, hk, hkp⟩ := q2
          have hkl := hks k hk
          have hpk : p.2 ≤ k := by rw [← hkp]; exact Nat.div_le_self ..
          have hi : p.2 < 2 ^ (D - p.1) := by
            rw [← hkp, Nat.div_lt_iff_lt_mul (Nat.pow_pos (by omega)), ← Nat.pow_add, show D - p.1 + p.1 = D by omega]
            omega
          have hpow : 2 ^ (D - (p.1 - 1)) = 2 * 2 ^ (D - p.1) := by rw [show D - (p.1 - 1) = D - p.1 + 1 by omega, Nat.pow_succ, Nat.mul_comm]
          obtain ⟨hsi2, hnd⟩ := hSI.proc (p := p) (Q' := fun q => ∃ z ∈ ws1 ++ [(⟨((p.1 + 1 : Nat) : Int), ((p.2 / 2 : Nat) : Int), (nx : Int)⟩ : Sx)], plx z = q) (.inl ⟨rfl, rfl⟩)
            (fun q hq => hq.elim (fun h => by rw [h.2]; exact plt_irr p) (fun ⟨z, hz, e⟩ => by rw [← e]; exact hmin' z hz)) hpl (by omega) hi
            (fun q ⟨z, hz, e⟩ => by
              rcases List.mem_append.1 hz with h | h
              · exact .inl (.inr ⟨z, h, e⟩)
              · rw [List.mem_singleton] at h
                refine .inr ?_
                rw [← e, h]
                unfold plx upP
                dsimp only
                rw [Int.toNat_natCast, Int.toNat_natCast])
            (fun q hq hne => hq.elim (fun h => absurd h.2 hne) (fun ⟨z, hz, e⟩ => ⟨z, List.mem_append_left _ hz, e⟩))
            ⟨_, List.mem_append_right _ (List.mem_singleton.2 rfl), by
              unfold plx upP
              dsimp only
              rw [Int.toNat_natCast, Int.toNat_natCast]⟩
          have hdl2 := hsi2.le
          rw [hAA, List.length_append, List.length_singleton] at hdl2
          have hx1 := h32d (p.1 - 1) (2 * p.2)
          have hx2 := h32d (p.1 - 1) (2 * p.2 + 1)
          have hnv : (nodeV p.1 p.2 (cur1 (p.1 - 1) (2 * p.2)) (cur1 (p.1 - 1) (2 * p.2 + 1))).length = 32 := nodeV_len ..
          obtain ⟨rb, rc, rj, Ha, Hz, hvr, rfl, hr32, hrc, hback⟩ := hrw2.get2 (rowsF_get cur1 (D := D) (d := p.1) (by omega))
          obtain ⟨ub, uc, uj, hvu, hatu, hu32, huc⟩ := hrw2.get (rowsF_get cur1 (D := D) (d := p.1 - 1) (by omega))
          rw [rowF_len] at hvr hrc hvu huc
          have hvr2 := app_get (lj := lj) hvr
          have hvu2 := app_get (lj := lj) hvu
          have hg1 := cbs_getJ (junk := uj) hu32 (rowF_get cur1 (D := D) (d := p.1 - 1) (i := 2 * p.2) (by omega))
          have hg2 := cbs_getJ (junk := uj) hu32 (rowF_get cur1 (D := D) (d := p.1 - 1) (i := 2 * p.2 + 1) (by omega))
          have hset := cbs_setJ (junk := rj) (x := nodeV p.1 p.2 (cur1 (p.1 - 1) (2 * p.2)) (cur1 (p.1 - 1) (2 * p.2 + 1))) hr32 (i := p.2) (by rw [rowF_len]; omega)
          rw [rowF_put] at hset
          have h32n := putF_32 h32d (p.1, p.2) hnv
          have hb3 := hback (rowF (putF cur1 (p.1, p.2) (nodeV p.1 p.2 (cur1 (p.1 - 1) (2 * p.2)) (cur1 (p.1 - 1) (2 * p.2 + 1)))) D p.1) (rowF_32 h32n D p.1) (by rw [rowF_len, rowF_len])
          rw [rowsF_put cur1 p.2 _ (show p.1 ≤ D by omega)] at hb3
          have hfit : p.2 * 32 + 32 ≤ (cbs (rowF cur1 D p.1).flatten ++ rj).length := by
            rw [List.length_append, cbs_len, flatN_len hr32, rowF_len]; omega
          have hc1 := cl32 hx1
          have hc2 := cl32 hx2
          have hcn := cl32 hnv
          have hnode := node_p hB2 p.1 p.2 _ _ hx1 hx2
          have hbq := b2p (((p.1 + 1 : Nat) : Int), ((p.2 / 2 : Nat) : Int))
          haveI i1 : NatI ((p.1 : Int) - 1) (p.1 - 1) := ⟨by omega⟩
          generalize 2 ^ (D - (p.1 - 1)) = X2 at *
          generalize 2 ^ (D - p.1) = X1 at *
          (repeat' (first | refine W.mv ?_ | refine W.zl ?_ | refine W.fa ?_ | refine W.nl ?_ | refine W.as ?_ | refine W.zb ?_ | refine W.za ?_ | refine W.zi ?_ | refine W.zc ?_ | refine W.zp ?_ | refine W.st ?_ | refine SL.nilB ?_ | refine SL.nil ?_ | refine W.al fun b_ => ?_ | refine W.bx fun b_ => ?_ | refine W.bxa fun b_ => ?_ | refine W.sw ?_ | refine W.sa ?_ | refine W.sk ?_ | refine W.bs0 fun b_ => ?_ | refine W.ma fun b_ => ?_ | refine W.bsl fun b_ => ?_ | refine W.zu ?_ | refine W.zf ?_ | refine W.zd ?_ | refine W.zs ?_ | refine W.zv ?_ | refine W.zx ?_ | refine W.ex ?_ | refine W.mf ?_ | refine W.mk ?_ | refine SW.seq ?_ | refine SW.region ?_ | refine SW.block ?_ | refine SW.cond_t rfl ?_ | refine SW.cond_f rfl ?_ | refine SW.exit ?_ | refine SW.ret ?_ | refine SW.skip ?_))
          (refine SW.regionS [] ?_ (by kernel_rfl); (first | refine SS.lw 0 [] rfl ?_ | refine SS.la 0 [] rfl ?_ | refine SS.tw 0 rfl (p_load_aR rfl rfl (by assumption) (by assumption) (by assumption) (by assumption)) ?_); (first | refine SS.lw 1 [] rfl ?_ | refine SS.la 1 [] rfl ?_ | refine SS.tw 1 rfl (p_load_aR rfl rfl (by assumption) (by assumption) (by assumption) (by assumption)) ?_); refine SS.tw 2 rfl (p_eqS_f rfl rfl rfl (plC_q _) (plC_q _) (plC_ne hpl)) ?_; refine SS.tw 3 rfl (p_move rfl rfl) ?_; (first | refine SS.sk 4 rfl ?_ | refine SS.tw 4 rfl (p_fieldAddr rfl rfl OfN.ok) ?_); (first | refine SS.sk 5 rfl ?_ | refine SS.ls 5 [] rfl ?_ | refine SS.tw 5 rfl (p_load_sR rfl rfl (by assumption) (by assumption) (by assumption)) ?_); (first | refine SS.sk 6 rfl ?_ | refine SS.ls 6 [] rfl ?_ | refine SS.tw 6 rfl (p_load_sR rfl rfl (by assumption) (by assumption) (by assumption)) ?_); (first | refine SS.sk 7 rfl ?_ | refine SS.tw 7 rfl (p_nil rfl rfl) ?_); (first | refine SS.sk 8 rfl ?_ | refine SS.tw 8 rfl (p_fieldAddr rfl rfl OfN.ok) ?_); (first | refine SS.sk 9 rfl ?_ | refine SS.ls 9 [] rfl ?_ | refine SS.tw 9 rfl (p_load_sR rfl rfl (by assumption) (by assumption) (by assumption)) ?_); (first | refine SS.sk 10 rfl ?_ | refine SS.tw 10 rfl (p_len_slice rfl rfl) ?_); (first | refine SS.sk 11 rfl ?_ | refine SS.tw 11 rfl (Pu.t (p_cmp rfl rfl rfl rfl) (by dsimp only [cmpP]; first | done | omega)) ?_ | refine SS.tw 11 rfl (Pu.f (p_cmp rfl rfl rfl rfl) (by dsimp only [cmpP]; first | done | omega)) ?_ | refine SS.tw 11 rfl (p_cmp rfl rfl rfl rfl) ?_ | refine SS.tw 11 rfl (p_neb rfl rfl rfl) ?_); (first | refine SS.tw 12 rfl (p_pick_t rfl rfl rfl) ?_ | refine SS.tw 12 rfl (p_pick_f rfl rfl rfl) ?_); refine SS.done ?_ (by kernel_rfl))
          (repeat' (first | refine W.mv ?_ | refine W.zl ?_ | refine W.fa ?_ | refine W.nl ?_ | refine W.as ?_ | refine W.zb ?_ | refine W.za ?_ | refine W.zi ?_ | refine W.zc ?_ | refine W.zp ?_ | refine W.st ?_ | refine SL.nilB ?_ | refine SL.nil ?_ | refine W.al fun b_ => ?_ | refine W.bx fun b_ => ?_ | refine W.bxa fun b_ => ?_ | refine W.sw ?_ | refine W.sa ?_ | refine W.sk ?_ | refine W.bs0 fun b_ => ?_ | refine W.ma fun b_ => ?_ | refine W.bsl fun b_ => ?_ | refine W.zu ?_ | refine W.zf ?_ | refine W.zd ?_ | refine W.zs ?_ | refine W.zv ?_ | refine W.zx ?_ | refine W.ex ?_ | refine W.mf ?_ | refine W.mk ?_ | refine SW.seq ?_ | refine SW.region ?_ | refine SW.block ?_ | refine SW.cond_t rfl ?_ | refine SW.cond_f rfl ?_ | refine SW.exit ?_ | refine SW.ret ?_ | refine SW.skip ?_))
          (refine SW.regionS [] ?_ (by kernel_rfl); (first | refine SS.ls 0 [] rfl ?_ | refine SS.tw 0 rfl (p_load_sR rfl rfl (by assumption) (by assumption) (by assumption)) ?_); refine SS.tw 1 rfl (p_nil rfl rfl) ?_; refine SS.tw 2 rfl (p_fieldAddr rfl rfl OfN.ok) ?_; (first | refine SS.ls 3 [] rfl ?_ | refine SS.tw 3 rfl (p_load_sR rfl rfl (by assumption) (by assumption) (by assumption)) ?_); refine SS.tw 4 rfl (p_fieldAddr rfl rfl OfN.ok) ?_; (first | refine SS.ls 5 [] rfl ?_ | refine SS.tw 5 rfl (p_load_sR rfl rfl (by assumption) (by assumption) (by assumption)) ?_); (first | refine SS.tw 6 rfl (p_sub rfl rfl rfl (w64 (by omega))) ?_ | refine SS.tw 6 rfl (p_uar rfl rfl rfl) ?_); (first | refine SS.tw 7 rfl (p_ix rfl rfl rfl (by omega)) ?_ | refine SS.tw 7 rfl (p_ixa rfl rfl rfl (by omega)) ?_); (first | refine SS.ls 8 [] rfl ?_ | refine SS.tw 8 rfl (p_load_sR rfl rfl (by assumption) (by assumption) (by assumption)) ?_); refine SS.tw 9 rfl (p_assign rfl rfl) ?_; refine SS.done ?_ (by kernel_rfl))
          (repeat' (first | refine W.mv ?_ | refine W.zl ?_ | refine W.fa ?_ | refine W.nl ?_ | refine W.as ?_ | refine W.zb ?_ | refine W.za ?_ | refine W.zi ?_ | refine W.zc ?_ | refine W.zp ?_ | refine W.st ?_ | refine SL.nilB ?_ | refine SL.nil ?_ | refine W.al fun b_ => ?_ | refine W.bx fun b_ => ?_ | refine W.bxa fun b_ => ?_ | refine W.sw ?_ | refine W.sa ?_ | refine W.sk ?_ | refine W.bs0 fun b_ => ?_ | refine W.ma fun b_ => ?_ | refine W.bsl fun b_ => ?_ | refine W.zu ?_ | refine W.zf ?_ | refine W.zd ?_ | refine W.zs ?_ | refine W.zv ?_ | refine W.zx ?_ | refine W.ex ?_ | refine W.mf ?_ | refine W.mk ?_ | refine SW.seq ?_ | refine SW.region ?_ | refine SW.block ?_ | refine SW.cond_t rfl ?_ | refine SW.cond_f rfl ?_ | refine SW.exit ?_ | refine SW.ret ?_ | refine SW.skip ?_))
          (refine SW.regionS [30] ?_ (by kernel_rfl); (first | refine SS.ls 0 [30] rfl ?_ | refine SS.tw 0 rfl (p_load_sR rfl rfl (by assumption) (by assumption) (by assumption)) ?_); refine SS.tw 1 rfl (p_nil rfl rfl) ?_; refine SS.tw 2 rfl (p_fieldAddr rfl rfl OfN.ok) ?_; (first | refine SS.ls 3 [30] rfl ?_ | refine SS.tw 3 rfl (p_load_sR rfl rfl (by assumption) (by assumption) (by assumption)) ?_); refine SS.tw 4 rfl (p_fieldAddr rfl rfl OfN.ok) ?_; (first | refine SS.ls 5 [30] rfl ?_ | refine SS.tw 5 rfl (p_load_sR rfl rfl (by assumption) (by assumption) (by assumption)) ?_); (first | refine SS.tw 6 rfl (p_ix rfl rfl rfl (by omega)) ?_ | refine SS.tw 6 rfl (p_ixa rfl rfl rfl (by omega)) ?_); (first | refine SS.ls 7 [30] rfl ?_ | refine SS.tw 7 rfl (p_load_sR rfl rfl (by assumption) (by assumption) (by assumption)) ?_); refine SS.tw 8 rfl (p_fieldAddr rfl rfl OfN.ok) ?_; (first | refine SS.ls 9 [30] rfl ?_ | refine SS.tw 9 rfl (p_load_sR rfl rfl (by assumption) (by assumption) (by assumption)) ?_); (first | refine SS.ls 10 [30] rfl ?_ | refine SS.tw 10 rfl (p_load_sR rfl rfl (by assumption) (by assumption) (by assumption)) ?_); refine SS.tw 11 rfl (p_nil rfl rfl) ?_; refine SS.tw 12 rfl (p_fieldAddr rfl rfl OfN.ok) ?_; (first | refine SS.ls 13 [30] rfl ?_ | refine SS.tw 13 rfl (p_load_sR rfl rfl (by assumption) (by assumption) (by assumption)) ?_); (first | refine SS.lw 14 [30] rfl ?_ | refine SS.la 14 [30] rfl ?_ | refine SS.tw 14 rfl (p_load_aR rfl rfl (by assumption) (by assumption) (by assumption) (by assumption)) ?_); refine SS.tw 15 rfl (p_move rfl rfl) ?_; refine SS.tw 16 rfl (p_fieldAddr rfl rfl OfN.ok) ?_; (first | refine SS.ls 17 [30] rfl ?_ | refine SS.tw 17 rfl (p_load_sR rfl rfl (by assumption) (by assumption) (by assumption)) ?_); (first | refine SS.tw 18 rfl (p_mul rfl rfl rfl (w64 (by omega))) ?_ | refine SS.tw 18 rfl (p_uar rfl rfl rfl) ?_); (first | refine SS.tw 19 rfl (p_ix rfl rfl rfl (by omega)) ?_ | refine SS.tw 19 rfl (p_ixa rfl rfl rfl (by omega)) ?_); (first | refine SS.lw 20 [30] rfl ?_ | refine SS.la 20 [30] rfl ?_ | refine SS.tw 20 rfl (p_load_aR rfl rfl (by assumption) (by assumption) (by assumption) (by assumption)) ?_); refine SS.tw 21 rfl (p_move rfl rfl) ?_; refine SS.tw 22 rfl (p_fieldAddr rfl rfl OfN.ok) ?_; (first | refine SS.ls 23 [30] rfl ?_ | refine SS.tw 23 rfl (p_load_sR rfl rfl (by assumption) (by assumption) (by assumption)) ?_); (first | refine SS.tw 24 rfl (p_mul rfl rfl rfl (w64 (by omega))) ?_ | refine SS.tw 24 rfl (p_uar rfl rfl rfl) ?_); (first | refine SS.tw 25 rfl (p_add rfl rfl rfl (w64 (by omega))) ?_ | refine SS.tw 25 rfl (p_uar rfl rfl rfl) ?_); (first | refine SS.tw 26 rfl (p_ix rfl rfl rfl (by omega)) ?_ | refine SS.tw 26 rfl (p_ixa rfl rfl rfl (by omega)) ?_); (first | refine SS.lw 27 [30] rfl ?_ | refine SS.la 27 [30] rfl ?_ | refine SS.tw 27 rfl (p_load_aR rfl rfl (by assumption) (by assumption) (by assumption) (by assumption)) ?_); refine SS.effK 28 ?_ rfl (by kernel_rfl))
          refine W.call hnode ?_
          rintro _ Hb3 ⟨rfl, hB3⟩
          (refine SL.nilB ?_; (first | refine SS.tw 29 rfl (p_ix rfl rfl rfl (by omega)) ?_ | refine SS.tw 29 rfl (p_ixa rfl rfl rfl (by omega)) ?_); refine SS.effB 30 ?_ rfl (by kernel_rfl); (repeat' (first | refine W.mv ?_ | refine W.zl ?_ | refine W.fa ?_ | refine W.nl ?_ | refine W.as ?_ | refine W.zb ?_ | refine W.za ?_ | refine W.zi ?_ | refine W.zc ?_ | refine W.zp ?_ | refine W.st ?_ | refine SL.nilB ?_ | refine SL.nil ?_ | refine W.al fun b_ => ?_ | refine W.bx fun b_ => ?_ | refine W.bxa fun b_ => ?_ | refine W.sw ?_ | refine W.sa ?_ | refine W.sk ?_ | refine W.bs0 fun b_ => ?_ | refine W.ma fun b_ => ?_ | refine W.bsl fun b_ => ?_ | refine W.zu ?_ | refine W.zf ?_ | refine W.zd ?_ | refine W.zs ?_ | refine W.zv ?_ | refine W.zx ?_ | refine W.ex ?_ | refine W.mf ?_ | refine W.mk ?_)); refine SS.done ?_ (by kernel_rfl))
          rw [hset]
          (repeat' (first | refine W.mv ?_ | refine W.zl ?_ | refine W.fa ?_ | refine W.nl ?_ | refine W.as ?_ | refine W.zb ?_ | refine W.za ?_ | refine W.zi ?_ | refine W.zc ?_ | refine W.zp ?_ | refine W.st ?_ | refine SL.nilB ?_ | refine SL.nil ?_ | refine W.al fun b_ => ?_ | refine W.bx fun b_ => ?_ | refine W.bxa fun b_ => ?_ | refine W.sw ?_ | refine W.sa ?_ | refine W.sk ?_ | refine W.bs0 fun b_ => ?_ | refine W.ma fun b_ => ?_ | refine W.bsl fun b_ => ?_ | refine W.zu ?_ | refine W.zf ?_ | refine W.zd ?_ | refine W.zs ?_ | refine W.zv ?_ | refine W.zx ?_ | refine W.ex ?_ | refine W.mf ?_ | refine W.mk ?_ | refine SW.seq ?_ | refine SW.region ?_ | refine SW.block ?_ | refine SW.cond_t rfl ?_ | refine SW.cond_f rfl ?_ | refine SW.exit ?_ | refine SW.ret ?_ | refine SW.skip ?_))
          refine W.call (up_pl p.1 p.2 (by omega) (by omega)) ?_
          rintro _ _ ⟨rfl, rfl⟩
          (repeat' (first | refine W.mv ?_ | refine W.zl ?_ | refine W.fa ?_ | refine W.nl ?_ | refine W.as ?_ | refine W.zb ?_ | refine W.za ?_ | refine W.zi ?_ | refine W.zc ?_ | refine W.zp ?_ | refine W.st ?_ | refine SL.nilB ?_ | refine SL.nil ?_ | refine W.al fun b_ => ?_ | refine W.bx fun b_ => ?_ | refine W.bxa fun b_ => ?_ | refine W.sw ?_ | refine W.sa ?_ | refine W.sk ?_ | refine W.bs0 fun b_ => ?_ | refine W.ma fun b_ => ?_ | refine W.bsl fun b_ => ?_ | refine W.zu ?_ | refine W.zf ?_ | refine W.zd ?_ | refine W.zs ?_ | refine W.zv ?_ | refine W.zx ?_ | refine W.ex ?_ | refine W.mf ?_ | refine W.mk ?_ | refine SW.seq ?_ | refine SW.region ?_ | refine SW.block ?_ | refine SW.cond_t rfl ?_ | refine SW.cond_f rfl ?_ | refine SW.exit ?_ | refine SW.ret ?_ | refine SW.skip ?_))
          refine W.call (QPush_p belowB_ord below_p hQ2 [(((p.1 + 1 : Nat) : Int), ((p.2 / 2 : Nat) : Int))] (.slice (some ⟨b_, 0, none⟩) 1 1) (by simp only [List.length_singleton]; omega) (by simp only [List.length_singleton]; omega)) ?_ rfl (fun w2 hs => ?_)
          rotate_left
          · rw [List.flatMap_cons, List.flatMap_nil, List.append_nil]
            exact Rd.own (Hc := Hq3) (Sl.own 90 2 b_ (len := 1) (xs := tc (((p.1 + 1 : Nat) : Int), ((p.2 / 2 : Nat) : Int))) rfl) hs inferInstance
          rintro _ Hq4 ⟨rfl, hQ4⟩
          have hQ5 : QueueP qp fBl belowB (ws1 ++ [⟨((p.1 + 1 : Nat) : Int), ((p.2 / 2 : Nat) : Int), (nx : Int)⟩]) (nx + 1) Hq4 := hQ4
          (repeat' (first | refine W.mv ?_ | refine W.zl ?_ | refine W.fa ?_ | refine W.nl ?_ | refine W.as ?_ | refine W.zb ?_ | refine W.za ?_ | refine W.zi ?_ | refine W.zc ?_ | refine W.zp ?_ | refine W.st ?_ | refine SL.nilB ?_ | refine SL.nil ?_ | refine W.al fun b_ => ?_ | refine W.bx fun b_ => ?_ | refine W.bxa fun b_ => ?_ | refine W.sw ?_ | refine W.sa ?_ | refine W.sk ?_ | refine W.bs0 fun b_ => ?_ | refine W.ma fun b_ => ?_ | refine W.bsl fun b_ => ?_ | refine W.zu ?_ | refine W.zf ?_ | refine W.zd ?_ | refine W.zs ?_ | refine W.zv ?_ | refine W.zx ?_ | refine W.ex ?_ | refine W.mf ?_ | refine W.mk ?_ | refine SW.seq ?_ | refine SW.region ?_ | refine SW.block ?_ | refine SW.cond_t rfl ?_ | refine SW.cond_f rfl ?_ | refine SW.exit ?_ | refine SW.ret ?_ | refine SW.skip ?_))
          rw [show ((done1.length : Int) + 1) = (((done1 ++ [p]).length : Nat) : Int) by simp]
          refine CutF.mk ⟨ws1 ++ [⟨((p.1 + 1 : Nat) : Int), ((p.2 / 2 : Nat) : Int), (nx : Int)⟩], nx + 1, p, done1 ++ [p], putF cur1 p (nodeV p.1 p.2 (cur1 (p.1 - 1) (2 * p.2)) (cur1 (p.1 - 1) (2 * p.2 + 1))), [], Ha ++ ((rb, cl (cbs (rowF (putF cur1 (p.1, p.2) (nodeV p.1 p.2 (cur1 (p.1 - 1) (2 * p.2)) (cur1 (p.1 - 1) (2 * p.2 + 1)))) D p.1).flatten ++ rj) 25) :: Hz), Hq4, Hb3, s2.add (nodeT p.1 p.2 (cur1 (p.1 - 1) (2 * p.2)) (cur1 (p.1 - 1) (2 * p.2 + 1)))⟩ ?_
          refine ⟨⟨hb3, h32n, hB3⟩, ⟨hQ5, fun z hz => ?_⟩, hsi2, ?_, ?_⟩
          · rcases List.mem_append.1 hz with h | h
            · exact hNN2 z h
            · rw [List.mem_singleton] at h; subst h; exact ⟨by dsimp only; omega, by dsimp only; omega⟩
          · dsimp only
            rw [List.length_append, List.length_append, List.length_singleton, List.length_singleton]
            omega
          · dsimp only
            rw [List.length_append, List.length_singleton]
            omega
end Go.Proofs.Ytieamijnajbcnaa
