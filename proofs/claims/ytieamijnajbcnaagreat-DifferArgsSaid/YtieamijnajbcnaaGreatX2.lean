/- What Trees of differ does. -/
import Derived.Test.YtieamijnajbcnaaGreatX1
set_option linter.unusedVariables false
set_option linter.unusedSimpArgs false
set_option linter.unusedSectionVars false
namespace Go.Proofs.YtieamijnajbcnaaGreat
open Go
attribute [local irreducible] SW SL SQ SH SA SS Pu Fin CutF HandF
open Pq

abbrev plC (p : Pl) : List Value := [.int .i64 (p.1 : Int), .int .i64 (p.2 : Int)]
def qall (ok : Bool) (p : Pl) (ws : List Sx) : List Pl := if ok = true then p :: ws.map plx else []
theorem pop_q {ws ws' : List Sx} {p : Pl} {ok : Bool} (h : (ok = false ∧ ws = [] ∧ ws' = []) ∨ (ok = true ∧ (ws.map plx).Perm (p :: ws'.map plx) ∧ ∀ y ∈ ws'.map plx, ¬ pah y p)) :
    (ws.map plx).Perm (qall ok p ws') ∧ (ok = true → ∀ y ∈ ws'.map plx, ¬ pah y p) := by
  rcases h with ⟨rfl, rfl, rfl⟩ | ⟨rfl, h2, h3⟩
  · exact ⟨by simp [qall], by simp⟩
  · exact ⟨by simpa [qall] using h2, fun _ => h3⟩
structure ES where
  ws : List Sx
  next : Nat
  ds : List Pl
  out : List Nat
  ov : Value
  Ho : Hp
  Hq : Hp
set_option maxHeartbeats 2000000 in
theorem Trees_p {ta tb b : Nat} {l m : List (List UInt8)} {Ha Hm : Hp} (hTa : TreeV ta b l Ha) (hTb : TreeV tb b m Hm) (hl : D32 l) (hm : D32 m) (h1 : 1 ≤ l.length) (h2 : l.length ≤ 1024) (hlm : l.length = m.length) (hD : Prop)
    (hDif : hD → ∀ d, d ≤ dep l.length → ∀ i, i < 2 ^ (dep l.length - d) → (atV l d i ≠ atV m d i ↔ aff (unlike l m) d i)) :
    Tri Tryz.prog 6 [.pointer (some ⟨ta, 0, none⟩), .pointer (some ⟨tb, 0, none⟩)] (Ha ++ Hm) (fun _ => True)
      (fun r H' => ∃ ov Ho out n, r = .tuple #[ov, .int .i64 ((n : Nat) : Int), .int .i64 0] ∧ H' = Ho ∧ Sl 3 1 ov (iv out) Ho ∧ out.length ≤ 2048 ∧ (hD → out = unlike l m ∧ n = 1 + 2 * aboveV (unlike l m) (dep l.length))) := by
  refine Tri.mk Tryz.func6 rfl Tryz.ntmps6 rfl fun w hw => ?_
  have hd10 := dep_max (n := l.length) (k := 10) (by simpa using h2)
  have hLa := Len_p hTa
  have hLb := Len_p hTb
  have hDa : Tri Tryz.prog 18 [.pointer (some ⟨ta, 0, none⟩)] Ha (fun _ => True) (fun v H' => v = .int .i64 ((dep l.length : Nat) : Int) ∧ H' = Ha) := by
    have hl2 : (rowsV l (dep l.length) (dep l.length + 1)).length = dep l.length + 1 := by simp [rowsV]
    have := Depth_p hTa (by omega) (by omega)
    rwa [hl2, Nat.add_sub_cancel] at this
  have hNa := fun p : Pl => Node_p hTa (p.1 : Int) (p.2 : Int) h2
  have hNb := fun p : Pl => Node_p hTb (p.1 : Int) (p.2 : Int) (by omega)
  have hIa := fun d i => nodeAt_in l (d := d) (i := i)
  have hIb := fun d i => nodeAt_in m (d := d) (i := i)
  rw [← hlm] at hLb hIb
  have hw0 : wtL [((dep l.length, 0) : Pl)] ≤ 2048 := by
    unfold wtL wt
    simp only [List.map_cons, List.map_nil, List.foldr_cons, List.foldr_nil, Nat.add_zero]
    have : 2 ^ (dep l.length + 1) ≤ 2 ^ 11 := Nat.pow_le_pow_right (by omega) (by omega)
    omega
  have hUs := unlike_sorted l m
  have hUk : ∀ k ∈ unlike l m, k < 2 ^ dep l.length := fun k hk => by
    have := (unlike_mem.1 hk).1
    have := dep_le l.length
    omega
  generalize unlike l m = U at *
  generalize dep l.length = D at *
  have hb1 := b1a (tcP (D, 0))
  (repeat' (first | refine W.mv ?_ | refine W.zl ?_ | refine W.fa ?_ | refine W.nl ?_ | refine W.as ?_ | refine W.zb ?_ | refine W.za ?_ | refine W.zi ?_ | refine W.zc ?_ | refine W.zp ?_ | refine W.st ?_ | refine SL.nilB ?_ | refine SL.nil ?_ | refine W.al fun b_ => ?_ | refine W.bx fun b_ => ?_ | refine W.bxa fun b_ => ?_ | refine W.sw ?_ | refine W.sa ?_ | refine W.sk ?_ | refine W.bs0 fun b_ => ?_ | refine W.ma fun b_ => ?_ | refine W.bsl fun b_ => ?_ | refine W.zu ?_ | refine W.zf ?_ | refine W.zd ?_ | refine W.zs ?_ | refine W.zv ?_ | refine W.zx ?_ | refine W.ex ?_ | refine W.mf ?_ | refine W.mk ?_ | refine SW.seq ?_ | refine SW.region ?_ | refine SW.block ?_ | refine SW.cond_t rfl ?_ | refine SW.cond_f rfl ?_ | refine SW.exit ?_ | refine SW.ret ?_ | refine SW.skip ?_))
  refine W.call hLa ?_
  rintro _ Hx ⟨rfl, rfl⟩
  (repeat' (first | refine W.mv ?_ | refine W.zl ?_ | refine W.fa ?_ | refine W.nl ?_ | refine W.as ?_ | refine W.zb ?_ | refine W.za ?_ | refine W.zi ?_ | refine W.zc ?_ | refine W.zp ?_ | refine W.st ?_ | refine SL.nilB ?_ | refine SL.nil ?_ | refine W.al fun b_ => ?_ | refine W.bx fun b_ => ?_ | refine W.bxa fun b_ => ?_ | refine W.sw ?_ | refine W.sa ?_ | refine W.sk ?_ | refine W.bs0 fun b_ => ?_ | refine W.ma fun b_ => ?_ | refine W.bsl fun b_ => ?_ | refine W.zu ?_ | refine W.zf ?_ | refine W.zd ?_ | refine W.zs ?_ | refine W.zv ?_ | refine W.zx ?_ | refine W.ex ?_ | refine W.mf ?_ | refine W.mk ?_ | refine SW.seq ?_ | refine SW.region ?_ | refine SW.block ?_ | refine SW.cond_t rfl ?_ | refine SW.cond_f rfl ?_ | refine SW.exit ?_ | refine SW.ret ?_ | refine SW.skip ?_))
  refine W.call hLb ?_
  rintro _ Hy ⟨rfl, rfl⟩
  (repeat' (first | refine W.mv ?_ | refine W.zl ?_ | refine W.fa ?_ | refine W.nl ?_ | refine W.as ?_ | refine W.zb ?_ | refine W.za ?_ | refine W.zi ?_ | refine W.zc ?_ | refine W.zp ?_ | refine W.st ?_ | refine SL.nilB ?_ | refine SL.nil ?_ | refine W.al fun b_ => ?_ | refine W.bx fun b_ => ?_ | refine W.bxa fun b_ => ?_ | refine W.sw ?_ | refine W.sa ?_ | refine W.sk ?_ | refine W.bs0 fun b_ => ?_ | refine W.ma fun b_ => ?_ | refine W.bsl fun b_ => ?_ | refine W.zu ?_ | refine W.zf ?_ | refine W.zd ?_ | refine W.zs ?_ | refine W.zv ?_ | refine W.zx ?_ | refine W.ex ?_ | refine W.mf ?_ | refine W.mk ?_ | refine SW.seq ?_ | refine SW.region ?_ | refine SW.block ?_ | refine SW.cond_t rfl ?_ | refine SW.cond_f rfl ?_ | refine SW.exit ?_ | refine SW.ret ?_ | refine SW.skip ?_))
  refine W.call (QNew_p fAh aheadB) ?_
  rintro _ Hq0 ⟨qp, rfl, hQ0⟩
  (repeat' (first | refine W.mv ?_ | refine W.zl ?_ | refine W.fa ?_ | refine W.nl ?_ | refine W.as ?_ | refine W.zb ?_ | refine W.za ?_ | refine W.zi ?_ | refine W.zc ?_ | refine W.zp ?_ | refine W.st ?_ | refine SL.nilB ?_ | refine SL.nil ?_ | refine W.al fun b_ => ?_ | refine W.bx fun b_ => ?_ | refine W.bxa fun b_ => ?_ | refine W.sw ?_ | refine W.sa ?_ | refine W.sk ?_ | refine W.bs0 fun b_ => ?_ | refine W.ma fun b_ => ?_ | refine W.bsl fun b_ => ?_ | refine W.zu ?_ | refine W.zf ?_ | refine W.zd ?_ | refine W.zs ?_ | refine W.zv ?_ | refine W.zx ?_ | refine W.ex ?_ | refine W.mf ?_ | refine W.mk ?_ | refine SW.seq ?_ | refine SW.region ?_ | refine SW.block ?_ | refine SW.cond_t rfl ?_ | refine SW.cond_f rfl ?_ | refine SW.exit ?_ | refine SW.ret ?_ | refine SW.skip ?_))
  refine W.call hDa ?_
  rintro _ Hz ⟨rfl, rfl⟩
  (repeat' (first | refine W.mv ?_ | refine W.zl ?_ | refine W.fa ?_ | refine W.nl ?_ | refine W.as ?_ | refine W.zb ?_ | refine W.za ?_ | refine W.zi ?_ | refine W.zc ?_ | refine W.zp ?_ | refine W.st ?_ | refine SL.nilB ?_ | refine SL.nil ?_ | refine W.al fun b_ => ?_ | refine W.bx fun b_ => ?_ | refine W.bxa fun b_ => ?_ | refine W.sw ?_ | refine W.sa ?_ | refine W.sk ?_ | refine W.bs0 fun b_ => ?_ | refine W.ma fun b_ => ?_ | refine W.bsl fun b_ => ?_ | refine W.zu ?_ | refine W.zf ?_ | refine W.zd ?_ | refine W.zs ?_ | refine W.zv ?_ | refine W.zx ?_ | refine W.ex ?_ | refine W.mf ?_ | refine W.mk ?_ | refine SW.seq ?_ | refine SW.region ?_ | refine SW.block ?_ | refine SW.cond_t rfl ?_ | refine SW.cond_f rfl ?_ | refine SW.exit ?_ | refine SW.ret ?_ | refine SW.skip ?_))
  refine W.call (QPush_p aheadB_ord ahead_p hQ0 [tcP (D, 0)] (.slice (some ⟨b_, 0, none⟩) 1 1) (by simp) (by simp)) ?_ rfl (fun w2 hs => ?_)
  rotate_left
  · exact Rd.own (Hc := Hq0) (Sl.own 66 2 b_ (len := 1) (xs := [tcP (D, 0)].flatMap tc) rfl) hs inferInstance
  rintro _ Hq1 ⟨rfl, hQ1⟩
  have hQ1' : QueueP qp fAh aheadB [⟨(D : Int), ((0 : Nat) : Int), ((0 : Nat) : Int)⟩] 1 Hq1 := hQ1
  (repeat' (first | refine W.mv ?_ | refine W.zl ?_ | refine W.fa ?_ | refine W.nl ?_ | refine W.as ?_ | refine W.zb ?_ | refine W.za ?_ | refine W.zi ?_ | refine W.zc ?_ | refine W.zp ?_ | refine W.st ?_ | refine SL.nilB ?_ | refine SL.nil ?_ | refine W.al fun b_ => ?_ | refine W.bx fun b_ => ?_ | refine W.bxa fun b_ => ?_ | refine W.sw ?_ | refine W.sa ?_ | refine W.sk ?_ | refine W.bs0 fun b_ => ?_ | refine W.ma fun b_ => ?_ | refine W.bsl fun b_ => ?_ | refine W.zu ?_ | refine W.zf ?_ | refine W.zd ?_ | refine W.zs ?_ | refine W.zv ?_ | refine W.zx ?_ | refine W.ex ?_ | refine W.mf ?_ | refine W.mk ?_ | refine SW.seq ?_ | refine SW.region ?_ | refine SW.block ?_ | refine SW.cond_t rfl ?_ | refine SW.cond_f rfl ?_ | refine SW.exit ?_ | refine SW.ret ?_ | refine SW.skip ?_))
  refine W.call (pop_p hQ1' (fun x hx => by rw [List.mem_singleton] at hx; subst hx; exact ⟨by dsimp only; omega, by dsimp only; omega⟩) (by simp)) ?_
  rintro _ Hq2 ⟨p0, ok0, ws0, rfl, hQ2, hNN0, hp0⟩
  obtain ⟨rfl, hperm0, hmin0⟩ : ok0 = true ∧ [((D, 0) : Pl)].Perm (p0 :: ws0.map plx) ∧ ∀ y ∈ ws0.map plx, ¬ pah y p0 := by
    rcases hp0 with ⟨-, h, -⟩ | ⟨g1, g2, g3⟩
    · simp at h
    · refine ⟨g1, ?_, g3⟩
      have e : plx ⟨(D : Int), ((0 : Nat) : Int), ((0 : Nat) : Int)⟩ = (D, 0) := by unfold plx; dsimp only; rw [Int.toNat_natCast]; rfl
      rw [List.map_cons, List.map_nil, e] at g2
      exact g2
  have hDI0 := (DI.start U D).perm hperm0
  have hb0 : ∀ q ∈ p0 :: ws0.map plx, q.1 ≤ D ∧ q.2 < 2 ^ (D - q.1) := fun q hq => by
    have := hperm0.mem_iff.2 hq
    rw [List.mem_singleton] at this
    subst this
    exact ⟨Nat.le_refl _, by dsimp only; rw [Nat.sub_self]; simp⟩
  have hwt0 : wtL (p0 :: ws0.map plx) ≤ 2048 := by rw [← wtL_perm hperm0]; exact hw0
  (repeat' (first | refine W.mv ?_ | refine W.zl ?_ | refine W.fa ?_ | refine W.nl ?_ | refine W.as ?_ | refine W.zb ?_ | refine W.za ?_ | refine W.zi ?_ | refine W.zc ?_ | refine W.zp ?_ | refine W.st ?_ | refine SL.nilB ?_ | refine SL.nil ?_ | refine W.al fun b_ => ?_ | refine W.bx fun b_ => ?_ | refine W.bxa fun b_ => ?_ | refine W.sw ?_ | refine W.sa ?_ | refine W.sk ?_ | refine W.bs0 fun b_ => ?_ | refine W.ma fun b_ => ?_ | refine W.bsl fun b_ => ?_ | refine W.zu ?_ | refine W.zf ?_ | refine W.zd ?_ | refine W.zs ?_ | refine W.zv ?_ | refine W.zx ?_ | refine W.ex ?_ | refine W.mf ?_ | refine W.mk ?_ | refine SW.seq ?_ | refine SW.region ?_ | refine SW.cond_t rfl ?_ | refine SW.cond_f rfl ?_ | refine SW.exit ?_ | refine SW.ret ?_ | refine SW.skip ?_))
  refine SW.cutH [] ((b_, cl (plC p0) 66) :: Hq2) (fun y : ES × Nat => [(8, y.1.ov), (9, .int .i64 (y.2 : Int))]) (fun y => y.1.Ho) (fun y => Sl 3 1 y.1.ov (iv y.1.out) y.1.Ho ∧ y.1.out.length ≤ 2048 ∧ (hD → y.1.out = U ∧ y.2 = 1 + 2 * aboveV U D)) ?_ ?_
  rotate_left
  · rintro ⟨⟨j1, j2, j3, out, ov, Ho, j4⟩, n⟩ ⟨hov, hol, hres⟩
    dsimp only at hov hol hres ⊢
    have ho1 := hov.isOne
    (repeat' (first | refine W.mv ?_ | refine W.zl ?_ | refine W.fa ?_ | refine W.nl ?_ | refine W.as ?_ | refine W.zb ?_ | refine W.za ?_ | refine W.zi ?_ | refine W.zc ?_ | refine W.zp ?_ | refine W.st ?_ | refine SL.nilB ?_ | refine SL.nil ?_ | refine W.al fun b_ => ?_ | refine W.bx fun b_ => ?_ | refine W.bxa fun b_ => ?_ | refine W.sw ?_ | refine W.sa ?_ | refine W.sk ?_ | refine W.bs0 fun b_ => ?_ | refine W.ma fun b_ => ?_ | refine W.bsl fun b_ => ?_ | refine W.zu ?_ | refine W.zf ?_ | refine W.zd ?_ | refine W.zs ?_ | refine W.zv ?_ | refine W.zx ?_ | refine W.ex ?_ | refine W.mf ?_ | refine W.mk ?_ | refine SW.seq ?_ | refine SW.region ?_ | refine SW.block ?_ | refine SW.cond_t rfl ?_ | refine SW.cond_f rfl ?_ | refine SW.exit ?_ | refine SW.ret ?_ | refine SW.skip ?_))
    refine Fin.to Ho ?_
    exact F.f3 ⟨ov, Ho, out, n, rfl, rfl, hov, hol, hres⟩
  · (repeat' (first | refine W.mv ?_ | refine W.zl ?_ | refine W.fa ?_ | refine W.nl ?_ | refine W.as ?_ | refine W.zb ?_ | refine W.za ?_ | refine W.zi ?_ | refine W.zc ?_ | refine W.zp ?_ | refine W.st ?_ | refine SL.nilB ?_ | refine SL.nil ?_ | refine W.al fun b_ => ?_ | refine W.bx fun b_ => ?_ | refine W.bxa fun b_ => ?_ | refine W.sw ?_ | refine W.sa ?_ | refine W.sk ?_ | refine W.bs0 fun b_ => ?_ | refine W.ma fun b_ => ?_ | refine W.bsl fun b_ => ?_ | refine W.zu ?_ | refine W.zf ?_ | refine W.zd ?_ | refine W.zs ?_ | refine W.zv ?_ | refine W.zx ?_ | refine W.ex ?_ | refine W.mf ?_ | refine W.mk ?_ | refine SW.seq ?_ | refine SW.region ?_ | refine SW.block ?_ | refine SW.cond_t rfl ?_ | refine SW.cond_f rfl ?_ | refine SW.exit ?_ | refine SW.ret ?_ | refine SW.skip ?_))
    refine SW.loopF [0, 1, 7] (fun y : Nat × Pl × Bool × ES => [(8, y.2.2.2.ov), (9, .int .i64 (y.2.2.2.ds.length : Int)), (10, .pointer (some ⟨y.1, 0, none⟩)), (11, .bool y.2.2.1)]) (fun y => (y.1, cl (plC y.2.1) 66) :: (y.2.2.2.Ho ++ y.2.2.2.Hq)) (fun y => wtL (qall y.2.2.1 y.2.1 y.2.2.2.ws))
      (fun y => Sl 3 1 y.2.2.2.ov (iv y.2.2.2.out) y.2.2.2.Ho ∧ (QueueP qp fAh aheadB y.2.2.2.ws y.2.2.2.next y.2.2.2.Hq ∧ NN y.2.2.2.ws) ∧ (hD → DI U D (qall y.2.2.1 y.2.1 y.2.2.2.ws) y.2.2.2.ds y.2.2.2.out) ∧ (∀ q ∈ qall y.2.2.1 y.2.1 y.2.2.2.ws, q.1 ≤ D ∧ q.2 < 2 ^ (D - q.1)) ∧ (y.2.2.1 = true → ∀ z ∈ y.2.2.2.ws.map plx, ¬ pah z y.2.1) ∧ (y.2.2.2.out.length + wtL (qall y.2.2.1 y.2.1 y.2.2.2.ws) ≤ 2048 ∧ y.2.2.2.ds.length + wtL (qall y.2.2.1 y.2.1 y.2.2.2.ws) ≤ 2048 ∧ y.2.2.2.next + 2 * wtL (qall y.2.2.1 y.2.1 y.2.2.2.ws) ≤ 5000))
      (b_, p0, true, ⟨ws0, 1, [], [], .slice none 0 0, [], Hq2⟩) ⟨Sl.nil _ _, ⟨hQ2, hNN0⟩, fun _ => hDI0, hb0, fun _ => hmin0, by simp only [List.length_nil, Nat.zero_add]; exact hwt0, by simp only [List.length_nil, Nat.zero_add]; exact hwt0, by show 1 + 2 * wtL (p0 :: ws0.map plx) ≤ 5000; omega⟩ ?_
    rintro ⟨b10, p, ok, ⟨ws1, nx, ds, out, ov, Ho, Hq3⟩⟩ ⟨hov, ⟨hQ3, hNN3⟩, hDI, hbd, hmin, hn1, hn2, hn3⟩
    dsimp only at hov hQ3 hNN3 hDI hbd hmin hn1 hn2 hn3 ⊢
    have ho1 := hov.isOne
    cases ok with
    | false =>
      have hfin := fun h : hD => (hDI h).fin hUk hUs
      (repeat' (first | refine W.mv ?_ | refine W.zl ?_ | refine W.fa ?_ | refine W.nl ?_ | refine W.as ?_ | refine W.zb ?_ | refine W.za ?_ | refine W.zi ?_ | refine W.zc ?_ | refine W.zp ?_ | refine W.st ?_ | refine SL.nilB ?_ | refine SL.nil ?_ | refine W.al fun b_ => ?_ | refine W.bx fun b_ => ?_ | refine W.bxa fun b_ => ?_ | refine W.sw ?_ | refine W.sa ?_ | refine W.sk ?_ | refine W.bs0 fun b_ => ?_ | refine W.ma fun b_ => ?_ | refine W.bsl fun b_ => ?_ | refine W.zu ?_ | refine W.zf ?_ | refine W.zd ?_ | refine W.zs ?_ | refine W.zv ?_ | refine W.zx ?_ | refine W.ex ?_ | refine W.mf ?_ | refine W.mk ?_ | refine SW.seq ?_ | refine SW.region ?_ | refine SW.block ?_ | refine SW.cond_t rfl ?_ | refine SW.cond_f rfl ?_ | refine SW.exit ?_ | refine SW.ret ?_ | refine SW.skip ?_))
      refine CutF.mk (⟨[], 0, [], out, ov, Ho, []⟩, ds.length) ?_
      exact ⟨hov, by dsimp only; omega, hfin⟩
    | true =>
      have hq1 : qall true p ws1 = p :: ws1.map plx := rfl
      rw [hq1] at hDI hbd hn1 hn2 hn3
      have hmin' := hmin rfl
      obtain ⟨hpD, hpi⟩ := hbd p (List.mem_cons_self ..)
      have hwp := wt_pos p
      rw [wtL_cons] at hn1 hn2 hn3
      have hwl := wtL_len (ws1.map plx)
      rw [List.length_map] at hwl
      have hA := hNa p
      have hB := hNb p
      rw [hIa p.1 p.2 hpD hpi] at hA
      rw [hIb p.1 p.2 hpD hpi] at hB
      have hx32 := atV_len hl p.1 p.2
      have hy32 := atV_len hm p.1 p.2
      have hcx := cl32 hx32
      have hcy := cl32 hy32
      have hpow : 0 < p.1 → 2 ^ (D - (p.1 - 1)) = 2 * 2 ^ (D - p.1) := fun h => by rw [show D - (p.1 - 1) = D - p.1 + 1 by omega, Nat.pow_succ, Nat.mul_comm]
      have hXm : 2 ^ (D - p.1) ≤ 1024 := Nat.pow_le_pow_right (n := 2) (by omega) (show D - p.1 ≤ 10 by omega)
      have hp2 : p.2 ≤ 1024 := by omega
      have hcast : (((ds ++ [p]).length : Nat) : Int) = (ds.length : Int) + 1 := by simp
      have hdf := fun h : hD => hDif h p.1 hpD p.2 hpi
      (repeat' (first | refine W.mv ?_ | refine W.zl ?_ | refine W.fa ?_ | refine W.nl ?_ | refine W.as ?_ | refine W.zb ?_ | refine W.za ?_ | refine W.zi ?_ | refine W.zc ?_ | refine W.zp ?_ | refine W.st ?_ | refine SL.nilB ?_ | refine SL.nil ?_ | refine W.al fun b_ => ?_ | refine W.bx fun b_ => ?_ | refine W.bxa fun b_ => ?_ | refine W.sw ?_ | refine W.sa ?_ | refine W.sk ?_ | refine W.bs0 fun b_ => ?_ | refine W.ma fun b_ => ?_ | refine W.bsl fun b_ => ?_ | refine W.zu ?_ | refine W.zf ?_ | refine W.zd ?_ | refine W.zs ?_ | refine W.zv ?_ | refine W.zx ?_ | refine W.ex ?_ | refine W.mf ?_ | refine W.mk ?_ | refine SW.seq ?_ | refine SW.region ?_ | refine SW.cond_t rfl ?_ | refine SW.cond_f rfl ?_ | refine SW.exit ?_ | refine SW.ret ?_ | refine SW.skip ?_))
      refine SW.cutH [0, 1, 7, 10] (Ho ++ Hq3) (fun y : ES => [(8, y.ov), (9, .int .i64 (((ds ++ [p]).length : Nat) : Int))]) (fun y => y.Ho ++ y.Hq)
        (fun y => Sl 3 1 y.ov (iv y.out) y.Ho ∧ (QueueP qp fAh aheadB y.ws y.next y.Hq ∧ NN y.ws) ∧ (hD → DI U D (y.ws.map plx) (ds ++ [p]) y.out) ∧ (∀ q ∈ y.ws.map plx, q.1 ≤ D ∧ q.2 < 2 ^ (D - q.1)) ∧ wtL (y.ws.map plx) + 1 ≤ wt p + wtL (ws1.map plx) ∧ y.out.length + wtL (y.ws.map plx) ≤ 2048 ∧ y.next + 2 * wtL (y.ws.map plx) ≤ 5000) ?_ ?_
      rotate_left
      · rintro ⟨ws4, nx4, j5, out4, ov4, Ho4, Hq4⟩ ⟨hov4, ⟨hQ4, hNN4⟩, hDI4, hbd4, hw4, hm4, hn4⟩
        dsimp only at hov4 hQ4 hNN4 hDI4 hbd4 hw4 hm4 hn4 ⊢
        have ho4 := hov4.isOne
        have hwl4 := wtL_len (ws4.map plx)
        rw [List.length_map] at hwl4
        (repeat' (first | refine W.mv ?_ | refine W.zl ?_ | refine W.fa ?_ | refine W.nl ?_ | refine W.as ?_ | refine W.zb ?_ | refine W.za ?_ | refine W.zi ?_ | refine W.zc ?_ | refine W.zp ?_ | refine W.st ?_ | refine SL.nilB ?_ | refine SL.nil ?_ | refine W.al fun b_ => ?_ | refine W.bx fun b_ => ?_ | refine W.bxa fun b_ => ?_ | refine W.sw ?_ | refine W.sa ?_ | refine W.sk ?_ | refine W.bs0 fun b_ => ?_ | refine W.ma fun b_ => ?_ | refine W.bsl fun b_ => ?_ | refine W.zu ?_ | refine W.zf ?_ | refine W.zd ?_ | refine W.zs ?_ | refine W.zv ?_ | refine W.zx ?_ | refine W.ex ?_ | refine W.mf ?_ | refine W.mk ?_ | refine SW.seq ?_ | refine SW.region ?_ | refine SW.block ?_ | refine SW.cond_t rfl ?_ | refine SW.cond_f rfl ?_ | refine SW.exit ?_ | refine SW.ret ?_ | refine SW.skip ?_))
        refine W.call (pop_p hQ4 hNN4 (by omega)) ?_
        rintro _ Hq5 ⟨p5, ok5, ws5, rfl, hQ5, hNN5, hp5⟩
        obtain ⟨hperm5, hmin5⟩ := pop_q hp5
        have hwe := wtL_perm hperm5
        (repeat' (first | refine W.mv ?_ | refine W.zl ?_ | refine W.fa ?_ | refine W.nl ?_ | refine W.as ?_ | refine W.zb ?_ | refine W.za ?_ | refine W.zi ?_ | refine W.zc ?_ | refine W.zp ?_ | refine W.st ?_ | refine SL.nilB ?_ | refine SL.nil ?_ | refine W.al fun b_ => ?_ | refine W.bx fun b_ => ?_ | refine W.bxa fun b_ => ?_ | refine W.sw ?_ | refine W.sa ?_ | refine W.sk ?_ | refine W.bs0 fun b_ => ?_ | refine W.ma fun b_ => ?_ | refine W.bsl fun b_ => ?_ | refine W.zu ?_ | refine W.zf ?_ | refine W.zd ?_ | refine W.zs ?_ | refine W.zv ?_ | refine W.zx ?_ | refine W.ex ?_ | refine W.mf ?_ | refine W.mk ?_ | refine SW.seq ?_ | refine SW.region ?_ | refine SW.block ?_ | refine SW.cond_t rfl ?_ | refine SW.cond_f rfl ?_ | refine SW.exit ?_ | refine SW.ret ?_ | refine SW.skip ?_))
        refine HandF.mk (b_, p5, ok5, ⟨ws5, nx4, ds ++ [p], out4, ov4, Ho4, Hq5⟩) ?_ (hM := ?_)
        · refine ⟨hov4, ⟨hQ5, hNN5⟩, fun h => (hDI4 h).perm hperm5, fun q hq => hbd4 q (hperm5.mem_iff.2 hq), hmin5, by dsimp only; omega, ?_, by dsimp only; omega⟩
          dsimp only
          rw [List.length_append, List.length_singleton]
          omega
        · show wtL (qall ok5 p5 ws5) < wtL (p :: ws1.map plx)
          rw [wtL_cons]
          omega
      (repeat' (first | refine W.mv ?_ | refine W.zl ?_ | refine W.fa ?_ | refine W.nl ?_ | refine W.as ?_ | refine W.zb ?_ | refine W.za ?_ | refine W.zi ?_ | refine W.zc ?_ | refine W.zp ?_ | refine W.st ?_ | refine SL.nilB ?_ | refine SL.nil ?_ | refine W.al fun b_ => ?_ | refine W.bx fun b_ => ?_ | refine W.bxa fun b_ => ?_ | refine W.sw ?_ | refine W.sa ?_ | refine W.sk ?_ | refine W.bs0 fun b_ => ?_ | refine W.ma fun b_ => ?_ | refine W.bsl fun b_ => ?_ | refine W.zu ?_ | refine W.zf ?_ | refine W.zd ?_ | refine W.zs ?_ | refine W.zv ?_ | refine W.zx ?_ | refine W.ex ?_ | refine W.mf ?_ | refine W.mk ?_ | refine SW.seq ?_ | refine SW.region ?_ | refine SW.block ?_ | refine SW.cond_t rfl ?_ | refine SW.cond_f rfl ?_ | refine SW.exit ?_ | refine SW.ret ?_ | refine SW.skip ?_))
      (refine SW.regionS [11] ?_ (by kernel_rfl); refine SS.tw 0 rfl (p_move rfl rfl) ?_; refine SS.tw 1 rfl (p_fieldAddr rfl rfl OfN.ok) ?_; (first | refine SS.ls 2 [5, 11] rfl ?_ | refine SS.tw 2 rfl (p_load_sR rfl rfl (by assumption) (by assumption) (by assumption)) ?_); refine SS.tw 3 rfl (p_fieldAddr rfl rfl OfN.ok) ?_; (first | refine SS.ls 4 [5, 11] rfl ?_ | refine SS.tw 4 rfl (p_load_sR rfl rfl (by assumption) (by assumption) (by assumption)) ?_); refine SS.tw 6 rfl (p_move rfl rfl) ?_; refine SS.tw 7 rfl (p_fieldAddr rfl rfl OfN.ok) ?_; (first | refine SS.ls 8 [11] rfl ?_ | refine SS.tw 8 rfl (p_load_sR rfl rfl (by assumption) (by assumption) (by assumption)) ?_); refine SS.tw 9 rfl (p_fieldAddr rfl rfl OfN.ok) ?_; (first | refine SS.ls 10 [11] rfl ?_ | refine SS.tw 10 rfl (p_load_sR rfl rfl (by assumption) (by assumption) (by assumption)) ?_); refine SS.effK 5 ?_ rfl (by kernel_rfl))
      refine W.call hA ?_
      rintro _ Hz2 ⟨rfl, rfl⟩
      (refine SL.nilB ?_; refine SS.effB 11 ?_ rfl (by kernel_rfl))
      refine W.call hB ?_
      rintro _ Hy2 ⟨rfl, rfl⟩
      (refine SL.nilB ?_; refine SS.tw 12 rfl (p_eqA rfl rfl rfl hx32 hy32) ?_; refine SS.tw 13 rfl (p_assign rfl rfl) ?_; refine SS.done ?_ (by kernel_rfl))
      by_cases heq : atV l p.1 p.2 = atV m p.1 p.2
      · rw [decide_eq_true heq]
        have hstep := fun h : hD => (hDI h).step (ks := []) (out' := out) hmin' (.inl ⟨rfl, fun hh => (hdf h).2 hh.2 heq⟩) (.inl ⟨rfl, fun hh => (hdf h).2 (by rw [hh.1]; exact hh.2) heq⟩)
        simp only [List.append_nil] at hstep
        (repeat' (first | refine W.mv ?_ | refine W.zl ?_ | refine W.fa ?_ | refine W.nl ?_ | refine W.as ?_ | refine W.zb ?_ | refine W.za ?_ | refine W.zi ?_ | refine W.zc ?_ | refine W.zp ?_ | refine W.st ?_ | refine SL.nilB ?_ | refine SL.nil ?_ | refine W.al fun b_ => ?_ | refine W.bx fun b_ => ?_ | refine W.bxa fun b_ => ?_ | refine W.sw ?_ | refine W.sa ?_ | refine W.sk ?_ | refine W.bs0 fun b_ => ?_ | refine W.ma fun b_ => ?_ | refine W.bsl fun b_ => ?_ | refine W.zu ?_ | refine W.zf ?_ | refine W.zd ?_ | refine W.zs ?_ | refine W.zv ?_ | refine W.zx ?_ | refine W.ex ?_ | refine W.mf ?_ | refine W.mk ?_ | refine SW.seq ?_ | refine SW.region ?_ | refine SW.block ?_ | refine SW.cond_t rfl ?_ | refine SW.cond_f rfl ?_ | refine SW.exit ?_ | refine SW.ret ?_ | refine SW.skip ?_))
        rw [← hcast]
        refine CutF.mk ⟨ws1, nx, [], out, ov, Ho, Hq3⟩ ?_
        exact ⟨hov, ⟨hQ3, hNN3⟩, hstep, fun q hq => hbd q (List.mem_cons_of_mem _ hq), by dsimp only; omega, by dsimp only; omega, by dsimp only; omega⟩
      · rw [decide_eq_false heq]
        by_cases hp0' : p.1 = 0
        · have hstep := fun h : hD => (hDI h).step (ks := []) (out' := out ++ [p.2]) hmin' (.inl ⟨rfl, fun hh => by omega⟩) (.inr ⟨rfl, hp0', by have := (hdf h).1 heq; rwa [hp0'] at this⟩)
          simp only [List.append_nil] at hstep
          have hbq : bfill (fun i => some (i * 1, 1)) (zs [.int .i64 0] 1) [(0, .int .i64 (p.2 : Int))] = some [.int .i64 (p.2 : Int)] := rfl
          (repeat' (first | refine W.mv ?_ | refine W.zl ?_ | refine W.fa ?_ | refine W.nl ?_ | refine W.as ?_ | refine W.zb ?_ | refine W.za ?_ | refine W.zi ?_ | refine W.zc ?_ | refine W.zp ?_ | refine W.st ?_ | refine SL.nilB ?_ | refine SL.nil ?_ | refine W.al fun b_ => ?_ | refine W.bx fun b_ => ?_ | refine W.bxa fun b_ => ?_ | refine W.sw ?_ | refine W.sa ?_ | refine W.sk ?_ | refine W.bs0 fun b_ => ?_ | refine W.ma fun b_ => ?_ | refine W.bsl fun b_ => ?_ | refine W.zu ?_ | refine W.zf ?_ | refine W.zd ?_ | refine W.zs ?_ | refine W.zv ?_ | refine W.zx ?_ | refine W.ex ?_ | refine W.mf ?_ | refine W.mk ?_ | refine SW.seq ?_ | refine SW.region ?_ | refine SW.block ?_ | refine SW.cond_t rfl ?_ | refine SW.cond_f rfl ?_ | refine SW.exit ?_ | refine SW.ret ?_ | refine SW.skip ?_))
          refine W.ap (ys := [.int .i64 (p.2 : Int)]) (mm := 1) hov (fun w2 hs => (Sl.own 3 1 b_ (xs := [.int .i64 (p.2 : Int)]) rfl).srcAt hs inferInstance) (fun ov2 Ho2 hov2 => ?_) (hys := rfl) (hbytes := by rw [iv_len]; simp; omega)
          have ho2 := hov2.isOne
          rw [show iv out ++ [.int .i64 (p.2 : Int)] = iv (out ++ [p.2]) by simp] at hov2
          (repeat' (first | refine W.mv ?_ | refine W.zl ?_ | refine W.fa ?_ | refine W.nl ?_ | refine W.as ?_ | refine W.zb ?_ | refine W.za ?_ | refine W.zi ?_ | refine W.zc ?_ | refine W.zp ?_ | refine W.st ?_ | refine SL.nilB ?_ | refine SL.nil ?_ | refine W.al fun b_ => ?_ | refine W.bx fun b_ => ?_ | refine W.bxa fun b_ => ?_ | refine W.sw ?_ | refine W.sa ?_ | refine W.sk ?_ | refine W.bs0 fun b_ => ?_ | refine W.ma fun b_ => ?_ | refine W.bsl fun b_ => ?_ | refine W.zu ?_ | refine W.zf ?_ | refine W.zd ?_ | refine W.zs ?_ | refine W.zv ?_ | refine W.zx ?_ | refine W.ex ?_ | refine W.mf ?_ | refine W.mk ?_ | refine SW.seq ?_ | refine SW.region ?_ | refine SW.block ?_ | refine SW.cond_t rfl ?_ | refine SW.cond_f rfl ?_ | refine SW.exit ?_ | refine SW.ret ?_ | refine SW.skip ?_))
          rw [← hcast]
          refine CutF.mk ⟨ws1, nx, [], out ++ [p.2], ov2, Ho2, Hq3⟩ ?_
          refine ⟨hov2, ⟨hQ3, hNN3⟩, hstep, fun q hq => hbd q (List.mem_cons_of_mem _ hq), by dsimp only; omega, ?_, by dsimp only; omega⟩
          dsimp only
          rw [List.length_append, List.length_singleton]
          omega
        · have hp1 : 1 ≤ p.1 := by omega
          have hpw := hpow (by omega)
          have hwk := wt_kids hp1
          have hstep := fun h : hD => (hDI h).step (ks := [(p.1 - 1, 2 * p.2), (p.1 - 1, 2 * p.2 + 1)]) (out' := out) hmin' (.inr ⟨rfl, by omega, (hdf h).1 heq⟩) (.inl ⟨rfl, fun hh => hp0' hh.1⟩)
          (repeat' (first | refine W.mv ?_ | refine W.zl ?_ | refine W.fa ?_ | refine W.nl ?_ | refine W.as ?_ | refine W.zb ?_ | refine W.za ?_ | refine W.zi ?_ | refine W.zc ?_ | refine W.zp ?_ | refine W.st ?_ | refine SL.nilB ?_ | refine SL.nil ?_ | refine W.al fun b_ => ?_ | refine W.bx fun b_ => ?_ | refine W.bxa fun b_ => ?_ | refine W.sw ?_ | refine W.sa ?_ | refine W.sk ?_ | refine W.bs0 fun b_ => ?_ | refine W.ma fun b_ => ?_ | refine W.bsl fun b_ => ?_ | refine W.zu ?_ | refine W.zf ?_ | refine W.zd ?_ | refine W.zs ?_ | refine W.zv ?_ | refine W.zx ?_ | refine W.ex ?_ | refine W.mf ?_ | refine W.mk ?_ | refine SW.seq ?_ | refine SW.region ?_ | refine SW.block ?_ | refine SW.cond_t rfl ?_ | refine SW.cond_f rfl ?_ | refine SW.exit ?_ | refine SW.ret ?_ | refine SW.skip ?_))
          refine W.call (below_p p.1 p.2 hp1 (by omega) (by omega)) ?_
          rintro _ _ ⟨kb, rfl, rfl⟩
          (repeat' (first | refine W.mv ?_ | refine W.zl ?_ | refine W.fa ?_ | refine W.nl ?_ | refine W.as ?_ | refine W.zb ?_ | refine W.za ?_ | refine W.zi ?_ | refine W.zc ?_ | refine W.zp ?_ | refine W.st ?_ | refine SL.nilB ?_ | refine SL.nil ?_ | refine W.al fun b_ => ?_ | refine W.bx fun b_ => ?_ | refine W.bxa fun b_ => ?_ | refine W.sw ?_ | refine W.sa ?_ | refine W.sk ?_ | refine W.bs0 fun b_ => ?_ | refine W.ma fun b_ => ?_ | refine W.bsl fun b_ => ?_ | refine W.zu ?_ | refine W.zf ?_ | refine W.zd ?_ | refine W.zs ?_ | refine W.zv ?_ | refine W.zx ?_ | refine W.ex ?_ | refine W.mf ?_ | refine W.mk ?_ | refine SW.seq ?_ | refine SW.region ?_ | refine SW.block ?_ | refine SW.cond_t rfl ?_ | refine SW.cond_f rfl ?_ | refine SW.exit ?_ | refine SW.ret ?_ | refine SW.skip ?_))
          refine W.call (QPush_p aheadB_ord ahead_p hQ3 [tcP (p.1 - 1, 2 * p.2), tcP (p.1 - 1, 2 * p.2 + 1)] (.slice (some ⟨kb, 0, none⟩) 2 2) (by simp only [List.length_cons, List.length_nil]; omega) (by simp only [List.length_cons, List.length_nil]; omega)) ?_ rfl (fun w2 hs => ?_)
          rotate_left
          · exact Rd.own (Hc := Hq3) (Sl.own 66 2 kb (len := 2) (xs := [tcP (p.1 - 1, 2 * p.2), tcP (p.1 - 1, 2 * p.2 + 1)].flatMap tc) rfl) hs inferInstance
          rintro _ Hq4 ⟨rfl, hQ4⟩
          have hQ5 : QueueP qp fAh aheadB (ws1 ++ [⟨((p.1 - 1 : Nat) : Int), ((2 * p.2 : Nat) : Int), ((nx : Nat) : Int)⟩, ⟨((p.1 - 1 : Nat) : Int), ((2 * p.2 + 1 : Nat) : Int), ((nx + 1 : Nat) : Int)⟩]) (nx + 2) Hq4 := hQ4
          have hmap : (ws1 ++ [(⟨((p.1 - 1 : Nat) : Int), ((2 * p.2 : Nat) : Int), ((nx : Nat) : Int)⟩ : Sx), ⟨((p.1 - 1 : Nat) : Int), ((2 * p.2 + 1 : Nat) : Int), ((nx + 1 : Nat) : Int)⟩]).map plx = ws1.map plx ++ [(p.1 - 1, 2 * p.2), (p.1 - 1, 2 * p.2 + 1)] := by
            rw [List.map_append]
            simp only [List.map_cons, List.map_nil, plx, Int.toNat_natCast]
          have hbn : ∀ q ∈ ws1.map plx ++ [(p.1 - 1, 2 * p.2), (p.1 - 1, 2 * p.2 + 1)], q.1 ≤ D ∧ q.2 < 2 ^ (D - q.1) := fun q hq => by
            rcases List.mem_append.1 hq with h | h
            · exact hbd q (List.mem_cons_of_mem _ h)
            · simp only [List.mem_cons, List.not_mem_nil, or_false] at h
              rcases h with rfl | rfl
              · exact ⟨by dsimp only; omega, by dsimp only; omega⟩
              · exact ⟨by dsimp only; omega, by dsimp only; omega⟩
          (repeat' (first | refine W.mv ?_ | refine W.zl ?_ | refine W.fa ?_ | refine W.nl ?_ | refine W.as ?_ | refine W.zb ?_ | refine W.za ?_ | refine W.zi ?_ | refine W.zc ?_ | refine W.zp ?_ | refine W.st ?_ | refine SL.nilB ?_ | refine SL.nil ?_ | refine W.al fun b_ => ?_ | refine W.bx fun b_ => ?_ | refine W.bxa fun b_ => ?_ | refine W.sw ?_ | refine W.sa ?_ | refine W.sk ?_ | refine W.bs0 fun b_ => ?_ | refine W.ma fun b_ => ?_ | refine W.bsl fun b_ => ?_ | refine W.zu ?_ | refine W.zf ?_ | refine W.zd ?_ | refine W.zs ?_ | refine W.zv ?_ | refine W.zx ?_ | refine W.ex ?_ | refine W.mf ?_ | refine W.mk ?_ | refine SW.seq ?_ | refine SW.region ?_ | refine SW.block ?_ | refine SW.cond_t rfl ?_ | refine SW.cond_f rfl ?_ | refine SW.exit ?_ | refine SW.ret ?_ | refine SW.skip ?_))
          rw [← hcast]
          refine CutF.mk ⟨ws1 ++ [⟨((p.1 - 1 : Nat) : Int), ((2 * p.2 : Nat) : Int), ((nx : Nat) : Int)⟩, ⟨((p.1 - 1 : Nat) : Int), ((2 * p.2 + 1 : Nat) : Int), ((nx + 1 : Nat) : Int)⟩], nx + 2, [], out, ov, Ho, Hq4⟩ ?_
          refine ⟨hov, ⟨hQ5, fun z hz => ?_⟩, ?_, ?_, ?_, ?_, ?_⟩
          · rcases List.mem_append.1 hz with h | h
            · exact hNN3 z h
            · simp only [List.mem_cons, List.not_mem_nil, or_false] at h
              rcases h with rfl | rfl
              · exact ⟨by dsimp only; omega, by dsimp only; omega⟩
              · exact ⟨by dsimp only; omega, by dsimp only; omega⟩
          · dsimp only; rw [hmap]; exact hstep
          · dsimp only; rw [hmap]; exact hbn
          · dsimp only; rw [hmap, wtL_app]; omega
          · dsimp only; rw [hmap, wtL_app]; omega
          · dsimp only; rw [hmap, wtL_app]; omega
end Go.Proofs.YtieamijnajbcnaaGreat
