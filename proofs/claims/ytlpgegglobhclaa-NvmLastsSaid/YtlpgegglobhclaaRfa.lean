/- The document's own device: Flush, Fence. -/
import Derived.Test.YtlpgegglobhclaaRf9
set_option linter.unusedVariables false
set_option linter.unusedSimpArgs false
namespace Go.Proofs.Ytlpgegglobhclaa
open Go
attribute [local irreducible] SW SL SQ SH SA SS Pu Fin CutF HandF

theorem mapR_map {α : Type} {h : Wd → Wd} (f : Wd → α) (hf : ∀ w, f (h w) = f w) (x y : Nat) (ws : List Wd) : (mapR h x y ws).map f = ws.map f := by
  apply List.ext_getElem?
  intro i
  simp only [mapR, List.getElem?_map, List.getElem?_mapIdx]
  cases ws[i]? with
  | none => rfl
  | some w =>
    simp only [Option.map_some, Option.some.injEq]
    split
    · exact hf w
    · rfl
theorem mapR_fm {α : Type} {h : Wd → Wd} (f : Wd → List α) (hf : ∀ w, f (h w) = f w) (x y : Nat) (ws : List Wd) : (mapR h x y ws).flatMap f = ws.flatMap f := by
  rw [List.flatMap_def, List.flatMap_def, mapR_map f hf]
theorem flush_step {ws : List Wd} {X y w : Nat} {u : Wd} (h1 : X ≤ w) (h2 : w ≤ y) (hu : ws[w]? = some u) : (rm (mapR Wd.flushed X y ws)).set w (.bool u.pend) = rm (mapR Wd.flushed X (max y (w + 1)) ws) := by
  have hw : w < ws.length := (List.getElem?_eq_some_iff.1 hu).1
  apply List.ext_getElem?
  intro k
  simp only [rm, mapR, List.getElem?_set, List.length_map, List.length_mapIdx, List.getElem?_map, List.getElem?_mapIdx]
  by_cases hk : w = k
  · subst hk
    rw [if_pos rfl, if_pos hw, hu]
    simp only [Option.map_some, Option.some.injEq]
    rw [if_pos (by omega)]; rfl
  · rw [if_neg hk]
    cases ws[k]? with
    | none => rfl
    | some x =>
      simp only [Option.map_some, Option.some.injEq]
      have : (X ≤ k ∧ k < y) ↔ (X ≤ k ∧ k < max y (w + 1)) := by omega
      simp only [this]

def upto (i t : Nat) : Nat := if t = i then i / 64 * 8 else ((t - 1) / 64 + 1) * 8
theorem rflush_p {p : Nat} {σ : Dv} {H : Hp} (hD : DevR p σ H) (h8 : σ.ws.length % 8 = 0) (x n : Int) : Tri Try.prog 51 [.pointer (some ⟨p, 0, none⟩), .int .i64 x, .int .i64 n] H (fun _ => True)
    (fun v' H' => v' = .int .i64 (σ.actR x n) ∧ DevR p (σ.flush x n) H') := by
  have hr := rready_p hD x n
  refine Tri.mk Try.func51 rfl Try.ntmps51 rfl fun w hw => ?_
  (repeat' (first | refine W.mv ?_ | refine W.ls ?_ | refine W.fa ?_ | refine W.nl ?_ | refine W.as ?_ | refine W.ct ?_ | refine W.cf ?_ | refine W.ad ?_ | refine W.sb ?_ | refine W.ml ?_ | refine W.st ?_ | refine SL.nilB ?_ | refine SL.nil ?_ | refine W.ln ?_ | refine W.ix ?_ | refine W.lw ?_ | refine W.la ?_ | refine W.al fun b_ => ?_ | refine W.bx fun b_ => ?_ | refine W.bxa fun b_ => ?_ | refine W.sw ?_ | refine W.sa ?_ | refine W.pkt ?_ | refine W.pkf ?_ | refine W.ua ?_ | refine W.en ?_ | refine W.nn ?_ | refine W.es ?_ | refine W.ns ?_ | refine W.nt ?_ | refine W.fs ?_ | refine W.fg ?_ | refine W.bd ?_ | refine W.bda ?_ | refine W.mf ?_ | refine W.mx ?_ | refine W.mn ?_ | refine W.qu ?_ | refine W.rm ?_ | refine W.lr ?_ | refine W.lt ?_ | refine W.cp ?_ | refine W.ixa ?_ | refine W.sk ?_ | refine W.lsR (by assumption) ?_ | refine W.laR (by assumption) ?_ | refine W.eb ?_ | refine W.nb ?_ | refine W.ci ?_ | refine W.cv ?_ | refine W.s01 ?_ | refine W.s10 ?_ | refine W.s11 ?_ | refine W.s10e ?_ | refine W.sar ?_ | refine W.bs0 fun b_ => ?_ | refine W.ma fun b_ => ?_ | refine W.ex ?_ | refine W.bsl fun b_ => ?_ | refine W.mk ?_ | refine W.ett ?_ | refine W.est ?_ | refine W.nst ?_ | refine SW.seq ?_ | refine SW.region ?_ | refine SW.block ?_ | refine SW.cond_t rfl ?_ | refine SW.cond_f rfl ?_ | refine SW.exit ?_ | refine SW.ret ?_ | refine SW.skip ?_))
  refine W.call hr ?_
  rintro _ _ ⟨rfl, rfl⟩
  by_cases h0 : σ.rdy x n = 0
  · obtain ⟨hdn, hx0, hn0, hn, hxn⟩ := rdy_zero h0
    have ha := ract_p hD hdn 2 x n
    rw [h0]
    (repeat' (first | refine W.mv ?_ | refine W.ls ?_ | refine W.fa ?_ | refine W.nl ?_ | refine W.as ?_ | refine W.ct ?_ | refine W.cf ?_ | refine W.ad ?_ | refine W.sb ?_ | refine W.ml ?_ | refine W.st ?_ | refine SL.nilB ?_ | refine SL.nil ?_ | refine W.ln ?_ | refine W.ix ?_ | refine W.lw ?_ | refine W.la ?_ | refine W.al fun b_ => ?_ | refine W.bx fun b_ => ?_ | refine W.bxa fun b_ => ?_ | refine W.sw ?_ | refine W.sa ?_ | refine W.pkt ?_ | refine W.pkf ?_ | refine W.ua ?_ | refine W.en ?_ | refine W.nn ?_ | refine W.es ?_ | refine W.ns ?_ | refine W.nt ?_ | refine W.fs ?_ | refine W.fg ?_ | refine W.bd ?_ | refine W.bda ?_ | refine W.mf ?_ | refine W.mx ?_ | refine W.mn ?_ | refine W.qu ?_ | refine W.rm ?_ | refine W.lr ?_ | refine W.lt ?_ | refine W.cp ?_ | refine W.ixa ?_ | refine W.sk ?_ | refine W.lsR (by assumption) ?_ | refine W.laR (by assumption) ?_ | refine W.eb ?_ | refine W.nb ?_ | refine W.ci ?_ | refine W.cv ?_ | refine W.s01 ?_ | refine W.s10 ?_ | refine W.s11 ?_ | refine W.s10e ?_ | refine W.sar ?_ | refine W.bs0 fun b_ => ?_ | refine W.ma fun b_ => ?_ | refine W.ex ?_ | refine W.bsl fun b_ => ?_ | refine W.mk ?_ | refine W.ett ?_ | refine W.est ?_ | refine W.nst ?_ | refine SW.seq ?_ | refine SW.region ?_ | refine SW.block ?_ | refine SW.cond_t rfl ?_ | refine SW.cond_f rfl ?_ | refine SW.exit ?_ | refine SW.ret ?_ | refine SW.skip ?_))
    refine W.call ha ?_
    rintro _ H1 ⟨rfl, hD1⟩
    by_cases h1 : σ.actE = 0
    · rw [h1]
      (repeat' (first | refine W.mv ?_ | refine W.ls ?_ | refine W.fa ?_ | refine W.nl ?_ | refine W.as ?_ | refine W.ct ?_ | refine W.cf ?_ | refine W.ad ?_ | refine W.sb ?_ | refine W.ml ?_ | refine W.st ?_ | refine SL.nilB ?_ | refine SL.nil ?_ | refine W.ln ?_ | refine W.ix ?_ | refine W.lw ?_ | refine W.la ?_ | refine W.al fun b_ => ?_ | refine W.bx fun b_ => ?_ | refine W.bxa fun b_ => ?_ | refine W.sw ?_ | refine W.sa ?_ | refine W.pkt ?_ | refine W.pkf ?_ | refine W.ua ?_ | refine W.en ?_ | refine W.nn ?_ | refine W.es ?_ | refine W.ns ?_ | refine W.nt ?_ | refine W.fs ?_ | refine W.fg ?_ | refine W.bd ?_ | refine W.bda ?_ | refine W.mf ?_ | refine W.mx ?_ | refine W.mn ?_ | refine W.qu ?_ | refine W.rm ?_ | refine W.lr ?_ | refine W.lt ?_ | refine W.cp ?_ | refine W.ixa ?_ | refine W.sk ?_ | refine W.lsR (by assumption) ?_ | refine W.laR (by assumption) ?_ | refine W.eb ?_ | refine W.nb ?_ | refine W.ci ?_ | refine W.cv ?_ | refine W.s01 ?_ | refine W.s10 ?_ | refine W.s11 ?_ | refine W.s10e ?_ | refine W.sar ?_ | refine W.bs0 fun b_ => ?_ | refine W.ma fun b_ => ?_ | refine W.ex ?_ | refine W.bsl fun b_ => ?_ | refine W.mk ?_ | refine W.ett ?_ | refine W.est ?_ | refine W.nst ?_ | refine SW.seq ?_ | refine SW.region ?_ | refine SW.block ?_ | refine SW.cond_t rfl ?_ | refine SW.cond_f rfl ?_ | refine SW.exit ?_ | refine SW.ret ?_ | refine SW.skip ?_))
      have hwl : (σ.act (2, x, n)).ws.length = σ.ws.length := act_wl _ _
      have hres : σ.flush x n = (σ.act (2, x, n)).setWs (flushW (σ.act (2, x, n)).ws x.toNat n.toNat) := by unfold Dv.flush; rw [if_pos h0, if_pos h1]
      have hresE : σ.actR x n = 0 := by unfold Dv.actR; rw [if_pos h0, h1]
      rw [hres, hresE]
      have hlen : σ.len = 8 * σ.ws.length := rfl
      generalize σ.act (2, x, n) = τ at hD1 hwl ⊢
      obtain ⟨i, rfl⟩ : ∃ i : Nat, x = i := ⟨x.toNat, by omega⟩
      obtain ⟨m, rfl⟩ : ∃ m : Nat, n = m := ⟨n.toNat, by omega⟩
      rw [Int.toNat_natCast, Int.toNat_natCast]
      have hN := hD1.1.n
      have hlenτ : τ.len = 8 * τ.ws.length := rfl
      obtain ⟨hO, bl, bn, bp, bm, vp, va, Hq, Ha, h2, h3, rfl⟩ := hD1
      refine SW.loopG [0, 1, 2] [bm] (fun t : Nat => [(8, .int .i64 t)]) (fun t => [(bm, cl (rm (mapR Wd.flushed (i / 64 * 8) (upto i t) τ.ws)) 4)]) (fun t => i + m - t) (fun t => i ≤ t ∧ t ≤ i + m) i ⟨Nat.le_refl _, by omega⟩ ?_ (by rw [upto, if_pos rfl, mapR_none])
      rintro t ⟨ht1, ht2⟩
      have hu1 : t / 64 * 8 ≤ upto i t := by unfold upto; split <;> omega
      have hu2 : upto i t ≤ (t / 64 + 1) * 8 := by unfold upto; split <;> omega
      have hu3 : upto i (t + 1) = (t / 64 + 1) * 8 := by unfold upto; rw [if_neg (by omega)]; rfl
      by_cases htl : t < i + m
      · (repeat' (first | refine W.mv ?_ | refine W.ls ?_ | refine W.fa ?_ | refine W.nl ?_ | refine W.as ?_ | refine W.ct ?_ | refine W.cf ?_ | refine W.ad ?_ | refine W.sb ?_ | refine W.ml ?_ | refine W.st ?_ | refine SL.nilB ?_ | refine SL.nil ?_ | refine W.ln ?_ | refine W.ix ?_ | refine W.lw ?_ | refine W.la ?_ | refine W.al fun b_ => ?_ | refine W.bx fun b_ => ?_ | refine W.bxa fun b_ => ?_ | refine W.sw ?_ | refine W.sa ?_ | refine W.pkt ?_ | refine W.pkf ?_ | refine W.ua ?_ | refine W.en ?_ | refine W.nn ?_ | refine W.es ?_ | refine W.ns ?_ | refine W.nt ?_ | refine W.fs ?_ | refine W.fg ?_ | refine W.bd ?_ | refine W.bda ?_ | refine W.mf ?_ | refine W.mx ?_ | refine W.mn ?_ | refine W.qu ?_ | refine W.rm ?_ | refine W.lr ?_ | refine W.lt ?_ | refine W.cp ?_ | refine W.ixa ?_ | refine W.sk ?_ | refine W.lsR (by assumption) ?_ | refine W.laR (by assumption) ?_ | refine W.eb ?_ | refine W.nb ?_ | refine W.ci ?_ | refine W.cv ?_ | refine W.s01 ?_ | refine W.s10 ?_ | refine W.s11 ?_ | refine W.s10e ?_ | refine W.sar ?_ | refine W.bs0 fun b_ => ?_ | refine W.ma fun b_ => ?_ | refine W.ex ?_ | refine W.bsl fun b_ => ?_ | refine W.mk ?_ | refine W.ett ?_ | refine W.est ?_ | refine W.nst ?_ | refine SW.seq ?_ | refine SW.region ?_ | refine SW.cond_t rfl ?_ | refine SW.cond_f rfl ?_ | refine SW.exit ?_ | refine SW.ret ?_ | refine SW.skip ?_))
        refine SW.cut [0, 1, 2, 8] [bm] (fun _ : Unit => []) (fun _ => [(bm, cl (rm (mapR Wd.flushed (i / 64 * 8) (upto i (t + 1)) τ.ws)) 4)]) (fun _ => True) ?_ ?_
        · (repeat' (first | refine W.mv ?_ | refine W.ls ?_ | refine W.fa ?_ | refine W.nl ?_ | refine W.as ?_ | refine W.ct ?_ | refine W.cf ?_ | refine W.ad ?_ | refine W.sb ?_ | refine W.ml ?_ | refine W.st ?_ | refine SL.nilB ?_ | refine SL.nil ?_ | refine W.ln ?_ | refine W.ix ?_ | refine W.lw ?_ | refine W.la ?_ | refine W.al fun b_ => ?_ | refine W.bx fun b_ => ?_ | refine W.bxa fun b_ => ?_ | refine W.sw ?_ | refine W.sa ?_ | refine W.pkt ?_ | refine W.pkf ?_ | refine W.ua ?_ | refine W.en ?_ | refine W.nn ?_ | refine W.es ?_ | refine W.ns ?_ | refine W.nt ?_ | refine W.fs ?_ | refine W.fg ?_ | refine W.bd ?_ | refine W.bda ?_ | refine W.mf ?_ | refine W.mx ?_ | refine W.mn ?_ | refine W.qu ?_ | refine W.rm ?_ | refine W.lr ?_ | refine W.lt ?_ | refine W.cp ?_ | refine W.ixa ?_ | refine W.sk ?_ | refine W.lsR (by assumption) ?_ | refine W.laR (by assumption) ?_ | refine W.eb ?_ | refine W.nb ?_ | refine W.ci ?_ | refine W.cv ?_ | refine W.s01 ?_ | refine W.s10 ?_ | refine W.s11 ?_ | refine W.s10e ?_ | refine W.sar ?_ | refine W.bs0 fun b_ => ?_ | refine W.ma fun b_ => ?_ | refine W.ex ?_ | refine W.bsl fun b_ => ?_ | refine W.mk ?_ | refine W.ett ?_ | refine W.est ?_ | refine W.nst ?_ | refine SW.seq ?_ | refine SW.region ?_ | refine SW.block ?_ | refine SW.cond_t rfl ?_ | refine SW.cond_f rfl ?_ | refine SW.exit ?_ | refine SW.ret ?_ | refine SW.skip ?_))
          refine SW.loopG [0, 1, 2, 8] [bm] (fun j : Nat => [(9, .int .i64 j)]) (fun j => [(bm, cl (rm (mapR Wd.flushed (i / 64 * 8) (max (upto i t) (t / 64 * 8 + j)) τ.ws)) 4)]) (fun j => 8 - j) (fun j => j ≤ 8) 0 (Nat.zero_le _) ?_ (by rw [Nat.add_zero, Nat.max_eq_left hu1])
          intro j hj
          by_cases hj8 : j < 8
          · have hw : t / 64 * 8 + j < τ.ws.length := by omega
            obtain ⟨u, hu⟩ : ∃ u, τ.ws[t / 64 * 8 + j]? = some u := ⟨_, List.getElem?_eq_getElem hw⟩
            have hp : (rp τ.ws)[t / 64 * 8 + j]? = some (.bool u.pend) := by unfold rp; rw [List.getElem?_map, hu]; rfl
            have hst := flush_step (X := i / 64 * 8) (y := max (upto i t) (t / 64 * 8 + j)) (by omega) (by omega) hu
            have hmx : max (max (upto i t) (t / 64 * 8 + j)) (t / 64 * 8 + j + 1) = max (upto i t) (t / 64 * 8 + (j + 1)) := by omega
            rw [hmx] at hst
            have hlt : t / 64 * 8 + j < (rm (mapR Wd.flushed (i / 64 * 8) (max (upto i t) (t / 64 * 8 + j)) τ.ws)).length := by rw [rm_len, mapR_len]; exact hw
            (repeat' (first | refine W.mv ?_ | refine W.ls ?_ | refine W.fa ?_ | refine W.nl ?_ | refine W.as ?_ | refine W.ct ?_ | refine W.cf ?_ | refine W.ad ?_ | refine W.sb ?_ | refine W.ml ?_ | refine W.st ?_ | refine SL.nilB ?_ | refine SL.nil ?_ | refine W.ln ?_ | refine W.ix ?_ | refine W.lw ?_ | refine W.la ?_ | refine W.al fun b_ => ?_ | refine W.bx fun b_ => ?_ | refine W.bxa fun b_ => ?_ | refine W.sw ?_ | refine W.sa ?_ | refine W.pkt ?_ | refine W.pkf ?_ | refine W.ua ?_ | refine W.en ?_ | refine W.nn ?_ | refine W.es ?_ | refine W.ns ?_ | refine W.nt ?_ | refine W.fs ?_ | refine W.fg ?_ | refine W.bd ?_ | refine W.bda ?_ | refine W.mf ?_ | refine W.mx ?_ | refine W.mn ?_ | refine W.qu ?_ | refine W.rm ?_ | refine W.lr ?_ | refine W.lt ?_ | refine W.cp ?_ | refine W.ixa ?_ | refine W.sk ?_ | refine W.lsR (by assumption) ?_ | refine W.laR (by assumption) ?_ | refine W.eb ?_ | refine W.nb ?_ | refine W.ci ?_ | refine W.cv ?_ | refine W.s01 ?_ | refine W.s10 ?_ | refine W.s11 ?_ | refine W.s10e ?_ | refine W.sar ?_ | refine W.bs0 fun b_ => ?_ | refine W.ma fun b_ => ?_ | refine W.ex ?_ | refine W.bsl fun b_ => ?_ | refine W.mk ?_ | refine W.ett ?_ | refine W.est ?_ | refine W.nst ?_ | refine SW.seq ?_ | refine SW.region ?_ | refine SW.block ?_ | refine SW.cond_t rfl ?_ | refine SW.cond_f rfl ?_ | refine SW.exit ?_ | refine SW.ret ?_ | refine SW.skip ?_))
            (refine SW.regionS [13] ?_ (by kernel_rfl); refine SS.tw 0 rfl (p_move rfl rfl) ?_; refine SS.tw 1 rfl (p_nil rfl rfl) ?_; refine SS.tw 2 rfl (p_fieldAddr rfl rfl OfN.ok) ?_; (first | refine SS.ls 3 [13] rfl ?_ | refine SS.tw 3 rfl (p_load_sR rfl rfl (by assumption) (by assumption) (by assumption)) ?_); refine SS.tw 4 rfl (p_move rfl rfl) ?_; refine SS.tw 5 rfl (p_move rfl rfl) ?_; refine SS.tw 6 rfl (p_nil rfl rfl) ?_; refine SS.tw 7 rfl (p_fieldAddr rfl rfl OfN.ok) ?_; (first | refine SS.ls 8 [13] rfl ?_ | refine SS.tw 8 rfl (p_load_sR rfl rfl (by assumption) (by assumption) (by assumption)) ?_); refine SS.tw 9 rfl (p_move rfl rfl) ?_; (first | refine SS.tw 10 rfl (p_ix rfl rfl rfl (by omega)) ?_ | refine SS.tw 10 rfl (p_ixa rfl rfl rfl (by omega)) ?_); (first | refine SS.ls 11 [13] rfl ?_ | refine SS.tw 11 rfl (p_load_sR rfl rfl (by assumption) (by assumption) (by assumption)) ?_); (first | refine SS.tw 12 rfl (p_ix rfl rfl rfl (by omega)) ?_ | refine SS.tw 12 rfl (p_ixa rfl rfl rfl (by omega)) ?_); refine SS.effB 13 ?_ rfl (by kernel_rfl); (repeat' (first | refine W.mv ?_ | refine W.ls ?_ | refine W.fa ?_ | refine W.nl ?_ | refine W.as ?_ | refine W.ct ?_ | refine W.cf ?_ | refine W.ad ?_ | refine W.sb ?_ | refine W.ml ?_ | refine W.st ?_ | refine SL.nilB ?_ | refine SL.nil ?_ | refine W.ln ?_ | refine W.ix ?_ | refine W.lw ?_ | refine W.la ?_ | refine W.al fun b_ => ?_ | refine W.bx fun b_ => ?_ | refine W.bxa fun b_ => ?_ | refine W.sw ?_ | refine W.sa ?_ | refine W.pkt ?_ | refine W.pkf ?_ | refine W.ua ?_ | refine W.en ?_ | refine W.nn ?_ | refine W.es ?_ | refine W.ns ?_ | refine W.nt ?_ | refine W.fs ?_ | refine W.fg ?_ | refine W.bd ?_ | refine W.bda ?_ | refine W.mf ?_ | refine W.mx ?_ | refine W.mn ?_ | refine W.qu ?_ | refine W.rm ?_ | refine W.lr ?_ | refine W.lt ?_ | refine W.cp ?_ | refine W.ixa ?_ | refine W.sk ?_ | refine W.lsR (by assumption) ?_ | refine W.laR (by assumption) ?_ | refine W.eb ?_ | refine W.nb ?_ | refine W.ci ?_ | refine W.cv ?_ | refine W.s01 ?_ | refine W.s10 ?_ | refine W.s11 ?_ | refine W.s10e ?_ | refine W.sar ?_ | refine W.bs0 fun b_ => ?_ | refine W.ma fun b_ => ?_ | refine W.ex ?_ | refine W.bsl fun b_ => ?_ | refine W.mk ?_ | refine W.ett ?_ | refine W.est ?_ | refine W.nst ?_)); refine SS.done ?_ (by kernel_rfl))
            rw [hst]
            (repeat' (first | refine W.mv ?_ | refine W.ls ?_ | refine W.fa ?_ | refine W.nl ?_ | refine W.as ?_ | refine W.ct ?_ | refine W.cf ?_ | refine W.ad ?_ | refine W.sb ?_ | refine W.ml ?_ | refine W.st ?_ | refine SL.nilB ?_ | refine SL.nil ?_ | refine W.ln ?_ | refine W.ix ?_ | refine W.lw ?_ | refine W.la ?_ | refine W.al fun b_ => ?_ | refine W.bx fun b_ => ?_ | refine W.bxa fun b_ => ?_ | refine W.sw ?_ | refine W.sa ?_ | refine W.pkt ?_ | refine W.pkf ?_ | refine W.ua ?_ | refine W.en ?_ | refine W.nn ?_ | refine W.es ?_ | refine W.ns ?_ | refine W.nt ?_ | refine W.fs ?_ | refine W.fg ?_ | refine W.bd ?_ | refine W.bda ?_ | refine W.mf ?_ | refine W.mx ?_ | refine W.mn ?_ | refine W.qu ?_ | refine W.rm ?_ | refine W.lr ?_ | refine W.lt ?_ | refine W.cp ?_ | refine W.ixa ?_ | refine W.sk ?_ | refine W.lsR (by assumption) ?_ | refine W.laR (by assumption) ?_ | refine W.eb ?_ | refine W.nb ?_ | refine W.ci ?_ | refine W.cv ?_ | refine W.s01 ?_ | refine W.s10 ?_ | refine W.s11 ?_ | refine W.s10e ?_ | refine W.sar ?_ | refine W.bs0 fun b_ => ?_ | refine W.ma fun b_ => ?_ | refine W.ex ?_ | refine W.bsl fun b_ => ?_ | refine W.mk ?_ | refine W.ett ?_ | refine W.est ?_ | refine W.nst ?_ | refine SW.seq ?_ | refine SW.region ?_ | refine SW.block ?_ | refine SW.cond_t rfl ?_ | refine SW.cond_f rfl ?_ | refine SW.exit ?_ | refine SW.ret ?_ | refine SW.skip ?_))
            refine HandF.mk (j + 1) ?_
            omega
          · have : j = 8 := by omega
            subst this
            have e : max (upto i t) (t / 64 * 8 + 8) = upto i (t + 1) := by omega
            rw [e]
            (repeat' (first | refine W.mv ?_ | refine W.ls ?_ | refine W.fa ?_ | refine W.nl ?_ | refine W.as ?_ | refine W.ct ?_ | refine W.cf ?_ | refine W.ad ?_ | refine W.sb ?_ | refine W.ml ?_ | refine W.st ?_ | refine SL.nilB ?_ | refine SL.nil ?_ | refine W.ln ?_ | refine W.ix ?_ | refine W.lw ?_ | refine W.la ?_ | refine W.al fun b_ => ?_ | refine W.bx fun b_ => ?_ | refine W.bxa fun b_ => ?_ | refine W.sw ?_ | refine W.sa ?_ | refine W.pkt ?_ | refine W.pkf ?_ | refine W.ua ?_ | refine W.en ?_ | refine W.nn ?_ | refine W.es ?_ | refine W.ns ?_ | refine W.nt ?_ | refine W.fs ?_ | refine W.fg ?_ | refine W.bd ?_ | refine W.bda ?_ | refine W.mf ?_ | refine W.mx ?_ | refine W.mn ?_ | refine W.qu ?_ | refine W.rm ?_ | refine W.lr ?_ | refine W.lt ?_ | refine W.cp ?_ | refine W.ixa ?_ | refine W.sk ?_ | refine W.lsR (by assumption) ?_ | refine W.laR (by assumption) ?_ | refine W.eb ?_ | refine W.nb ?_ | refine W.ci ?_ | refine W.cv ?_ | refine W.s01 ?_ | refine W.s10 ?_ | refine W.s11 ?_ | refine W.s10e ?_ | refine W.sar ?_ | refine W.bs0 fun b_ => ?_ | refine W.ma fun b_ => ?_ | refine W.ex ?_ | refine W.bsl fun b_ => ?_ | refine W.mk ?_ | refine W.ett ?_ | refine W.est ?_ | refine W.nst ?_ | refine SW.seq ?_ | refine SW.region ?_ | refine SW.block ?_ | refine SW.cond_t rfl ?_ | refine SW.cond_f rfl ?_ | refine SW.exit ?_ | refine SW.ret ?_ | refine SW.skip ?_))
            refine CutF.mk () ?_
            trivial
        · intro _ _
          (repeat' (first | refine W.mv ?_ | refine W.ls ?_ | refine W.fa ?_ | refine W.nl ?_ | refine W.as ?_ | refine W.ct ?_ | refine W.cf ?_ | refine W.ad ?_ | refine W.sb ?_ | refine W.ml ?_ | refine W.st ?_ | refine SL.nilB ?_ | refine SL.nil ?_ | refine W.ln ?_ | refine W.ix ?_ | refine W.lw ?_ | refine W.la ?_ | refine W.al fun b_ => ?_ | refine W.bx fun b_ => ?_ | refine W.bxa fun b_ => ?_ | refine W.sw ?_ | refine W.sa ?_ | refine W.pkt ?_ | refine W.pkf ?_ | refine W.ua ?_ | refine W.en ?_ | refine W.nn ?_ | refine W.es ?_ | refine W.ns ?_ | refine W.nt ?_ | refine W.fs ?_ | refine W.fg ?_ | refine W.bd ?_ | refine W.bda ?_ | refine W.mf ?_ | refine W.mx ?_ | refine W.mn ?_ | refine W.qu ?_ | refine W.rm ?_ | refine W.lr ?_ | refine W.lt ?_ | refine W.cp ?_ | refine W.ixa ?_ | refine W.sk ?_ | refine W.lsR (by assumption) ?_ | refine W.laR (by assumption) ?_ | refine W.eb ?_ | refine W.nb ?_ | refine W.ci ?_ | refine W.cv ?_ | refine W.s01 ?_ | refine W.s10 ?_ | refine W.s11 ?_ | refine W.s10e ?_ | refine W.sar ?_ | refine W.bs0 fun b_ => ?_ | refine W.ma fun b_ => ?_ | refine W.ex ?_ | refine W.bsl fun b_ => ?_ | refine W.mk ?_ | refine W.ett ?_ | refine W.est ?_ | refine W.nst ?_ | refine SW.seq ?_ | refine SW.region ?_ | refine SW.block ?_ | refine SW.cond_t rfl ?_ | refine SW.cond_f rfl ?_ | refine SW.exit ?_ | refine SW.ret ?_ | refine SW.skip ?_))
          refine HandF.mk (t + 1) ?_
          omega
      · have : t = i + m := by omega
        subst this
        have e : mapR Wd.flushed (i / 64 * 8) (upto i (i + m)) τ.ws = flushW τ.ws i m := by
          unfold flushW upto
          by_cases hm : m = 0
          · subst hm; rw [if_pos (by omega), if_pos rfl, mapR_none]
          · rw [if_neg (by omega), if_neg hm]
        have hfl : (flushW τ.ws i m).length = τ.ws.length := by rw [← e, mapR_len]
        have hfo : ∀ w ∈ flushW τ.ws i m, w.Ok := by rw [← e]; exact mapR_ok (fun w => Wd.flushed_ok) _ _ hO.ok
        have q1 : rl (flushW τ.ws i m) = rl τ.ws := by rw [← e]; exact mapR_fm (h := Wd.flushed) (fun w => w.lasts.map bv) (fun w => rfl) _ _ _
        have q2 : rn (flushW τ.ws i m) = rn τ.ws := by rw [← e]; exact mapR_fm (h := Wd.flushed) (fun w => w.now.map bv) (fun w => rfl) _ _ _
        have q3 : rp (flushW τ.ws i m) = rp τ.ws := by rw [← e]; exact mapR_map (h := Wd.flushed) (fun w => Value.bool w.pend) (fun w => rfl) _ _ _
        rw [e]
        (repeat' (first | refine W.mv ?_ | refine W.ls ?_ | refine W.fa ?_ | refine W.nl ?_ | refine W.as ?_ | refine W.ct ?_ | refine W.cf ?_ | refine W.ad ?_ | refine W.sb ?_ | refine W.ml ?_ | refine W.st ?_ | refine SL.nilB ?_ | refine SL.nil ?_ | refine W.ln ?_ | refine W.ix ?_ | refine W.lw ?_ | refine W.la ?_ | refine W.al fun b_ => ?_ | refine W.bx fun b_ => ?_ | refine W.bxa fun b_ => ?_ | refine W.sw ?_ | refine W.sa ?_ | refine W.pkt ?_ | refine W.pkf ?_ | refine W.ua ?_ | refine W.en ?_ | refine W.nn ?_ | refine W.es ?_ | refine W.ns ?_ | refine W.nt ?_ | refine W.fs ?_ | refine W.fg ?_ | refine W.bd ?_ | refine W.bda ?_ | refine W.mf ?_ | refine W.mx ?_ | refine W.mn ?_ | refine W.qu ?_ | refine W.rm ?_ | refine W.lr ?_ | refine W.lt ?_ | refine W.cp ?_ | refine W.ixa ?_ | refine W.sk ?_ | refine W.lsR (by assumption) ?_ | refine W.laR (by assumption) ?_ | refine W.eb ?_ | refine W.nb ?_ | refine W.ci ?_ | refine W.cv ?_ | refine W.s01 ?_ | refine W.s10 ?_ | refine W.s11 ?_ | refine W.s10e ?_ | refine W.sar ?_ | refine W.bs0 fun b_ => ?_ | refine W.ma fun b_ => ?_ | refine W.ex ?_ | refine W.bsl fun b_ => ?_ | refine W.mk ?_ | refine W.ett ?_ | refine W.est ?_ | refine W.nst ?_ | refine SW.seq ?_ | refine SW.region ?_ | refine SW.block ?_ | refine SW.cond_t rfl ?_ | refine SW.cond_f rfl ?_ | refine SW.exit ?_ | refine SW.ret ?_ | refine SW.skip ?_))
        refine Fin.perm (H' := (p, cl [.slice (some ⟨bl, 0, none⟩) τ.len τ.len, .slice (some ⟨bn, 0, none⟩) τ.len τ.len, .slice (some ⟨bp, 0, none⟩) τ.ws.length τ.ws.length, .slice (some ⟨bm, 0, none⟩) τ.ws.length τ.ws.length, .bool τ.down, .int .i64 τ.fuse, vp, va] 54) :: (bl, cl (rl τ.ws) 5) :: (bn, cl (rn τ.ws) 5) :: (bp, cl (rp τ.ws) 4) :: (bm, cl (rm (flushW τ.ws i m)) 4) :: (Hq ++ Ha)) ?_ (F.f1 ?_)
        · simp only [List.append_nil]
          exact (List.perm_middle (l₁ := [_, _, _, _]) (a := (bm, _)) (l₂ := Hq ++ Ha)).symm
        refine ⟨rfl, Dv.setWs_ok hO hfl hfo, bl, bn, bp, bm, vp, va, Hq, Ha, h2, h3, ?_⟩
        simp [Dv.setWs, Dv.len, hfl, q1, q2, q3]
    · (repeat' (first | refine W.mv ?_ | refine W.ls ?_ | refine W.fa ?_ | refine W.nl ?_ | refine W.as ?_ | refine W.ct ?_ | refine W.cf ?_ | refine W.ad ?_ | refine W.sb ?_ | refine W.ml ?_ | refine W.st ?_ | refine SL.nilB ?_ | refine SL.nil ?_ | refine W.ln ?_ | refine W.ix ?_ | refine W.lw ?_ | refine W.la ?_ | refine W.al fun b_ => ?_ | refine W.bx fun b_ => ?_ | refine W.bxa fun b_ => ?_ | refine W.sw ?_ | refine W.sa ?_ | refine W.pkt ?_ | refine W.pkf ?_ | refine W.ua ?_ | refine W.en ?_ | refine W.nn ?_ | refine W.es ?_ | refine W.ns ?_ | refine W.nt ?_ | refine W.fs ?_ | refine W.fg ?_ | refine W.bd ?_ | refine W.bda ?_ | refine W.mf ?_ | refine W.mx ?_ | refine W.mn ?_ | refine W.qu ?_ | refine W.rm ?_ | refine W.lr ?_ | refine W.lt ?_ | refine W.cp ?_ | refine W.ixa ?_ | refine W.sk ?_ | refine W.lsR (by assumption) ?_ | refine W.laR (by assumption) ?_ | refine W.eb ?_ | refine W.nb ?_ | refine W.ci ?_ | refine W.cv ?_ | refine W.s01 ?_ | refine W.s10 ?_ | refine W.s11 ?_ | refine W.s10e ?_ | refine W.sar ?_ | refine W.bs0 fun b_ => ?_ | refine W.ma fun b_ => ?_ | refine W.ex ?_ | refine W.bsl fun b_ => ?_ | refine W.mk ?_ | refine W.ett ?_ | refine W.est ?_ | refine W.nst ?_ | refine SW.seq ?_ | refine SW.region ?_ | refine SW.block ?_ | refine SW.cond_t rfl ?_ | refine SW.cond_f rfl ?_ | refine SW.exit ?_ | refine SW.ret ?_ | refine SW.skip ?_))
      refine F.f1 ?_
      have hres : σ.flush x n = σ.act (2, x, n) := by unfold Dv.flush; rw [if_pos h0, if_neg h1]
      have hresE : σ.actR x n = σ.actE := by unfold Dv.actR; rw [if_pos h0]
      rw [hres, hresE]; refine ⟨rfl, ?_⟩; simp only [List.append_nil]; exact hD1
  · (repeat' (first | refine W.mv ?_ | refine W.ls ?_ | refine W.fa ?_ | refine W.nl ?_ | refine W.as ?_ | refine W.ct ?_ | refine W.cf ?_ | refine W.ad ?_ | refine W.sb ?_ | refine W.ml ?_ | refine W.st ?_ | refine SL.nilB ?_ | refine SL.nil ?_ | refine W.ln ?_ | refine W.ix ?_ | refine W.lw ?_ | refine W.la ?_ | refine W.al fun b_ => ?_ | refine W.bx fun b_ => ?_ | refine W.bxa fun b_ => ?_ | refine W.sw ?_ | refine W.sa ?_ | refine W.pkt ?_ | refine W.pkf ?_ | refine W.ua ?_ | refine W.en ?_ | refine W.nn ?_ | refine W.es ?_ | refine W.ns ?_ | refine W.nt ?_ | refine W.fs ?_ | refine W.fg ?_ | refine W.bd ?_ | refine W.bda ?_ | refine W.mf ?_ | refine W.mx ?_ | refine W.mn ?_ | refine W.qu ?_ | refine W.rm ?_ | refine W.lr ?_ | refine W.lt ?_ | refine W.cp ?_ | refine W.ixa ?_ | refine W.sk ?_ | refine W.lsR (by assumption) ?_ | refine W.laR (by assumption) ?_ | refine W.eb ?_ | refine W.nb ?_ | refine W.ci ?_ | refine W.cv ?_ | refine W.s01 ?_ | refine W.s10 ?_ | refine W.s11 ?_ | refine W.s10e ?_ | refine W.sar ?_ | refine W.bs0 fun b_ => ?_ | refine W.ma fun b_ => ?_ | refine W.ex ?_ | refine W.bsl fun b_ => ?_ | refine W.mk ?_ | refine W.ett ?_ | refine W.est ?_ | refine W.nst ?_ | refine SW.seq ?_ | refine SW.region ?_ | refine SW.block ?_ | refine SW.cond_t rfl ?_ | refine SW.cond_f rfl ?_ | refine SW.exit ?_ | refine SW.ret ?_ | refine SW.skip ?_))
    refine F.f1 ?_
    have hres : σ.flush x n = σ := by unfold Dv.flush; rw [if_neg h0]
    have hresE : σ.actR x n = σ.rdy x n := by unfold Dv.actR; rw [if_neg h0]
    rw [hres, hresE]; refine ⟨rfl, ?_⟩; simp only [List.append_nil]; exact hD

theorem fenced_now (w : Wd) : w.fenced.now = w.now := by unfold Wd.fenced; cases w.mark <;> rfl
theorem rl_put {ws : List Wd} {k : Nat} {u u' : Wd} (hok : ∀ w ∈ ws, w.Ok) (hu : ws[k]? = some u) (h : u'.lasts.length = 8) : (rl ws).take (8 * k) ++ u'.lasts.map bv ++ (rl ws).drop (8 * k + (u'.lasts.map bv).length) = rl (ws.set k u') := by
  have hk : k < ws.length := (List.getElem?_eq_some_iff.1 hu).1
  have hA : (rl (ws.take k)).length = 8 * k := by rw [rl_len (fun w hw => hok w (List.mem_of_mem_take hw)), List.length_take]; congr 1; omega
  have e : rl ws = rl (ws.take k) ++ (u.lasts.map bv ++ rl (ws.drop (k + 1))) := fm_split _ ws k u hu
  have hx : (u.lasts.map bv).length = 8 := by simpa using (hok u (List.mem_of_getElem? hu)).1.1
  rw [e, splice8 hA hx (by simpa using h)]
  exact (fm_set _ ws k u' hk).symm
theorem rn_row {ws : List Wd} {k : Nat} {u : Wd} (hok : ∀ w ∈ ws, w.Ok) (hu : ws[k]? = some u) : ((rn ws).drop (8 * k)).take (8 * 1) = u.now.map bv := by
  have hk : k < ws.length := (List.getElem?_eq_some_iff.1 hu).1
  have hA : (rn (ws.take k)).length = 8 * k := by rw [rn_len (fun w hw => hok w (List.mem_of_mem_take hw)), List.length_take]; congr 1; omega
  have e : rn ws = rn (ws.take k) ++ (u.now.map bv ++ rn (ws.drop (k + 1))) := fm_split _ ws k u hu
  rw [e, row8 hA (by simpa using (hok u (List.mem_of_getElem? hu)).1.2)]
theorem rfence_p {p : Nat} {σ : Dv} {H : Hp} (hD : DevR p σ H) : Tri Try.prog 52 [.pointer (some ⟨p, 0, none⟩)] H (fun _ => True)
    (fun v' H' => v' = .int .i64 (σ.actR 0 0) ∧ DevR p σ.fence H') := by
  have hr := rready_p hD 0 0
  refine Tri.mk Try.func52 rfl Try.ntmps52 rfl fun w hw => ?_
  (repeat' (first | refine W.mv ?_ | refine W.ls ?_ | refine W.fa ?_ | refine W.nl ?_ | refine W.as ?_ | refine W.ct ?_ | refine W.cf ?_ | refine W.ad ?_ | refine W.sb ?_ | refine W.ml ?_ | refine W.st ?_ | refine SL.nilB ?_ | refine SL.nil ?_ | refine W.ln ?_ | refine W.ix ?_ | refine W.lw ?_ | refine W.la ?_ | refine W.al fun b_ => ?_ | refine W.bx fun b_ => ?_ | refine W.bxa fun b_ => ?_ | refine W.sw ?_ | refine W.sa ?_ | refine W.pkt ?_ | refine W.pkf ?_ | refine W.ua ?_ | refine W.en ?_ | refine W.nn ?_ | refine W.es ?_ | refine W.ns ?_ | refine W.nt ?_ | refine W.fs ?_ | refine W.fg ?_ | refine W.bd ?_ | refine W.bda ?_ | refine W.mf ?_ | refine W.mx ?_ | refine W.mn ?_ | refine W.qu ?_ | refine W.rm ?_ | refine W.lr ?_ | refine W.lt ?_ | refine W.cp ?_ | refine W.ixa ?_ | refine W.sk ?_ | refine W.lsR (by assumption) ?_ | refine W.laR (by assumption) ?_ | refine W.eb ?_ | refine W.nb ?_ | refine W.ci ?_ | refine W.cv ?_ | refine W.s01 ?_ | refine W.s10 ?_ | refine W.s11 ?_ | refine W.s10e ?_ | refine W.sar ?_ | refine W.bs0 fun b_ => ?_ | refine W.ma fun b_ => ?_ | refine W.ex ?_ | refine W.bsl fun b_ => ?_ | refine W.mk ?_ | refine W.ett ?_ | refine W.est ?_ | refine W.nst ?_ | refine SW.seq ?_ | refine SW.region ?_ | refine SW.block ?_ | refine SW.cond_t rfl ?_ | refine SW.cond_f rfl ?_ | refine SW.exit ?_ | refine SW.ret ?_ | refine SW.skip ?_))
  refine W.call hr ?_
  rintro _ _ ⟨rfl, rfl⟩
  by_cases h0 : σ.rdy 0 0 = 0
  · obtain ⟨hdn, -⟩ := rdy_zero h0
    have ha := ract_p hD hdn 3 0 0
    rw [h0]
    (repeat' (first | refine W.mv ?_ | refine W.ls ?_ | refine W.fa ?_ | refine W.nl ?_ | refine W.as ?_ | refine W.ct ?_ | refine W.cf ?_ | refine W.ad ?_ | refine W.sb ?_ | refine W.ml ?_ | refine W.st ?_ | refine SL.nilB ?_ | refine SL.nil ?_ | refine W.ln ?_ | refine W.ix ?_ | refine W.lw ?_ | refine W.la ?_ | refine W.al fun b_ => ?_ | refine W.bx fun b_ => ?_ | refine W.bxa fun b_ => ?_ | refine W.sw ?_ | refine W.sa ?_ | refine W.pkt ?_ | refine W.pkf ?_ | refine W.ua ?_ | refine W.en ?_ | refine W.nn ?_ | refine W.es ?_ | refine W.ns ?_ | refine W.nt ?_ | refine W.fs ?_ | refine W.fg ?_ | refine W.bd ?_ | refine W.bda ?_ | refine W.mf ?_ | refine W.mx ?_ | refine W.mn ?_ | refine W.qu ?_ | refine W.rm ?_ | refine W.lr ?_ | refine W.lt ?_ | refine W.cp ?_ | refine W.ixa ?_ | refine W.sk ?_ | refine W.lsR (by assumption) ?_ | refine W.laR (by assumption) ?_ | refine W.eb ?_ | refine W.nb ?_ | refine W.ci ?_ | refine W.cv ?_ | refine W.s01 ?_ | refine W.s10 ?_ | refine W.s11 ?_ | refine W.s10e ?_ | refine W.sar ?_ | refine W.bs0 fun b_ => ?_ | refine W.ma fun b_ => ?_ | refine W.ex ?_ | refine W.bsl fun b_ => ?_ | refine W.mk ?_ | refine W.ett ?_ | refine W.est ?_ | refine W.nst ?_ | refine SW.seq ?_ | refine SW.region ?_ | refine SW.block ?_ | refine SW.cond_t rfl ?_ | refine SW.cond_f rfl ?_ | refine SW.exit ?_ | refine SW.ret ?_ | refine SW.skip ?_))
    refine W.call ha ?_
    rintro _ H1 ⟨rfl, hD1⟩
    by_cases h1 : σ.actE = 0
    · rw [h1]
      have hres : σ.fence = (σ.act (3, 0, 0)).setWs ((σ.act (3, 0, 0)).ws.map Wd.fenced) := by unfold Dv.fence; rw [if_pos h0, if_pos h1]
      have hresE : σ.actR 0 0 = 0 := by unfold Dv.actR; rw [if_pos h0, h1]
      rw [hres, hresE]
      generalize σ.act (3, 0, 0) = τ at hD1 ⊢
      have hN := hD1.1.n
      have hlenτ : τ.len = 8 * τ.ws.length := rfl
      obtain ⟨hO, bl, bn, bp, bm, vp, va, Hq, Ha, h2, h3, rfl⟩ := hD1
      (repeat' (first | refine W.mv ?_ | refine W.ls ?_ | refine W.fa ?_ | refine W.nl ?_ | refine W.as ?_ | refine W.ct ?_ | refine W.cf ?_ | refine W.ad ?_ | refine W.sb ?_ | refine W.ml ?_ | refine W.st ?_ | refine SL.nilB ?_ | refine SL.nil ?_ | refine W.ln ?_ | refine W.ix ?_ | refine W.lw ?_ | refine W.la ?_ | refine W.al fun b_ => ?_ | refine W.bx fun b_ => ?_ | refine W.bxa fun b_ => ?_ | refine W.sw ?_ | refine W.sa ?_ | refine W.pkt ?_ | refine W.pkf ?_ | refine W.ua ?_ | refine W.en ?_ | refine W.nn ?_ | refine W.es ?_ | refine W.ns ?_ | refine W.nt ?_ | refine W.fs ?_ | refine W.fg ?_ | refine W.bd ?_ | refine W.bda ?_ | refine W.mf ?_ | refine W.mx ?_ | refine W.mn ?_ | refine W.qu ?_ | refine W.rm ?_ | refine W.lr ?_ | refine W.lt ?_ | refine W.cp ?_ | refine W.ixa ?_ | refine W.sk ?_ | refine W.lsR (by assumption) ?_ | refine W.laR (by assumption) ?_ | refine W.eb ?_ | refine W.nb ?_ | refine W.ci ?_ | refine W.cv ?_ | refine W.s01 ?_ | refine W.s10 ?_ | refine W.s11 ?_ | refine W.s10e ?_ | refine W.sar ?_ | refine W.bs0 fun b_ => ?_ | refine W.ma fun b_ => ?_ | refine W.ex ?_ | refine W.bsl fun b_ => ?_ | refine W.mk ?_ | refine W.ett ?_ | refine W.est ?_ | refine W.nst ?_ | refine SW.seq ?_ | refine SW.region ?_ | refine SW.block ?_ | refine SW.cond_t rfl ?_ | refine SW.cond_f rfl ?_ | refine SW.exit ?_ | refine SW.ret ?_ | refine SW.skip ?_))
      refine SW.loopG [0, 18] [bl, bp, bm] (fun k : Nat => [(19, .int .i64 k)]) (fun k => [(bl, cl (rl (mapR Wd.fenced 0 k τ.ws)) 5), (bp, cl (rp (mapR Wd.fenced 0 k τ.ws)) 4), (bm, cl (rm (mapR Wd.fenced 0 k τ.ws)) 4)]) (fun k => τ.ws.length - k) (fun k => k ≤ τ.ws.length) 0 (Nat.zero_le _) ?_ (by rw [mapR_none])
      intro k hk
      by_cases hkl : k < τ.ws.length
      · obtain ⟨u, hu⟩ : ∃ u, τ.ws[k]? = some u := ⟨_, List.getElem?_eq_getElem hkl⟩
        have huO := hO.ok u (List.mem_of_getElem? hu)
        obtain ⟨hk2, hset⟩ := mapR_step Wd.fenced 0 k τ.ws u (Nat.zero_le _) hu
        have hok2 := mapR_ok (fun w => Wd.fenced_ok) 0 k hO.ok
        have hmk : (rm (mapR Wd.fenced 0 k τ.ws))[k]? = some (.bool u.mark) := by unfold rm; rw [List.getElem?_map, hk2]; rfl
        have hl2 := rp_len (mapR Wd.fenced 0 k τ.ws)
        have hl3 := rm_len (mapR Wd.fenced 0 k τ.ws)
        have hl1 := rl_len hok2
        rw [mapR_len] at hl1 hl2 hl3
        cases hm : u.mark
        · rw [hm] at hmk
          have hfu : u.fenced = u := by unfold Wd.fenced; rw [hm]; rfl
          have hsame : mapR Wd.fenced 0 (k + 1) τ.ws = mapR Wd.fenced 0 k τ.ws := by
            rw [← hset, hfu]
            exact set_same hk2
          (repeat' (first | refine W.mv ?_ | refine W.ls ?_ | refine W.fa ?_ | refine W.nl ?_ | refine W.as ?_ | refine W.ct ?_ | refine W.cf ?_ | refine W.ad ?_ | refine W.sb ?_ | refine W.ml ?_ | refine W.st ?_ | refine SL.nilB ?_ | refine SL.nil ?_ | refine W.ln ?_ | refine W.ix ?_ | refine W.lw ?_ | refine W.la ?_ | refine W.al fun b_ => ?_ | refine W.bx fun b_ => ?_ | refine W.bxa fun b_ => ?_ | refine W.sw ?_ | refine W.sa ?_ | refine W.pkt ?_ | refine W.pkf ?_ | refine W.ua ?_ | refine W.en ?_ | refine W.nn ?_ | refine W.es ?_ | refine W.ns ?_ | refine W.nt ?_ | refine W.fs ?_ | refine W.fg ?_ | refine W.bd ?_ | refine W.bda ?_ | refine W.mf ?_ | refine W.mx ?_ | refine W.mn ?_ | refine W.qu ?_ | refine W.rm ?_ | refine W.lr ?_ | refine W.lt ?_ | refine W.cp ?_ | refine W.ixa ?_ | refine W.sk ?_ | refine W.lsR (by assumption) ?_ | refine W.laR (by assumption) ?_ | refine W.eb ?_ | refine W.nb ?_ | refine W.ci ?_ | refine W.cv ?_ | refine W.s01 ?_ | refine W.s10 ?_ | refine W.s11 ?_ | refine W.s10e ?_ | refine W.sar ?_ | refine W.bs0 fun b_ => ?_ | refine W.ma fun b_ => ?_ | refine W.ex ?_ | refine W.bsl fun b_ => ?_ | refine W.mk ?_ | refine W.ett ?_ | refine W.est ?_ | refine W.nst ?_ | refine SW.seq ?_ | refine SW.region ?_ | refine SW.block ?_ | refine SW.cond_t rfl ?_ | refine SW.cond_f rfl ?_ | refine SW.exit ?_ | refine SW.ret ?_ | refine SW.skip ?_))
          rw [← hsame]
          refine HandF.mk (k + 1) ?_
          omega
        · rw [hm] at hmk
          have hfu : u.fenced = { lasts := u.now, now := u.now, pend := false, mark := false } := by unfold Wd.fenced; rw [hm]; rfl
          have hrow := rn_row hO.ok hu
          have e1 := rl_put (u' := u.fenced) hok2 hk2 (by rw [hfu]; exact huO.1.2)
          rw [hset] at e1
          have e2 : (rp (mapR Wd.fenced 0 k τ.ws)).set k (.bool false) = rp (mapR Wd.fenced 0 (k + 1) τ.ws) := by
            rw [← hset]; unfold rp; rw [List.map_set, hfu]
          have e3 : (rm (mapR Wd.fenced 0 k τ.ws)).set k (.bool false) = rm (mapR Wd.fenced 0 (k + 1) τ.ws) := by
            rw [← hset]; unfold rm; rw [List.map_set, hfu]
          have hn8 : (u.now.map bv).length = 8 := by simpa using huO.1.2
          have hlt2 : k < (rp (mapR Wd.fenced 0 k τ.ws)).length := by omega
          have hlt3 : k < (rm (mapR Wd.fenced 0 k τ.ws)).length := by omega
          (repeat' (first | refine W.mv ?_ | refine W.ls ?_ | refine W.fa ?_ | refine W.nl ?_ | refine W.as ?_ | refine W.ct ?_ | refine W.cf ?_ | refine W.ad ?_ | refine W.sb ?_ | refine W.ml ?_ | refine W.st ?_ | refine SL.nilB ?_ | refine SL.nil ?_ | refine W.ln ?_ | refine W.ix ?_ | refine W.lw ?_ | refine W.la ?_ | refine W.al fun b_ => ?_ | refine W.bx fun b_ => ?_ | refine W.bxa fun b_ => ?_ | refine W.sw ?_ | refine W.sa ?_ | refine W.pkt ?_ | refine W.pkf ?_ | refine W.ua ?_ | refine W.en ?_ | refine W.nn ?_ | refine W.es ?_ | refine W.ns ?_ | refine W.nt ?_ | refine W.fs ?_ | refine W.fg ?_ | refine W.bd ?_ | refine W.bda ?_ | refine W.mf ?_ | refine W.mx ?_ | refine W.mn ?_ | refine W.qu ?_ | refine W.rm ?_ | refine W.lr ?_ | refine W.lt ?_ | refine W.cp ?_ | refine W.ixa ?_ | refine W.sk ?_ | refine W.lsR (by assumption) ?_ | refine W.laR (by assumption) ?_ | refine W.eb ?_ | refine W.nb ?_ | refine W.ci ?_ | refine W.cv ?_ | refine W.s01 ?_ | refine W.s10 ?_ | refine W.s11 ?_ | refine W.s10e ?_ | refine W.sar ?_ | refine W.bs0 fun b_ => ?_ | refine W.ma fun b_ => ?_ | refine W.ex ?_ | refine W.bsl fun b_ => ?_ | refine W.mk ?_ | refine W.ett ?_ | refine W.est ?_ | refine W.nst ?_ | refine SW.seq ?_ | refine SW.region ?_ | refine SW.block ?_ | refine SW.cond_t rfl ?_ | refine SW.cond_f rfl ?_ | refine SW.exit ?_ | refine SW.ret ?_ | refine SW.skip ?_))
          (refine SW.regionS [20] ?_ (by kernel_rfl); refine SS.tw 0 rfl (p_move rfl rfl) ?_; refine SS.tw 1 rfl (p_nil rfl rfl) ?_; refine SS.tw 2 rfl (p_fieldAddr rfl rfl OfN.ok) ?_; (first | refine SS.ls 3 [9, 20] rfl ?_ | refine SS.tw 3 rfl (p_load_sR rfl rfl (by assumption) (by assumption) (by assumption)) ?_); refine SS.tw 4 rfl (p_move rfl rfl) ?_; (first | refine SS.tw 5 rfl (p_mul rfl rfl rfl (w64 (by omega))) ?_ | refine SS.tw 5 rfl (p_uar rfl rfl rfl) ?_); refine SS.tw 6 rfl (p_move rfl rfl) ?_; (first | refine SS.tw 7 rfl (p_mul rfl rfl rfl (w64 (by omega))) ?_ | refine SS.tw 7 rfl (p_uar rfl rfl rfl) ?_); (first | refine SS.tw 8 rfl (p_add rfl rfl rfl (w64 (by omega))) ?_ | refine SS.tw 8 rfl (p_uar rfl rfl rfl) ?_); refine SS.tw 9 rfl (p_sl11 rfl rfl rfl rfl (by omega) (by omega)) ?_; refine SS.tw 10 rfl (p_move rfl rfl) ?_; refine SS.tw 11 rfl (p_nil rfl rfl) ?_; refine SS.tw 12 rfl (p_fieldAddr rfl rfl OfN.ok) ?_; (first | refine SS.ls 13 [19, 20] rfl ?_ | refine SS.tw 13 rfl (p_load_sR rfl rfl (by assumption) (by assumption) (by assumption)) ?_); refine SS.tw 14 rfl (p_move rfl rfl) ?_; (first | refine SS.tw 15 rfl (p_mul rfl rfl rfl (w64 (by omega))) ?_ | refine SS.tw 15 rfl (p_uar rfl rfl rfl) ?_); refine SS.tw 16 rfl (p_move rfl rfl) ?_; (first | refine SS.tw 17 rfl (p_mul rfl rfl rfl (w64 (by omega))) ?_ | refine SS.tw 17 rfl (p_uar rfl rfl rfl) ?_); (first | refine SS.tw 18 rfl (p_add rfl rfl rfl (w64 (by omega))) ?_ | refine SS.tw 18 rfl (p_uar rfl rfl rfl) ?_); refine SS.tw 19 rfl (p_sl11 rfl rfl rfl rfl (by omega) (by omega)) ?_; refine SS.effB 20 ?_ rfl (by kernel_rfl))
          rw [show 8 * k + 8 - 8 * k = 8 by omega]
          refine W.cy (mm := 8) (fun w2 hs => SrcOf.own hs (b := bn) hrow hn8) ?_ (hfit := by omega)
          (refine SL.nilB ?_; refine SS.done ?_ (by kernel_rfl))
          rw [show u.now.map bv = u.fenced.lasts.map bv by rw [hfu], e1]
          (repeat' (first | refine W.mv ?_ | refine W.ls ?_ | refine W.fa ?_ | refine W.nl ?_ | refine W.as ?_ | refine W.ct ?_ | refine W.cf ?_ | refine W.ad ?_ | refine W.sb ?_ | refine W.ml ?_ | refine W.st ?_ | refine SL.nilB ?_ | refine SL.nil ?_ | refine W.ln ?_ | refine W.ix ?_ | refine W.lw ?_ | refine W.la ?_ | refine W.al fun b_ => ?_ | refine W.bx fun b_ => ?_ | refine W.bxa fun b_ => ?_ | refine W.sw ?_ | refine W.sa ?_ | refine W.pkt ?_ | refine W.pkf ?_ | refine W.ua ?_ | refine W.en ?_ | refine W.nn ?_ | refine W.es ?_ | refine W.ns ?_ | refine W.nt ?_ | refine W.fs ?_ | refine W.fg ?_ | refine W.bd ?_ | refine W.bda ?_ | refine W.mf ?_ | refine W.mx ?_ | refine W.mn ?_ | refine W.qu ?_ | refine W.rm ?_ | refine W.lr ?_ | refine W.lt ?_ | refine W.cp ?_ | refine W.ixa ?_ | refine W.sk ?_ | refine W.lsR (by assumption) ?_ | refine W.laR (by assumption) ?_ | refine W.eb ?_ | refine W.nb ?_ | refine W.ci ?_ | refine W.cv ?_ | refine W.s01 ?_ | refine W.s10 ?_ | refine W.s11 ?_ | refine W.s10e ?_ | refine W.sar ?_ | refine W.bs0 fun b_ => ?_ | refine W.ma fun b_ => ?_ | refine W.ex ?_ | refine W.bsl fun b_ => ?_ | refine W.mk ?_ | refine W.ett ?_ | refine W.est ?_ | refine W.nst ?_ | refine SW.seq ?_ | refine SW.region ?_ | refine SW.block ?_ | refine SW.cond_t rfl ?_ | refine SW.cond_f rfl ?_ | refine SW.exit ?_ | refine SW.ret ?_ | refine SW.skip ?_))
          rw [e2, e3]
          refine HandF.mk (k + 1) ?_
          omega
      · have : k = τ.ws.length := by omega
        subst this
        have hfl : (mapR Wd.fenced 0 τ.ws.length τ.ws).length = τ.ws.length := mapR_len _ _ _ _
        have hfo := mapR_ok (fun w => Wd.fenced_ok) 0 τ.ws.length hO.ok
        have q2 : rn (mapR Wd.fenced 0 τ.ws.length τ.ws) = rn τ.ws := mapR_fm (h := Wd.fenced) (fun w => w.now.map bv) (fun w => by rw [fenced_now]) _ _ _
        (repeat' (first | refine W.mv ?_ | refine W.ls ?_ | refine W.fa ?_ | refine W.nl ?_ | refine W.as ?_ | refine W.ct ?_ | refine W.cf ?_ | refine W.ad ?_ | refine W.sb ?_ | refine W.ml ?_ | refine W.st ?_ | refine SL.nilB ?_ | refine SL.nil ?_ | refine W.ln ?_ | refine W.ix ?_ | refine W.lw ?_ | refine W.la ?_ | refine W.al fun b_ => ?_ | refine W.bx fun b_ => ?_ | refine W.bxa fun b_ => ?_ | refine W.sw ?_ | refine W.sa ?_ | refine W.pkt ?_ | refine W.pkf ?_ | refine W.ua ?_ | refine W.en ?_ | refine W.nn ?_ | refine W.es ?_ | refine W.ns ?_ | refine W.nt ?_ | refine W.fs ?_ | refine W.fg ?_ | refine W.bd ?_ | refine W.bda ?_ | refine W.mf ?_ | refine W.mx ?_ | refine W.mn ?_ | refine W.qu ?_ | refine W.rm ?_ | refine W.lr ?_ | refine W.lt ?_ | refine W.cp ?_ | refine W.ixa ?_ | refine W.sk ?_ | refine W.lsR (by assumption) ?_ | refine W.laR (by assumption) ?_ | refine W.eb ?_ | refine W.nb ?_ | refine W.ci ?_ | refine W.cv ?_ | refine W.s01 ?_ | refine W.s10 ?_ | refine W.s11 ?_ | refine W.s10e ?_ | refine W.sar ?_ | refine W.bs0 fun b_ => ?_ | refine W.ma fun b_ => ?_ | refine W.ex ?_ | refine W.bsl fun b_ => ?_ | refine W.mk ?_ | refine W.ett ?_ | refine W.est ?_ | refine W.nst ?_ | refine SW.seq ?_ | refine SW.region ?_ | refine SW.block ?_ | refine SW.cond_t rfl ?_ | refine SW.cond_f rfl ?_ | refine SW.exit ?_ | refine SW.ret ?_ | refine SW.skip ?_))
        rw [mapR_all] at hfl hfo q2 ⊢
        refine Fin.to ((p, cl [.slice (some ⟨bl, 0, none⟩) τ.len τ.len, .slice (some ⟨bn, 0, none⟩) τ.len τ.len, .slice (some ⟨bp, 0, none⟩) τ.ws.length τ.ws.length, .slice (some ⟨bm, 0, none⟩) τ.ws.length τ.ws.length, .bool τ.down, .int .i64 τ.fuse, vp, va] 54) :: (bl, cl (rl (τ.ws.map Wd.fenced)) 5) :: (bn, cl (rn τ.ws) 5) :: (bp, cl (rp (τ.ws.map Wd.fenced)) 4) :: (bm, cl (rm (τ.ws.map Wd.fenced)) 4) :: (Hq ++ Ha)) ?_
        refine F.f1 ?_
        refine ⟨rfl, Dv.setWs_ok hO hfl hfo, bl, bn, bp, bm, vp, va, Hq, Ha, h2, h3, ?_⟩
        simp [Dv.setWs, Dv.len, q2]
    · (repeat' (first | refine W.mv ?_ | refine W.ls ?_ | refine W.fa ?_ | refine W.nl ?_ | refine W.as ?_ | refine W.ct ?_ | refine W.cf ?_ | refine W.ad ?_ | refine W.sb ?_ | refine W.ml ?_ | refine W.st ?_ | refine SL.nilB ?_ | refine SL.nil ?_ | refine W.ln ?_ | refine W.ix ?_ | refine W.lw ?_ | refine W.la ?_ | refine W.al fun b_ => ?_ | refine W.bx fun b_ => ?_ | refine W.bxa fun b_ => ?_ | refine W.sw ?_ | refine W.sa ?_ | refine W.pkt ?_ | refine W.pkf ?_ | refine W.ua ?_ | refine W.en ?_ | refine W.nn ?_ | refine W.es ?_ | refine W.ns ?_ | refine W.nt ?_ | refine W.fs ?_ | refine W.fg ?_ | refine W.bd ?_ | refine W.bda ?_ | refine W.mf ?_ | refine W.mx ?_ | refine W.mn ?_ | refine W.qu ?_ | refine W.rm ?_ | refine W.lr ?_ | refine W.lt ?_ | refine W.cp ?_ | refine W.ixa ?_ | refine W.sk ?_ | refine W.lsR (by assumption) ?_ | refine W.laR (by assumption) ?_ | refine W.eb ?_ | refine W.nb ?_ | refine W.ci ?_ | refine W.cv ?_ | refine W.s01 ?_ | refine W.s10 ?_ | refine W.s11 ?_ | refine W.s10e ?_ | refine W.sar ?_ | refine W.bs0 fun b_ => ?_ | refine W.ma fun b_ => ?_ | refine W.ex ?_ | refine W.bsl fun b_ => ?_ | refine W.mk ?_ | refine W.ett ?_ | refine W.est ?_ | refine W.nst ?_ | refine SW.seq ?_ | refine SW.region ?_ | refine SW.block ?_ | refine SW.cond_t rfl ?_ | refine SW.cond_f rfl ?_ | refine SW.exit ?_ | refine SW.ret ?_ | refine SW.skip ?_))
      refine F.f1 ?_
      have hres : σ.fence = σ.act (3, 0, 0) := by unfold Dv.fence; rw [if_pos h0, if_neg h1]
      have hresE : σ.actR 0 0 = σ.actE := by unfold Dv.actR; rw [if_pos h0]
      rw [hres, hresE]; refine ⟨rfl, ?_⟩; simp only [List.append_nil]; exact hD1
  · (repeat' (first | refine W.mv ?_ | refine W.ls ?_ | refine W.fa ?_ | refine W.nl ?_ | refine W.as ?_ | refine W.ct ?_ | refine W.cf ?_ | refine W.ad ?_ | refine W.sb ?_ | refine W.ml ?_ | refine W.st ?_ | refine SL.nilB ?_ | refine SL.nil ?_ | refine W.ln ?_ | refine W.ix ?_ | refine W.lw ?_ | refine W.la ?_ | refine W.al fun b_ => ?_ | refine W.bx fun b_ => ?_ | refine W.bxa fun b_ => ?_ | refine W.sw ?_ | refine W.sa ?_ | refine W.pkt ?_ | refine W.pkf ?_ | refine W.ua ?_ | refine W.en ?_ | refine W.nn ?_ | refine W.es ?_ | refine W.ns ?_ | refine W.nt ?_ | refine W.fs ?_ | refine W.fg ?_ | refine W.bd ?_ | refine W.bda ?_ | refine W.mf ?_ | refine W.mx ?_ | refine W.mn ?_ | refine W.qu ?_ | refine W.rm ?_ | refine W.lr ?_ | refine W.lt ?_ | refine W.cp ?_ | refine W.ixa ?_ | refine W.sk ?_ | refine W.lsR (by assumption) ?_ | refine W.laR (by assumption) ?_ | refine W.eb ?_ | refine W.nb ?_ | refine W.ci ?_ | refine W.cv ?_ | refine W.s01 ?_ | refine W.s10 ?_ | refine W.s11 ?_ | refine W.s10e ?_ | refine W.sar ?_ | refine W.bs0 fun b_ => ?_ | refine W.ma fun b_ => ?_ | refine W.ex ?_ | refine W.bsl fun b_ => ?_ | refine W.mk ?_ | refine W.ett ?_ | refine W.est ?_ | refine W.nst ?_ | refine SW.seq ?_ | refine SW.region ?_ | refine SW.block ?_ | refine SW.cond_t rfl ?_ | refine SW.cond_f rfl ?_ | refine SW.exit ?_ | refine SW.ret ?_ | refine SW.skip ?_))
    refine F.f1 ?_
    have hres : σ.fence = σ := by unfold Dv.fence; rw [if_neg h0]
    have hresE : σ.actR 0 0 = σ.rdy 0 0 := by unfold Dv.actR; rw [if_neg h0]
    rw [hres, hresE]; refine ⟨rfl, ?_⟩; simp only [List.append_nil]; exact hD
end Go.Proofs.Ytlpgegglobhclaa
