/- A copy of a tree; how many sums stand above some leaves, as the document has it. -/
import Derived.Test.YtieamijnajbcnaaS3
import Derived.Test.YtieamijnajbcnaaE3
set_option linter.unusedVariables false
set_option linter.unusedSimpArgs false
set_option linter.unusedSectionVars false
namespace Go.Proofs.Ytieamijnajbcnaa
open Go
attribute [local irreducible] SW SL SQ SH SA SS Pu Fin CutF HandF
open Pq

/-- A copy of a row. -/
theorem cloneD_p (r : List (List UInt8)) (hr : D32 r) (h1 : 1 ≤ r.length) (hn : r.length ≤ 1099511627) (v : Value) : Tri Try.prog 72 [v] [] (fun w => Rd [] w 32 v (cbs r.flatten)) (fun o H => Sl 25 32 o (cbs r.flatten) H) := by
  refine Tri.mk Try.func72 rfl Try.ntmps72 rfl fun w hw => ?_
  have hw2 := hw
  obtain ⟨a, cap, rfl, hc, hg⟩ := hw.row hr
  obtain ⟨b, o, l, T, fz, rfl, -⟩ := hg 0 _ (List.getElem?_eq_getElem (by omega))
  have hfl : (cbs r.flatten).length = r.length * 32 := by rw [cbs_len, flatN_len hr]
  (repeat' (first | refine W.mv ?_ | refine W.zl ?_ | refine W.fa ?_ | refine W.nl ?_ | refine W.as ?_ | refine W.zb ?_ | refine W.za ?_ | refine W.zi ?_ | refine W.zc ?_ | refine W.zp ?_ | refine W.st ?_ | refine SL.nilB ?_ | refine SL.nil ?_ | refine W.al fun b_ => ?_ | refine W.bx fun b_ => ?_ | refine W.bxa fun b_ => ?_ | refine W.sw ?_ | refine W.sa ?_ | refine W.sk ?_ | refine W.bs0 fun b_ => ?_ | refine W.ma fun b_ => ?_ | refine W.bsl fun b_ => ?_ | refine W.zu ?_ | refine W.zf ?_ | refine W.zd ?_ | refine W.zs ?_ | refine W.zv ?_ | refine W.zx ?_ | refine W.ex ?_ | refine W.mf ?_ | refine W.mk ?_ | refine SW.seq ?_ | refine SW.region ?_ | refine SW.block ?_ | refine SW.cond_t rfl ?_ | refine SW.cond_f rfl ?_ | refine SW.exit ?_ | refine SW.ret ?_ | refine SW.skip ?_))
  refine W.ap (ys := cbs r.flatten) (mm := r.length) (Sl.own 25 32 b_ (len := 0) (xs := []) rfl) (fun w2 hs => hw2.srcAt hs) (fun v1 H1 hv1 => ?_) (hys := hfl) (hbytes := by rw [hfl]; simp; omega)
  have h11 := hv1.isOne
  rw [List.nil_append] at hv1
  (repeat' (first | refine W.mv ?_ | refine W.zl ?_ | refine W.fa ?_ | refine W.nl ?_ | refine W.as ?_ | refine W.zb ?_ | refine W.za ?_ | refine W.zi ?_ | refine W.zc ?_ | refine W.zp ?_ | refine W.st ?_ | refine SL.nilB ?_ | refine SL.nil ?_ | refine W.al fun b_ => ?_ | refine W.bx fun b_ => ?_ | refine W.bxa fun b_ => ?_ | refine W.sw ?_ | refine W.sa ?_ | refine W.sk ?_ | refine W.bs0 fun b_ => ?_ | refine W.ma fun b_ => ?_ | refine W.bsl fun b_ => ?_ | refine W.zu ?_ | refine W.zf ?_ | refine W.zd ?_ | refine W.zs ?_ | refine W.zv ?_ | refine W.zx ?_ | refine W.ex ?_ | refine W.mf ?_ | refine W.mk ?_ | refine SW.seq ?_ | refine SW.region ?_ | refine SW.block ?_ | refine SW.cond_t rfl ?_ | refine SW.cond_f rfl ?_ | refine SW.exit ?_ | refine SW.ret ?_ | refine SW.skip ?_))
  refine Fin.to H1 ?_
  exact F.f1 hv1
theorem RowsP.snocSl {vs : List Value} {L : List (List (List UInt8))} {H H1 : Hp} (h : RowsP vs L H) {v : Value} {r : List (List UInt8)} (hv : Sl 25 32 v (cbs r.flatten) H1) (hr : D32 r) (hp : 1 ≤ r.length) : RowsP (vs ++ [v]) (L ++ [r]) (H ++ H1) := by
  rcases hv with ⟨rfl, h2, rfl⟩ | ⟨b, len, cap, junk, rfl, hx, hj, hlc, rfl⟩
  · have h3 := congrArg List.length h2
    rw [cbs_len, flatN_len hr, List.length_nil] at h3
    omega
  · obtain rfl : len = r.length := by rw [cbs_len, flatN_len hr] at hx; omega
    exact h.snoc ⟨b, cap, junk, r⟩ ⟨hr, by dsimp only; omega, hlc⟩
theorem b1s (a : Option Addr) (l c : Nat) : bfill (fun i => some (i * 1, 1)) (zs [.slice none 0 0] 1) [(0, .slice a l c)] = some [.slice a l c] := rfl
structure CS where
  d : Nat
  lv : Value
  vs : List Value
  Hl : Hp
  Hw : Hp
theorem Copy_p {t b : Nat} {l : List (List UInt8)} {Ht : Hp} (hT : TreeV t b l Ht) (hl : D32 l) (h1 : 1 ≤ l.length) (h2 : l.length ≤ 1024) : Tri Try.prog 44 [.pointer (some ⟨t, 0, none⟩)] Ht (fun _ => True)
    (fun v H' => ∃ c Hc, v = .pointer (some ⟨c, 0, none⟩) ∧ H' = Ht ++ Hc ∧ TreeV c b l Hc) := by
  have hd10 := dep_max (n := l.length) (k := 10) (by simpa using h2)
  obtain ⟨lb, lc, vs, lj, Hw, rfl, hrw, hvl, hlc⟩ := hT.open (by simp [rowsV])
  have hLl : (rowsV l (dep l.length) (dep l.length + 1)).length = dep l.length + 1 := by simp [rowsV]
  rw [hLl] at hlc hvl ⊢
  unfold TreeV
  refine Tri.mk Try.func44 rfl Try.ntmps44 rfl fun w hw => ?_
  generalize hD : dep l.length = D at *
  have hbf : bfill (fun i => [(0, 1), (1, 1), (2, 1)][i]?) ([.pointer none] ++ [.int .i64 0] ++ [.slice none 0 0]) [(0, .pointer (some ⟨b, 0, none⟩)), (1, .int .i64 (l.length : Int))] = some [.pointer (some ⟨b, 0, none⟩), .int .i64 (l.length : Int), .slice none 0 0] := rfl
  (repeat' (first | refine W.mv ?_ | refine W.zl ?_ | refine W.fa ?_ | refine W.nl ?_ | refine W.as ?_ | refine W.zb ?_ | refine W.za ?_ | refine W.zi ?_ | refine W.zc ?_ | refine W.zp ?_ | refine W.st ?_ | refine SL.nilB ?_ | refine SL.nil ?_ | refine W.al fun b_ => ?_ | refine W.bx fun b_ => ?_ | refine W.bxa fun b_ => ?_ | refine W.sw ?_ | refine W.sa ?_ | refine W.sk ?_ | refine W.bs0 fun b_ => ?_ | refine W.ma fun b_ => ?_ | refine W.bsl fun b_ => ?_ | refine W.zu ?_ | refine W.zf ?_ | refine W.zd ?_ | refine W.zs ?_ | refine W.zv ?_ | refine W.zx ?_ | refine W.ex ?_ | refine W.mf ?_ | refine W.mk ?_ | refine SW.seq ?_ | refine SW.region ?_ | refine SW.block ?_ | refine SW.cond_t rfl ?_ | refine SW.cond_f rfl ?_ | refine SW.exit ?_ | refine SW.ret ?_ | refine SW.skip ?_))
  (refine SW.regionS [9] ?_ (by kernel_rfl); refine SS.tw 0 rfl (p_move rfl rfl) ?_; refine SS.tw 1 rfl (p_nil rfl rfl) ?_; refine SS.tw 2 rfl (p_fieldAddr rfl rfl OfN.ok) ?_; (first | refine SS.ls 3 [8, 9] rfl ?_ | refine SS.tw 3 rfl (p_load_sR rfl rfl (by assumption) (by assumption) (by assumption)) ?_); refine SS.tw 4 rfl (p_move rfl rfl) ?_; refine SS.tw 5 rfl (p_nil rfl rfl) ?_; refine SS.tw 6 rfl (p_fieldAddr rfl rfl OfN.ok) ?_; (first | refine SS.ls 7 [8, 9] rfl ?_ | refine SS.tw 7 rfl (p_load_sR rfl rfl (by assumption) (by assumption) (by assumption)) ?_); refine SS.tw 8 rfl (p_build rfl rfl (by first | assumption | rfl)) ?_; refine SS.effB 9 ?_ rfl (by kernel_rfl); (repeat' (first | refine W.mv ?_ | refine W.zl ?_ | refine W.fa ?_ | refine W.nl ?_ | refine W.as ?_ | refine W.zb ?_ | refine W.za ?_ | refine W.zi ?_ | refine W.zc ?_ | refine W.zp ?_ | refine W.st ?_ | refine SL.nilB ?_ | refine SL.nil ?_ | refine W.al fun b_ => ?_ | refine W.bx fun b_ => ?_ | refine W.bxa fun b_ => ?_ | refine W.sw ?_ | refine W.sa ?_ | refine W.sk ?_ | refine W.bs0 fun b_ => ?_ | refine W.ma fun b_ => ?_ | refine W.bsl fun b_ => ?_ | refine W.zu ?_ | refine W.zf ?_ | refine W.zd ?_ | refine W.zs ?_ | refine W.zv ?_ | refine W.zx ?_ | refine W.ex ?_ | refine W.mf ?_ | refine W.mk ?_)); refine SS.tw 10 rfl (p_assign rfl rfl) ?_; refine SS.done ?_ (by kernel_rfl))
  (repeat' (first | refine W.mv ?_ | refine W.zl ?_ | refine W.fa ?_ | refine W.nl ?_ | refine W.as ?_ | refine W.zb ?_ | refine W.za ?_ | refine W.zi ?_ | refine W.zc ?_ | refine W.zp ?_ | refine W.st ?_ | refine SL.nilB ?_ | refine SL.nil ?_ | refine W.al fun b_ => ?_ | refine W.bx fun b_ => ?_ | refine W.bxa fun b_ => ?_ | refine W.sw ?_ | refine W.sa ?_ | refine W.sk ?_ | refine W.bs0 fun b_ => ?_ | refine W.ma fun b_ => ?_ | refine W.bsl fun b_ => ?_ | refine W.zu ?_ | refine W.zf ?_ | refine W.zd ?_ | refine W.zs ?_ | refine W.zv ?_ | refine W.zx ?_ | refine W.ex ?_ | refine W.mf ?_ | refine W.mk ?_ | refine SW.seq ?_ | refine SW.region ?_ | refine SW.cond_t rfl ?_ | refine SW.cond_f rfl ?_ | refine SW.exit ?_ | refine SW.ret ?_ | refine SW.skip ?_))
  refine SW.cutH [3] [(b_, cl [.pointer (some ⟨b, 0, none⟩), .int .i64 (l.length : Int), .slice none 0 0] 87)] (fun x : CS => []) (fun x => (b_, cl [.pointer (some ⟨b, 0, none⟩), .int .i64 (l.length : Int), x.lv] 87) :: (x.Hl ++ x.Hw)) (fun x => Sl 38 1 x.lv x.vs x.Hl ∧ RowsP x.vs (rowsV l D (D + 1)) x.Hw) ?_ ?_
  rotate_left
  · rintro ⟨d, lv, vs2, Hl, Hw2⟩ ⟨hlv, hrw2⟩
    dsimp only at hlv hrw2 ⊢
    (repeat' (first | refine W.mv ?_ | refine W.zl ?_ | refine W.fa ?_ | refine W.nl ?_ | refine W.as ?_ | refine W.zb ?_ | refine W.za ?_ | refine W.zi ?_ | refine W.zc ?_ | refine W.zp ?_ | refine W.st ?_ | refine SL.nilB ?_ | refine SL.nil ?_ | refine W.al fun b_ => ?_ | refine W.bx fun b_ => ?_ | refine W.bxa fun b_ => ?_ | refine W.sw ?_ | refine W.sa ?_ | refine W.sk ?_ | refine W.bs0 fun b_ => ?_ | refine W.ma fun b_ => ?_ | refine W.bsl fun b_ => ?_ | refine W.zu ?_ | refine W.zf ?_ | refine W.zd ?_ | refine W.zs ?_ | refine W.zv ?_ | refine W.zx ?_ | refine W.ex ?_ | refine W.mf ?_ | refine W.mk ?_ | refine SW.seq ?_ | refine SW.region ?_ | refine SW.block ?_ | refine SW.cond_t rfl ?_ | refine SW.cond_f rfl ?_ | refine SW.exit ?_ | refine SW.ret ?_ | refine SW.skip ?_))
    refine Fin.to (((t, cl [.pointer (some ⟨b, 0, none⟩), .int .i64 (l.length : Int), .slice (some ⟨lb, 0, none⟩) (D + 1) lc] 87) :: ([(lb, cl (vs ++ lj) 38)] ++ Hw)) ++ ((b_, cl [.pointer (some ⟨b, 0, none⟩), .int .i64 (l.length : Int), lv] 87) :: (Hl ++ Hw2))) ?_
    refine F.f1 ?_
    exact ⟨b_, _, rfl, rfl, lv, vs2, Hl, Hw2, rfl, hlv, hrw2⟩
  · (repeat' (first | refine W.mv ?_ | refine W.zl ?_ | refine W.fa ?_ | refine W.nl ?_ | refine W.as ?_ | refine W.zb ?_ | refine W.za ?_ | refine W.zi ?_ | refine W.zc ?_ | refine W.zp ?_ | refine W.st ?_ | refine SL.nilB ?_ | refine SL.nil ?_ | refine W.al fun b_ => ?_ | refine W.bx fun b_ => ?_ | refine W.bxa fun b_ => ?_ | refine W.sw ?_ | refine W.sa ?_ | refine W.sk ?_ | refine W.bs0 fun b_ => ?_ | refine W.ma fun b_ => ?_ | refine W.bsl fun b_ => ?_ | refine W.zu ?_ | refine W.zf ?_ | refine W.zd ?_ | refine W.zs ?_ | refine W.zv ?_ | refine W.zx ?_ | refine W.ex ?_ | refine W.mf ?_ | refine W.mk ?_ | refine SW.seq ?_ | refine SW.region ?_ | refine SW.block ?_ | refine SW.cond_t rfl ?_ | refine SW.cond_f rfl ?_ | refine SW.exit ?_ | refine SW.ret ?_ | refine SW.skip ?_))
    refine SW.loopF [3, 21, 22] (fun x : CS => [(23, .int .i64 (x.d : Int))]) (fun x => (b_, cl [.pointer (some ⟨b, 0, none⟩), .int .i64 (l.length : Int), x.lv] 87) :: (x.Hl ++ x.Hw)) (fun x => D + 1 - x.d) (fun x => x.d ≤ D + 1 ∧ Sl 38 1 x.lv x.vs x.Hl ∧ RowsP x.vs (rowsV l D x.d) x.Hw) ⟨0, .slice none 0 0, [], [], []⟩ ⟨Nat.zero_le _, Sl.nil _ _, RowsP.nil⟩ ?_
    rintro ⟨d, lv, vs2, Hl, Hw2⟩ ⟨hd, hlv, hrw2⟩
    dsimp only at hd hlv hrw2 ⊢
    have hv1 := hlv.isOne
    by_cases hdD : d < D + 1
    · have hXm : 2 ^ (D - d) ≤ 1024 := Nat.pow_le_pow_right (n := 2) (by omega) (show D - d ≤ 10 by omega)
      have hXp : 0 < 2 ^ (D - d) := Nat.pow_pos (by omega)
      have hrl := rowV_len l D d
      have hr32 := rowV_32 hl D d
      obtain ⟨rb, rc, rj, hv, hat, -, hrc⟩ := hrw.get (rowsV_get l (D := D) hdD)
      have hv2 := app_get (lj := lj) hv
      have hcl := cloneD_p (rowV l D d) hr32 (by omega) (by omega) (.slice (some ⟨rb, 0, none⟩) (rowV l D d).length rc)
      have hnx := rowsV_next l D d
      have hrl2 := hrw2.len
      have hlen2 : vs2.length = d := by rw [hrl2]; simp [rowsV]
      have hfl : (cbs (rowV l D d).flatten).length = (rowV l D d).length * 32 := by rw [cbs_len, flatN_len hr32]
      generalize rowV l D d = R at *
      (repeat' (first | refine W.mv ?_ | refine W.zl ?_ | refine W.fa ?_ | refine W.nl ?_ | refine W.as ?_ | refine W.zb ?_ | refine W.za ?_ | refine W.zi ?_ | refine W.zc ?_ | refine W.zp ?_ | refine W.st ?_ | refine SL.nilB ?_ | refine SL.nil ?_ | refine W.al fun b_ => ?_ | refine W.bx fun b_ => ?_ | refine W.bxa fun b_ => ?_ | refine W.sw ?_ | refine W.sa ?_ | refine W.sk ?_ | refine W.bs0 fun b_ => ?_ | refine W.ma fun b_ => ?_ | refine W.bsl fun b_ => ?_ | refine W.zu ?_ | refine W.zf ?_ | refine W.zd ?_ | refine W.zs ?_ | refine W.zv ?_ | refine W.zx ?_ | refine W.ex ?_ | refine W.mf ?_ | refine W.mk ?_ | refine SW.seq ?_ | refine SW.region ?_ | refine SW.block ?_ | refine SW.cond_t rfl ?_ | refine SW.cond_f rfl ?_ | refine SW.exit ?_ | refine SW.ret ?_ | refine SW.skip ?_))
      (refine SW.regionS [8, 11] ?_ (by kernel_rfl); refine SS.tw 0 rfl (p_move rfl rfl) ?_; refine SS.tw 1 rfl (p_move rfl rfl) ?_; refine SS.tw 2 rfl (p_nil rfl rfl) ?_; refine SS.tw 3 rfl (p_fieldAddr rfl rfl OfN.ok) ?_; (first | refine SS.ls 4 [8, 11] rfl ?_ | refine SS.tw 4 rfl (p_load_sR rfl rfl (by assumption) (by assumption) (by assumption)) ?_); refine SS.tw 5 rfl (p_move rfl rfl) ?_; refine SS.effK 6 ?_ rfl (by kernel_rfl))
      refine W.call hcl ?_ rfl (fun w2 hs => ?_)
      rotate_left
      · exact Rd.at (T := 25) (fz := (0, 0)) [] hs (l := cbs R.flatten ++ rj) (o := 0) (by rw [List.drop_zero, ← hfl, List.take_left']; rfl) hfl hrc
      intro cv H1 hcv
      have hcv1 := hcv.isOne
      obtain ⟨ca, cl2, cc, rfl, -⟩ := hcv.form
      have hrn := hrw2.snocSl hcv hr32 (by omega)
      rw [hnx] at hrn
      (refine SL.nilB ?_; refine SS.effK 7 ?_ rfl (by kernel_rfl))
      refine W.bsl (fun b7 => ?_) (hr := b1s ..)
      (refine SL.nilB ?_; refine SS.effB 8 ?_ rfl (by kernel_rfl))
      refine W.ap (ys := [.slice ca cl2 cc]) (mm := 1) hlv (fun w2 hs => (Sl.own 38 1 b7 (xs := [.slice ca cl2 cc]) rfl).srcAt hs inferInstance) (fun lv2 Hl2 hv3 => ?_) (hys := rfl) (hbytes := by simp; omega)
      have h21 := hv3.isOne
      (refine SL.nilB ?_; refine SS.tw 9 rfl (p_nil rfl rfl) ?_; refine SS.tw 10 rfl (p_fieldAddr rfl rfl OfN.ok) ?_; refine SS.effB 11 ?_ rfl (by kernel_rfl); (repeat' (first | refine W.mv ?_ | refine W.zl ?_ | refine W.fa ?_ | refine W.nl ?_ | refine W.as ?_ | refine W.zb ?_ | refine W.za ?_ | refine W.zi ?_ | refine W.zc ?_ | refine W.zp ?_ | refine W.st ?_ | refine SL.nilB ?_ | refine SL.nil ?_ | refine W.al fun b_ => ?_ | refine W.bx fun b_ => ?_ | refine W.bxa fun b_ => ?_ | refine W.sw ?_ | refine W.sa ?_ | refine W.sk ?_ | refine W.bs0 fun b_ => ?_ | refine W.ma fun b_ => ?_ | refine W.bsl fun b_ => ?_ | refine W.zu ?_ | refine W.zf ?_ | refine W.zd ?_ | refine W.zs ?_ | refine W.zv ?_ | refine W.zx ?_ | refine W.ex ?_ | refine W.mf ?_ | refine W.mk ?_)); refine SS.done ?_ (by kernel_rfl))
      rw [show ([.pointer (some ⟨b, 0, none⟩), .int .i64 (l.length : Int), lv] : List Value).set 2 lv2 = [.pointer (some ⟨b, 0, none⟩), .int .i64 (l.length : Int), lv2] from rfl]
      (repeat' (first | refine W.mv ?_ | refine W.zl ?_ | refine W.fa ?_ | refine W.nl ?_ | refine W.as ?_ | refine W.zb ?_ | refine W.za ?_ | refine W.zi ?_ | refine W.zc ?_ | refine W.zp ?_ | refine W.st ?_ | refine SL.nilB ?_ | refine SL.nil ?_ | refine W.al fun b_ => ?_ | refine W.bx fun b_ => ?_ | refine W.bxa fun b_ => ?_ | refine W.sw ?_ | refine W.sa ?_ | refine W.sk ?_ | refine W.bs0 fun b_ => ?_ | refine W.ma fun b_ => ?_ | refine W.bsl fun b_ => ?_ | refine W.zu ?_ | refine W.zf ?_ | refine W.zd ?_ | refine W.zs ?_ | refine W.zv ?_ | refine W.zx ?_ | refine W.ex ?_ | refine W.mf ?_ | refine W.mk ?_ | refine SW.seq ?_ | refine SW.region ?_ | refine SW.block ?_ | refine SW.cond_t rfl ?_ | refine SW.cond_f rfl ?_ | refine SW.exit ?_ | refine SW.ret ?_ | refine SW.skip ?_))
      refine HandF.mk ⟨d + 1, lv2, vs2 ++ [.slice ca cl2 cc], Hl2, Hw2 ++ H1⟩ ?_
      exact ⟨hdD, hv3, hrn⟩
    · have hd2 : d = D + 1 := by omega
      subst hd2
      (repeat' (first | refine W.mv ?_ | refine W.zl ?_ | refine W.fa ?_ | refine W.nl ?_ | refine W.as ?_ | refine W.zb ?_ | refine W.za ?_ | refine W.zi ?_ | refine W.zc ?_ | refine W.zp ?_ | refine W.st ?_ | refine SL.nilB ?_ | refine SL.nil ?_ | refine W.al fun b_ => ?_ | refine W.bx fun b_ => ?_ | refine W.bxa fun b_ => ?_ | refine W.sw ?_ | refine W.sa ?_ | refine W.sk ?_ | refine W.bs0 fun b_ => ?_ | refine W.ma fun b_ => ?_ | refine W.bsl fun b_ => ?_ | refine W.zu ?_ | refine W.zf ?_ | refine W.zd ?_ | refine W.zs ?_ | refine W.zv ?_ | refine W.zx ?_ | refine W.ex ?_ | refine W.mf ?_ | refine W.mk ?_ | refine SW.seq ?_ | refine SW.region ?_ | refine SW.block ?_ | refine SW.cond_t rfl ?_ | refine SW.cond_f rfl ?_ | refine SW.exit ?_ | refine SW.ret ?_ | refine SW.skip ?_))
      refine CutF.mk ⟨D + 1, lv, vs2, Hl, Hw2⟩ ?_
      exact ⟨hlv, hrw2⟩
end Go.Proofs.Ytieamijnajbcnaa
