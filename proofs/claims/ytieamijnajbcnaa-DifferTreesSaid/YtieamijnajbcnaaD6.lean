/- What a tree tells of itself. -/
import Derived.Test.YtieamijnajbcnaaD5
set_option linter.unusedVariables false
set_option linter.unusedSimpArgs false
namespace Go.Proofs.Ytieamijnajbcnaa
open Go
attribute [local irreducible] SW SL SQ SH SA SS Pu Fin CutF HandF

abbrev TreeV (t b : Nat) (l : List (List UInt8)) (H : Hp) : Prop := TreeP t b l.length (rowsV l (dep l.length) (dep l.length + 1)) H
theorem rowsV_get (l : List (List UInt8)) {D k d : Nat} (h : d < k) : (rowsV l D k)[d]? = some (rowV l D d) := by simp [rowsV, h]
theorem RowsP.get {vs : List Value} {L : List (List (List UInt8))} {H : Hp} (h : RowsP vs L H) {d : Nat} {r : List (List UInt8)} (hd : L[d]? = some r) :
    ∃ (rb cap : Nat) (junk : List Value), vs[d]? = some (.slice (some ⟨rb, 0, none⟩) r.length cap) ∧ At H rb (cl (cbs r.flatten ++ junk) 25) ∧ D32 r ∧ r.length ≤ cap := by
  obtain ⟨ws, rfl, rfl, rfl, h4⟩ := h
  rw [List.getElem?_map] at hd
  obtain ⟨w, hw, rfl⟩ := Option.map_eq_some_iff.1 hd
  have hm := List.mem_of_getElem? hw
  exact ⟨w.b, w.cap, w.junk, by rw [List.getElem?_map, hw]; rfl, ⟨List.mem_map.2 ⟨w, hm, rfl⟩⟩, (h4 w hm).1, (h4 w hm).2.2⟩
/-- One row of a tree, as the program finds it. -/
theorem TreeP.open {t b n : Nat} {L : List (List (List UInt8))} {H : Hp} (h : TreeP t b n L H) (hL : 0 < L.length) :
    ∃ (lb lc : Nat) (vs lj : List Value) (Hw : Hp), H = (t, cl [.pointer (some ⟨b, 0, none⟩), .int .i64 (n : Int), .slice (some ⟨lb, 0, none⟩) L.length lc] 87) :: ([(lb, cl (vs ++ lj) 38)] ++ Hw) ∧ RowsP vs L Hw ∧ vs.length = L.length ∧ L.length ≤ lc := by
  obtain ⟨lv, vs, Hl, Hw, rfl, hlv, hrw⟩ := h
  have hv := hrw.len
  rcases hlv with ⟨rfl, rfl, rfl⟩ | ⟨lb, len, cap, junk, rfl, hx, hj, hlc, rfl⟩
  · simp at hv; omega
  · obtain rfl : len = L.length := by omega
    exact ⟨lb, cap, vs, junk, Hw, rfl, hrw, hv, hlc⟩
theorem app_get {vs lj : List Value} {d : Nat} {v : Value} (h : vs[d]? = some v) : (vs ++ lj)[d]? = some v := by
  rw [List.getElem?_append_left (List.getElem?_eq_some_iff.1 h).1]; exact h
theorem cbs_getJ {L : List (List UInt8)} {junk : List Value} {x : List UInt8} {n : Nat} (h : ∀ x ∈ L, x.length = n) {i : Nat} (hi : L[i]? = some x) : ((cbs L.flatten ++ junk).drop (i * n)).take n = cbs x := by
  have hlt := (List.getElem?_eq_some_iff.1 hi).1
  have hl : (cbs L.flatten).length = L.length * n := by rw [cbs_len, flatN_len h]
  have h2 : (i + 1) * n ≤ L.length * n := Nat.mul_le_mul_right n hlt
  rw [Nat.succ_mul] at h2
  rw [List.drop_append_of_le_length (by omega), List.take_append_of_le_length (by rw [List.length_drop]; omega)]
  exact cbs_get h hi
theorem Len_nil : Tri Try.prog 22 [.pointer none] [] (fun _ => True) (fun v H => v = .int .i64 0 ∧ H = []) := by
  refine Tri.mk Try.func22 rfl Try.ntmps22 rfl fun w hw => ?_
  (repeat' (first | refine W.mv ?_ | refine W.zl ?_ | refine W.fa ?_ | refine W.nl ?_ | refine W.as ?_ | refine W.zb ?_ | refine W.za ?_ | refine W.zi ?_ | refine W.zc ?_ | refine W.zp ?_ | refine W.st ?_ | refine SL.nilB ?_ | refine SL.nil ?_ | refine W.al fun b_ => ?_ | refine W.bx fun b_ => ?_ | refine W.bxa fun b_ => ?_ | refine W.sw ?_ | refine W.sa ?_ | refine W.sk ?_ | refine W.bs0 fun b_ => ?_ | refine W.ma fun b_ => ?_ | refine W.bsl fun b_ => ?_ | refine W.zu ?_ | refine W.zf ?_ | refine W.zd ?_ | refine W.zs ?_ | refine W.zv ?_ | refine W.zx ?_ | refine W.ex ?_ | refine W.mf ?_ | refine W.mk ?_ | refine SW.seq ?_ | refine SW.region ?_ | refine SW.block ?_ | refine SW.cond_t rfl ?_ | refine SW.cond_f rfl ?_ | refine SW.exit ?_ | refine SW.ret ?_ | refine SW.skip ?_))
  exact F.f1 ⟨rfl, rfl⟩
theorem Len_p {t b n : Nat} {L : List (List (List UInt8))} {H : Hp} (hT : TreeP t b n L H) : Tri Try.prog 22 [.pointer (some ⟨t, 0, none⟩)] H (fun _ => True) (fun v H' => v = .int .i64 (n : Int) ∧ H' = H) := by
  obtain ⟨lv, vs, Hl, Hw, rfl, hlv, hrw⟩ := hT
  have h1 := hlv.isOne
  refine Tri.mk Try.func22 rfl Try.ntmps22 rfl fun w hw => ?_
  (repeat' (first | refine W.mv ?_ | refine W.zl ?_ | refine W.fa ?_ | refine W.nl ?_ | refine W.as ?_ | refine W.zb ?_ | refine W.za ?_ | refine W.zi ?_ | refine W.zc ?_ | refine W.zp ?_ | refine W.st ?_ | refine SL.nilB ?_ | refine SL.nil ?_ | refine W.al fun b_ => ?_ | refine W.bx fun b_ => ?_ | refine W.bxa fun b_ => ?_ | refine W.sw ?_ | refine W.sa ?_ | refine W.sk ?_ | refine W.bs0 fun b_ => ?_ | refine W.ma fun b_ => ?_ | refine W.bsl fun b_ => ?_ | refine W.zu ?_ | refine W.zf ?_ | refine W.zd ?_ | refine W.zs ?_ | refine W.zv ?_ | refine W.zx ?_ | refine W.ex ?_ | refine W.mf ?_ | refine W.mk ?_ | refine SW.seq ?_ | refine SW.region ?_ | refine SW.block ?_ | refine SW.cond_t rfl ?_ | refine SW.cond_f rfl ?_ | refine SW.exit ?_ | refine SW.ret ?_ | refine SW.skip ?_))
  refine Fin.to ((t, cl [.pointer (some ⟨b, 0, none⟩), .int .i64 (n : Int), lv] 87) :: (Hl ++ Hw)) ?_
  exact F.f1 ⟨rfl, rfl⟩
theorem Depth_nil : Tri Try.prog 26 [.pointer none] [] (fun _ => True) (fun v H => v = .int .i64 0 ∧ H = []) := by
  refine Tri.mk Try.func26 rfl Try.ntmps26 rfl fun w hw => ?_
  (repeat' (first | refine W.mv ?_ | refine W.zl ?_ | refine W.fa ?_ | refine W.nl ?_ | refine W.as ?_ | refine W.zb ?_ | refine W.za ?_ | refine W.zi ?_ | refine W.zc ?_ | refine W.zp ?_ | refine W.st ?_ | refine SL.nilB ?_ | refine SL.nil ?_ | refine W.al fun b_ => ?_ | refine W.bx fun b_ => ?_ | refine W.bxa fun b_ => ?_ | refine W.sw ?_ | refine W.sa ?_ | refine W.sk ?_ | refine W.bs0 fun b_ => ?_ | refine W.ma fun b_ => ?_ | refine W.bsl fun b_ => ?_ | refine W.zu ?_ | refine W.zf ?_ | refine W.zd ?_ | refine W.zs ?_ | refine W.zv ?_ | refine W.zx ?_ | refine W.ex ?_ | refine W.mf ?_ | refine W.mk ?_ | refine SW.seq ?_ | refine SW.region ?_ | refine SW.block ?_ | refine SW.cond_t rfl ?_ | refine SW.cond_f rfl ?_ | refine SW.exit ?_ | refine SW.ret ?_ | refine SW.skip ?_))
  exact F.f1 ⟨rfl, rfl⟩
theorem Depth_p {t b n : Nat} {L : List (List (List UInt8))} {H : Hp} (hT : TreeP t b n L H) (hL : 0 < L.length) (hm : L.length ≤ 1099511627776) : Tri Try.prog 26 [.pointer (some ⟨t, 0, none⟩)] H (fun _ => True) (fun v H' => v = .int .i64 ((L.length - 1 : Nat) : Int) ∧ H' = H) := by
  obtain ⟨lb, lc, vs, lj, Hw, rfl, hrw, hvl, hlc⟩ := hT.open hL
  refine Tri.mk Try.func26 rfl Try.ntmps26 rfl fun w hw => ?_
  (repeat' (first | refine W.mv ?_ | refine W.zl ?_ | refine W.fa ?_ | refine W.nl ?_ | refine W.as ?_ | refine W.zb ?_ | refine W.za ?_ | refine W.zi ?_ | refine W.zc ?_ | refine W.zp ?_ | refine W.st ?_ | refine SL.nilB ?_ | refine SL.nil ?_ | refine W.al fun b_ => ?_ | refine W.bx fun b_ => ?_ | refine W.bxa fun b_ => ?_ | refine W.sw ?_ | refine W.sa ?_ | refine W.sk ?_ | refine W.bs0 fun b_ => ?_ | refine W.ma fun b_ => ?_ | refine W.bsl fun b_ => ?_ | refine W.zu ?_ | refine W.zf ?_ | refine W.zd ?_ | refine W.zs ?_ | refine W.zv ?_ | refine W.zx ?_ | refine W.ex ?_ | refine W.mf ?_ | refine W.mk ?_ | refine SW.seq ?_ | refine SW.region ?_ | refine SW.block ?_ | refine SW.cond_t rfl ?_ | refine SW.cond_f rfl ?_ | refine SW.exit ?_ | refine SW.ret ?_ | refine SW.skip ?_))
  refine Fin.to ((t, cl [.pointer (some ⟨b, 0, none⟩), .int .i64 (n : Int), .slice (some ⟨lb, 0, none⟩) L.length lc] 87) :: ([(lb, cl (vs ++ lj) 38)] ++ Hw)) ?_
  refine F.f1 ?_
  exact ⟨by rw [show ((L.length - 1 : Nat) : Int) = (L.length : Int) - 1 by omega], rfl⟩
theorem Root_nil : Tri Try.prog 20 [.pointer none] [] (fun _ => True) (fun v H => v = dgV z32 ∧ H = []) := by
  refine Tri.mk Try.func20 rfl Try.ntmps20 rfl fun w hw => ?_
  (repeat' (first | refine W.mv ?_ | refine W.zl ?_ | refine W.fa ?_ | refine W.nl ?_ | refine W.as ?_ | refine W.zb ?_ | refine W.za ?_ | refine W.zi ?_ | refine W.zc ?_ | refine W.zp ?_ | refine W.st ?_ | refine SL.nilB ?_ | refine SL.nil ?_ | refine W.al fun b_ => ?_ | refine W.bx fun b_ => ?_ | refine W.bxa fun b_ => ?_ | refine W.sw ?_ | refine W.sa ?_ | refine W.sk ?_ | refine W.bs0 fun b_ => ?_ | refine W.ma fun b_ => ?_ | refine W.bsl fun b_ => ?_ | refine W.zu ?_ | refine W.zf ?_ | refine W.zd ?_ | refine W.zs ?_ | refine W.zv ?_ | refine W.zx ?_ | refine W.ex ?_ | refine W.mf ?_ | refine W.mk ?_ | refine SW.seq ?_ | refine SW.region ?_ | refine SW.block ?_ | refine SW.cond_t rfl ?_ | refine SW.cond_f rfl ?_ | refine SW.exit ?_ | refine SW.ret ?_ | refine SW.skip ?_))
  exact F.c0 (cbs z32) ⟨rfl, rfl⟩
theorem RootG_p {t b tp n D : Nat} {s : Bk} {L : List (List (List UInt8))} {r : List (List UInt8)} {x : List UInt8} {Ht Hb : Hp} (hT : TreeP t b n L Ht) (hB : BookP b tp s Hb) (hL : L.length = D + 1) (hr : L[D]? = some r) (hx : r[0]? = some x) (hm : D ≤ 1099511627776) :
    Tri Try.prog 20 [.pointer (some ⟨t, 0, none⟩)] (Ht ++ Hb) (fun _ => True) (fun v H' => ∃ Hb', v = dgV (Sha.sum (rootT n x)) ∧ H' = Ht ++ Hb' ∧ BookP b tp (s.add (rootT n x)) Hb') := by
  obtain ⟨lb, lc, vs, lj, Hw, rfl, hrw, hvl, hlc⟩ := hT.open (by omega)
  obtain ⟨rb, rc, rj, hv, hat, hr32, hrc⟩ := hrw.get hr
  have hrl := (List.getElem?_eq_some_iff.1 hx).1
  have hv2 := app_get (lj := lj) hv
  have hg := cbs_getJ (junk := rj) hr32 hx
  rw [Nat.zero_mul] at hg
  have hx32 := hr32 x (List.mem_of_getElem? hx)
  have hc := cl32 hx32
  rw [hL] at hlc hvl ⊢
  refine Tri.mk Try.func20 rfl Try.ntmps20 rfl fun w hw => ?_
  haveI i1 : NatI (((D + 1 : Nat) : Int) - 1) D := ⟨by omega⟩
  have hrr := cl32 (Sha.sum_len (rootT n x))
  (repeat' (first | refine W.mv ?_ | refine W.zl ?_ | refine W.fa ?_ | refine W.nl ?_ | refine W.as ?_ | refine W.zb ?_ | refine W.za ?_ | refine W.zi ?_ | refine W.zc ?_ | refine W.zp ?_ | refine W.st ?_ | refine SL.nilB ?_ | refine SL.nil ?_ | refine W.al fun b_ => ?_ | refine W.bx fun b_ => ?_ | refine W.bxa fun b_ => ?_ | refine W.sw ?_ | refine W.sa ?_ | refine W.sk ?_ | refine W.bs0 fun b_ => ?_ | refine W.ma fun b_ => ?_ | refine W.bsl fun b_ => ?_ | refine W.zu ?_ | refine W.zf ?_ | refine W.zd ?_ | refine W.zs ?_ | refine W.zv ?_ | refine W.zx ?_ | refine W.ex ?_ | refine W.mf ?_ | refine W.mk ?_ | refine SW.seq ?_ | refine SW.region ?_ | refine SW.block ?_ | refine SW.cond_t rfl ?_ | refine SW.cond_f rfl ?_ | refine SW.exit ?_ | refine SW.ret ?_ | refine SW.skip ?_))
  (refine SW.regionS [22, 23] ?_ (by kernel_rfl); refine SS.tw 0 rfl (p_move rfl rfl) ?_; refine SS.tw 1 rfl (p_nil rfl rfl) ?_; refine SS.tw 2 rfl (p_fieldAddr rfl rfl OfN.ok) ?_; (first | refine SS.ls 3 [22, 23] rfl ?_ | refine SS.tw 3 rfl (p_load_sR rfl rfl (by assumption) (by assumption) (by assumption)) ?_); refine SS.tw 4 rfl (p_move rfl rfl) ?_; refine SS.tw 5 rfl (p_nil rfl rfl) ?_; refine SS.tw 6 rfl (p_fieldAddr rfl rfl OfN.ok) ?_; (first | refine SS.ls 7 [22, 23] rfl ?_ | refine SS.tw 7 rfl (p_load_sR rfl rfl (by assumption) (by assumption) (by assumption)) ?_); refine SS.tw 8 rfl (p_move rfl rfl) ?_; refine SS.tw 9 rfl (p_nil rfl rfl) ?_; refine SS.tw 10 rfl (p_fieldAddr rfl rfl OfN.ok) ?_; (first | refine SS.ls 11 [18, 19, 20, 21, 22, 23] rfl ?_ | refine SS.tw 11 rfl (p_load_sR rfl rfl (by assumption) (by assumption) (by assumption)) ?_); refine SS.tw 12 rfl (p_move rfl rfl) ?_; refine SS.tw 13 rfl (p_nil rfl rfl) ?_; refine SS.tw 14 rfl (p_fieldAddr rfl rfl OfN.ok) ?_; (first | refine SS.ls 15 [16, 17, 18, 19, 20, 21, 22, 23] rfl ?_ | refine SS.tw 15 rfl (p_load_sR rfl rfl (by assumption) (by assumption) (by assumption)) ?_); refine SS.tw 16 rfl (p_len_slice rfl rfl) ?_; (first | refine SS.tw 17 rfl (p_sub rfl rfl rfl (w64 (by omega))) ?_ | refine SS.tw 17 rfl (p_uar rfl rfl rfl) ?_); (first | refine SS.tw 18 rfl (p_ix rfl rfl rfl (by omega)) ?_ | refine SS.tw 18 rfl (p_ixa rfl rfl rfl (by omega)) ?_); (first | refine SS.ls 19 [20, 21, 22, 23] rfl ?_ | refine SS.tw 19 rfl (p_load_sR rfl rfl (by assumption) (by assumption) (by assumption)) ?_); (first | refine SS.tw 20 rfl (p_ix rfl rfl rfl (by omega)) ?_ | refine SS.tw 20 rfl (p_ixa rfl rfl rfl (by omega)) ?_); (first | refine SS.lw 21 [22, 23] rfl ?_ | refine SS.la 21 [22, 23] rfl ?_ | refine SS.tw 21 rfl (p_load_aR rfl rfl (by assumption) (by assumption) (by assumption) (by assumption)) ?_); refine SS.effB 22 ?_ rfl (by kernel_rfl))
  refine W.call (root_p hB n x hx32) ?_
  rintro _ Hb' ⟨rfl, hB'⟩
  (refine SL.nilB ?_; refine SS.effB 23 ?_ rfl (by kernel_rfl); (repeat' (first | refine W.mv ?_ | refine W.zl ?_ | refine W.fa ?_ | refine W.nl ?_ | refine W.as ?_ | refine W.zb ?_ | refine W.za ?_ | refine W.zi ?_ | refine W.zc ?_ | refine W.zp ?_ | refine W.st ?_ | refine SL.nilB ?_ | refine SL.nil ?_ | refine W.al fun b_ => ?_ | refine W.bx fun b_ => ?_ | refine W.bxa fun b_ => ?_ | refine W.sw ?_ | refine W.sa ?_ | refine W.sk ?_ | refine W.bs0 fun b_ => ?_ | refine W.ma fun b_ => ?_ | refine W.bsl fun b_ => ?_ | refine W.zu ?_ | refine W.zf ?_ | refine W.zd ?_ | refine W.zs ?_ | refine W.zv ?_ | refine W.zx ?_ | refine W.ex ?_ | refine W.mf ?_ | refine W.mk ?_)); refine SS.done ?_ (by kernel_rfl))
  (repeat' (first | refine W.mv ?_ | refine W.zl ?_ | refine W.fa ?_ | refine W.nl ?_ | refine W.as ?_ | refine W.zb ?_ | refine W.za ?_ | refine W.zi ?_ | refine W.zc ?_ | refine W.zp ?_ | refine W.st ?_ | refine SL.nilB ?_ | refine SL.nil ?_ | refine W.al fun b_ => ?_ | refine W.bx fun b_ => ?_ | refine W.bxa fun b_ => ?_ | refine W.sw ?_ | refine W.sa ?_ | refine W.sk ?_ | refine W.bs0 fun b_ => ?_ | refine W.ma fun b_ => ?_ | refine W.bsl fun b_ => ?_ | refine W.zu ?_ | refine W.zf ?_ | refine W.zd ?_ | refine W.zs ?_ | refine W.zv ?_ | refine W.zx ?_ | refine W.ex ?_ | refine W.mf ?_ | refine W.mk ?_ | refine SW.seq ?_ | refine SW.region ?_ | refine SW.block ?_ | refine SW.cond_t rfl ?_ | refine SW.cond_f rfl ?_ | refine SW.exit ?_ | refine SW.ret ?_ | refine SW.skip ?_))
  refine F.cH (((t, cl [.pointer (some ⟨b, 0, none⟩), .int .i64 (n : Int), .slice (some ⟨lb, 0, none⟩) (D + 1) lc] 87) :: ([(lb, cl (vs ++ lj) 38)] ++ Hw)) ++ Hb') (cbs (Sha.sum (rootT n x))) ?_
  exact ⟨Hb', rfl, rfl, hB'⟩
theorem Root_p {t b tp : Nat} {s : Bk} {l : List (List UInt8)} {Ht Hb : Hp} (hT : TreeV t b l Ht) (hB : BookP b tp s Hb) (h2 : l.length ≤ 1024) :
    Tri Try.prog 20 [.pointer (some ⟨t, 0, none⟩)] (Ht ++ Hb) (fun _ => True) (fun v H' => ∃ Hb', v = dgV (rootV l) ∧ H' = Ht ++ Hb' ∧ BookP b tp (s.add (rootT l.length (topV l))) Hb') :=
  RootG_p (r := rowV l (dep l.length) (dep l.length)) hT hB (by simp [rowsV]) (rowsV_get l (by omega)) (rowV_get l (Nat.pow_pos (by omega))) (by have := dep_max (n := l.length) (k := 10) (by simpa using h2); omega)
end Go.Proofs.Ytieamijnajbcnaa
