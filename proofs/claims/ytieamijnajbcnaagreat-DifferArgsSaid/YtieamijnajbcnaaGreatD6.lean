/- What a tree tells of itself. -/
import Derived.Test.YtieamijnajbcnaaGreatD5
set_option linter.unusedVariables false
set_option linter.unusedSimpArgs false
namespace Go.Proofs.YtieamijnajbcnaaGreat
open Go
attribute [local irreducible] SW SL SQ SH SA SS Pu Fin CutF HandF

abbrev TreeV (t b : Nat) (l : List (List UInt8)) (H : Hp) : Prop := TreeP t b l.length (rowsV l (dep l.length) (dep l.length + 1)) H
theorem rowsV_get (l : List (List UInt8)) {D k d : Nat} (h : d < k) : (rowsV l D k)[d]? = some (rowV l D d) := by simp [rowsV, h]
theorem RowsP.get {vs : List Value} {L : List (List (List UInt8))} {H : Hp} (h : RowsP vs L H) {d : Nat} {r : List (List UInt8)} (hd : L[d]? = some r) :
    ∃ (rb cap : Nat) (junk : List Value), vs[d]? = some (.slice (some ⟨rb, 0, none⟩) r.length cap) ∧ At H rb (cl (cbs r.flatten ++ junk) 72) ∧ D32 r ∧ r.length ≤ cap := by
  obtain ⟨ws, rfl, rfl, rfl, h4⟩ := h
  rw [List.getElem?_map] at hd
  obtain ⟨w, hw, rfl⟩ := Option.map_eq_some_iff.1 hd
  have hm := List.mem_of_getElem? hw
  exact ⟨w.b, w.cap, w.junk, by rw [List.getElem?_map, hw]; rfl, ⟨List.mem_map.2 ⟨w, hm, rfl⟩⟩, (h4 w hm).1, (h4 w hm).2.2⟩
/-- One row of a tree, as the program finds it. -/
theorem TreeP.open {t b n : Nat} {L : List (List (List UInt8))} {H : Hp} (h : TreeP t b n L H) (hL : 0 < L.length) :
    ∃ (lb lc : Nat) (vs lj : List Value) (Hw : Hp), H = (t, cl [.pointer (some ⟨b, 0, none⟩), .int .i64 (n : Int), .slice (some ⟨lb, 0, none⟩) L.length lc] 127) :: ([(lb, cl (vs ++ lj) 76)] ++ Hw) ∧ RowsP vs L Hw ∧ vs.length = L.length ∧ L.length ≤ lc := by
  obtain ⟨lv, vs, Hl, Hw, rfl, hlv, hrw⟩ := h
  have hv := hrw.len
  rcases hlv with ⟨rfl, rfl, rfl⟩ | ⟨lb, len, cap, junk, rfl, hx, hj, hlc, rfl⟩
  · simp at hv; omega
  · obtain rfl : len = L.length := by omega
    exact ⟨lb, cap, vs, junk, Hw, rfl, hrw, hv, hlc⟩
theorem app_get {vs lj : List Value} {d : Nat} {v : Value} (h : vs[d]? = some v) : (vs ++ lj)[d]? = some v := by
  rw [List.getElem?_append_left (List.getElem?_eq_some_iff.1 h).1]; exact h
theorem cbs_getJ {L : List (List UInt8)} {junk : List Value} {x : List UInt8} {n : Nat} (h : ∀ x ∈ L, x.length = n) {i : Nat} (hi : L[i]? = some x) : ((cbs L.flatten ++ junk).drop (i * n)).take n = cbs x := by
  have hlt := (List.getElem?_eq_some_iff.1 hi).1
  have hl : (cbs L.flatten).length = L.length * n := by rw [cbs_len, flatN_len h]
  have h2 : (i + 1) * n ≤ L.length * n := Nat.mul_le_mul_right n hlt
  rw [Nat.succ_mul] at h2
  rw [List.drop_append_of_le_length (by omega), List.take_append_of_le_length (by rw [List.length_drop]; omega)]
  exact cbs_get h hi
theorem Len_p {t b n : Nat} {L : List (List (List UInt8))} {H : Hp} (hT : TreeP t b n L H) : Tri Tryz.prog 14 [.pointer (some ⟨t, 0, none⟩)] H (fun _ => True) (fun v H' => v = .int .i64 (n : Int) ∧ H' = H) := by
  obtain ⟨lv, vs, Hl, Hw, rfl, hlv, hrw⟩ := hT
  have h1 := hlv.isOne
  refine Tri.mk Tryz.func14 rfl Tryz.ntmps14 rfl fun w hw => ?_
  (repeat' (first | refine W.mv ?_ | refine W.zl ?_ | refine W.fa ?_ | refine W.nl ?_ | refine W.as ?_ | refine W.zb ?_ | refine W.za ?_ | refine W.zi ?_ | refine W.zc ?_ | refine W.zp ?_ | refine W.st ?_ | refine SL.nilB ?_ | refine SL.nil ?_ | refine W.al fun b_ => ?_ | refine W.bx fun b_ => ?_ | refine W.bxa fun b_ => ?_ | refine W.sw ?_ | refine W.sa ?_ | refine W.sk ?_ | refine W.bs0 fun b_ => ?_ | refine W.ma fun b_ => ?_ | refine W.bsl fun b_ => ?_ | refine W.zu ?_ | refine W.zf ?_ | refine W.zd ?_ | refine W.zs ?_ | refine W.zv ?_ | refine W.zx ?_ | refine W.ex ?_ | refine W.mf ?_ | refine W.mk ?_ | refine SW.seq ?_ | refine SW.region ?_ | refine SW.block ?_ | refine SW.cond_t rfl ?_ | refine SW.cond_f rfl ?_ | refine SW.exit ?_ | refine SW.ret ?_ | refine SW.skip ?_))
  refine Fin.to ((t, cl [.pointer (some ⟨b, 0, none⟩), .int .i64 (n : Int), lv] 127) :: (Hl ++ Hw)) ?_
  exact F.f1 ⟨rfl, rfl⟩
theorem Depth_p {t b n : Nat} {L : List (List (List UInt8))} {H : Hp} (hT : TreeP t b n L H) (hL : 0 < L.length) (hm : L.length ≤ 1099511627776) : Tri Tryz.prog 18 [.pointer (some ⟨t, 0, none⟩)] H (fun _ => True) (fun v H' => v = .int .i64 ((L.length - 1 : Nat) : Int) ∧ H' = H) := by
  obtain ⟨lb, lc, vs, lj, Hw, rfl, hrw, hvl, hlc⟩ := hT.open hL
  refine Tri.mk Tryz.func18 rfl Tryz.ntmps18 rfl fun w hw => ?_
  (repeat' (first | refine W.mv ?_ | refine W.zl ?_ | refine W.fa ?_ | refine W.nl ?_ | refine W.as ?_ | refine W.zb ?_ | refine W.za ?_ | refine W.zi ?_ | refine W.zc ?_ | refine W.zp ?_ | refine W.st ?_ | refine SL.nilB ?_ | refine SL.nil ?_ | refine W.al fun b_ => ?_ | refine W.bx fun b_ => ?_ | refine W.bxa fun b_ => ?_ | refine W.sw ?_ | refine W.sa ?_ | refine W.sk ?_ | refine W.bs0 fun b_ => ?_ | refine W.ma fun b_ => ?_ | refine W.bsl fun b_ => ?_ | refine W.zu ?_ | refine W.zf ?_ | refine W.zd ?_ | refine W.zs ?_ | refine W.zv ?_ | refine W.zx ?_ | refine W.ex ?_ | refine W.mf ?_ | refine W.mk ?_ | refine SW.seq ?_ | refine SW.region ?_ | refine SW.block ?_ | refine SW.cond_t rfl ?_ | refine SW.cond_f rfl ?_ | refine SW.exit ?_ | refine SW.ret ?_ | refine SW.skip ?_))
  refine Fin.to ((t, cl [.pointer (some ⟨b, 0, none⟩), .int .i64 (n : Int), .slice (some ⟨lb, 0, none⟩) L.length lc] 127) :: ([(lb, cl (vs ++ lj) 76)] ++ Hw)) ?_
  refine F.f1 ?_
  exact ⟨by rw [show ((L.length - 1 : Nat) : Int) = (L.length : Int) - 1 by omega], rfl⟩
end Go.Proofs.YtieamijnajbcnaaGreat
