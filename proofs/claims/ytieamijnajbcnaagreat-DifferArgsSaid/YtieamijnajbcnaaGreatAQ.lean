/- The rows that the library keeps as a heap. The library's heap. The queue. What the queue does. -/
import Derived.Test.YtieamijnajbcnaaGreatTy
import Derived.Test.YtieamijnajbcnaaGreatAO
set_option linter.unusedVariables false
set_option linter.unusedSimpArgs false
set_option linter.unusedSectionVars false
namespace Go.Proofs.YtieamijnajbcnaaGreat
open Go
attribute [local irreducible] SW SL SQ SH SA SS Pu Fin CutF HandF
open Pq

def sxc (s : Sx) : List Value := [.int .i64 s.a, .int .i64 s.b, .int .i64 s.num]
instance (s : Sx) : OC (sxc s) := by unfold sxc; infer_instance
abbrev rwc (v : Value) (fl : FuncId) : List Value := [v, .func (.func fl) #[] #[]]
/-- The rows: a list of slots. -/
def QRowsP (rp : Nat) (fl : FuncId) (l : List Sx) (H : Hp) : Prop := ∃ v Hs, Sl 136 3 v (l.flatMap sxc) Hs ∧ H = (rp, cl (rwc v fl) 131) :: Hs
theorem fm3_len (l : List Sx) : (l.flatMap sxc).length = l.length * 3 := by
  induction l with
  | nil => rfl
  | cons x l ih => rw [List.flatMap_cons, List.length_append, ih, List.length_cons]; show 3 + _ = _; omega
theorem fm3_at (l : List Sx) (J : List Value) {k : Nat} {x : Sx} (h : l[k]? = some x) : ((l.flatMap sxc ++ J).drop (k * 3)).take 3 = sxc x := by
  induction l generalizing k with
  | nil => simp at h
  | cons y l ih =>
    rw [List.flatMap_cons]
    cases k with
    | zero =>
      simp at h; subst h
      rw [Nat.zero_mul, List.drop_zero, List.append_assoc, List.take_left']; rfl
    | succ k =>
      rw [show (k + 1) * 3 = 3 + k * 3 by omega, ← List.drop_drop, List.append_assoc, List.drop_left' (show (sxc y).length = 3 from rfl)]
      exact ih (by simpa using h)
theorem fm3_set (l : List Sx) (J : List Value) {k : Nat} (x : Sx) (h : k < l.length) : (l.flatMap sxc ++ J).take (k * 3) ++ sxc x ++ (l.flatMap sxc ++ J).drop (k * 3 + 3) = (l.set k x).flatMap sxc ++ J := by
  have hl : ((l.take k).flatMap sxc).length = k * 3 := by rw [fm3_len, List.length_take, Nat.min_eq_left (by omega)]
  have e : l.flatMap sxc = (l.take k).flatMap sxc ++ (sxc l[k] ++ (l.drop (k + 1)).flatMap sxc) := by
    conv => lhs; rw [← List.take_append_drop k l, List.flatMap_append, List.drop_eq_getElem_cons h, List.flatMap_cons]
  have e2 : (l.set k x).flatMap sxc = (l.take k).flatMap sxc ++ (sxc x ++ (l.drop (k + 1)).flatMap sxc) := by
    rw [List.set_eq_take_append_cons_drop, if_pos h, List.flatMap_append, List.flatMap_cons]
  rw [e, e2]
  simp only [List.append_assoc]
  rw [List.take_left' hl, ← List.drop_drop, List.drop_left' hl, List.drop_left' (show (sxc l[k]).length = 3 from rfl)]
/-- What the order's function does. -/
def LessF (fl : FuncId) (less : Int × Int → Int × Int → Bool) : Prop := ∀ x y : Int × Int, Tri Tryz.prog fl [.agg [(.int .i64 x.1 : Value), .int .i64 x.2].toArray, .agg [(.int .i64 y.1 : Value), .int .i64 y.2].toArray] [] (fun _ => True) (fun v H => v = .bool (less x y) ∧ H = [])
theorem rLen_p {rp : Nat} {fl : FuncId} {l : List Sx} {H : Hp} (h : QRowsP rp fl l H) : Tri Tryz.prog 101 [.pointer (some ⟨rp, 0, none⟩)] H (fun _ => True) (fun v H' => v = .int .i64 (l.length : Int) ∧ H' = H) := by
  obtain ⟨v, Hs, hv, rfl⟩ := h
  refine Tri.mk Tryz.func101 rfl Tryz.ntmps101 rfl fun w hw => ?_
  obtain ⟨a, len, cap, rfl, hl⟩ := hv.form
  rw [fm3_len] at hl
  have : l.length = len := by omega
  rw [this]
  (repeat' (first | refine W.mv ?_ | refine W.zl ?_ | refine W.fa ?_ | refine W.nl ?_ | refine W.as ?_ | refine W.zb ?_ | refine W.za ?_ | refine W.zi ?_ | refine W.zc ?_ | refine W.zp ?_ | refine W.st ?_ | refine SL.nilB ?_ | refine SL.nil ?_ | refine W.al fun b_ => ?_ | refine W.bx fun b_ => ?_ | refine W.bxa fun b_ => ?_ | refine W.sw ?_ | refine W.sa ?_ | refine W.sk ?_ | refine W.bs0 fun b_ => ?_ | refine W.ma fun b_ => ?_ | refine W.bsl fun b_ => ?_ | refine W.zu ?_ | refine W.zf ?_ | refine W.zd ?_ | refine W.zs ?_ | refine W.zv ?_ | refine W.zx ?_ | refine W.ex ?_ | refine W.mf ?_ | refine W.mk ?_ | refine SW.seq ?_ | refine SW.region ?_ | refine SW.block ?_ | refine SW.cond_t rfl ?_ | refine SW.cond_f rfl ?_ | refine SW.exit ?_ | refine SW.ret ?_ | refine SW.skip ?_))
  exact F.f1 ⟨rfl, rfl⟩
theorem rSwap_p {rp : Nat} {fl : FuncId} {l : List Sx} {H : Hp} (h : QRowsP rp fl l H) {i j : Nat} {x y : Sx} (hi : l[i]? = some x) (hj : l[j]? = some y) : Tri Tryz.prog 156 [.pointer (some ⟨rp, 0, none⟩), .int .i64 (i : Int), .int .i64 (j : Int)] H (fun _ => True) (fun v H' => v = .tuple #[] ∧ QRowsP rp fl ((l.set i y).set j x) H') := by
  obtain ⟨v, Hs, hv, rfl⟩ := h
  refine Tri.mk Tryz.func156 rfl Tryz.ntmps156 rfl fun w hw => ?_
  have hil := (List.getElem?_eq_some_iff.1 hi).1
  have hjl := (List.getElem?_eq_some_iff.1 hj).1
  rcases hv with ⟨rfl, hx, -⟩ | ⟨b, len, cap, J, rfl, hx, hJ, hlc, rfl⟩
  · have := fm3_len l; rw [hx] at this; simp at this; omega
  rw [fm3_len] at hx
  have hlen : l.length = len := by omega
  have g1 := fm3_at l J hi
  have g2 := fm3_at l J hj
  have s1 := fm3_set l J y hil
  have s2 := fm3_set (l.set i y) J x (k := j) (by rw [List.length_set]; exact hjl)
  have l1 : i * 3 + 3 ≤ (l.flatMap sxc ++ J).length := by rw [List.length_append, fm3_len]; omega
  have l2 : j * 3 + 3 ≤ ((l.set i y).flatMap sxc ++ J).length := by rw [List.length_append, fm3_len, List.length_set]; omega
  have hx3 : (sxc x).length = 3 := rfl
  have hy3 : (sxc y).length = 3 := rfl
  generalize l.flatMap sxc ++ J = A at g1 g2 s1 l1 ⊢
  (refine SW.regionS [25, 27] ?_ (by kernel_rfl); refine SS.tw 0 rfl (p_move rfl rfl) ?_; refine SS.tw 1 rfl (p_nil rfl rfl) ?_; refine SS.tw 2 rfl (p_fieldAddr rfl rfl OfN.ok) ?_; (first | refine SS.ls 3 [25, 27] rfl ?_ | refine SS.tw 3 rfl (p_load_sR rfl rfl (by assumption) (by assumption) (by assumption)) ?_); refine SS.tw 4 rfl (p_move rfl rfl) ?_; refine SS.tw 5 rfl (p_move rfl rfl) ?_; refine SS.tw 6 rfl (p_nil rfl rfl) ?_; refine SS.tw 7 rfl (p_fieldAddr rfl rfl OfN.ok) ?_; (first | refine SS.ls 8 [25, 27] rfl ?_ | refine SS.tw 8 rfl (p_load_sR rfl rfl (by assumption) (by assumption) (by assumption)) ?_); refine SS.tw 9 rfl (p_move rfl rfl) ?_; refine SS.tw 10 rfl (p_move rfl rfl) ?_; refine SS.tw 11 rfl (p_nil rfl rfl) ?_; refine SS.tw 12 rfl (p_fieldAddr rfl rfl OfN.ok) ?_; (first | refine SS.ls 13 [25, 27] rfl ?_ | refine SS.tw 13 rfl (p_load_sR rfl rfl (by assumption) (by assumption) (by assumption)) ?_); refine SS.tw 14 rfl (p_move rfl rfl) ?_; (first | refine SS.tw 15 rfl (p_ix rfl rfl rfl (by omega)) ?_ | refine SS.tw 15 rfl (p_ixa rfl rfl rfl (by omega)) ?_); (first | refine SS.lw 16 [25, 27] rfl ?_ | refine SS.la 16 [25, 27] rfl ?_ | refine SS.tw 16 rfl (p_load_aR rfl rfl (by assumption) (by assumption) (by assumption) (by assumption)) ?_); refine SS.tw 17 rfl (p_move rfl rfl) ?_; refine SS.tw 18 rfl (p_nil rfl rfl) ?_; refine SS.tw 19 rfl (p_fieldAddr rfl rfl OfN.ok) ?_; (first | refine SS.ls 20 [25, 27] rfl ?_ | refine SS.tw 20 rfl (p_load_sR rfl rfl (by assumption) (by assumption) (by assumption)) ?_); refine SS.tw 21 rfl (p_move rfl rfl) ?_; (first | refine SS.tw 22 rfl (p_ix rfl rfl rfl (by omega)) ?_ | refine SS.tw 22 rfl (p_ixa rfl rfl rfl (by omega)) ?_); (first | refine SS.lw 23 [25, 27] rfl ?_ | refine SS.la 23 [25, 27] rfl ?_ | refine SS.tw 23 rfl (p_load_aR rfl rfl (by assumption) (by assumption) (by assumption) (by assumption)) ?_); (first | refine SS.tw 24 rfl (p_ix rfl rfl rfl (by omega)) ?_ | refine SS.tw 24 rfl (p_ixa rfl rfl rfl (by omega)) ?_); skip)
  refine SS.effB 25 ?_ rfl (by kernel_rfl)
  refine W.sa ?_
  rw [s1]
  generalize hB : (l.set i y).flatMap sxc ++ J = B at s2 l2 ⊢
  (refine SL.nilB ?_; (first | refine SS.tw 26 rfl (p_ix rfl rfl rfl (by omega)) ?_ | refine SS.tw 26 rfl (p_ixa rfl rfl rfl (by omega)) ?_); refine SS.effB 27 ?_ rfl (by kernel_rfl); (repeat' (first | refine W.mv ?_ | refine W.zl ?_ | refine W.fa ?_ | refine W.nl ?_ | refine W.as ?_ | refine W.zb ?_ | refine W.za ?_ | refine W.zi ?_ | refine W.zc ?_ | refine W.zp ?_ | refine W.st ?_ | refine SL.nilB ?_ | refine SL.nil ?_ | refine W.al fun b_ => ?_ | refine W.bx fun b_ => ?_ | refine W.bxa fun b_ => ?_ | refine W.sw ?_ | refine W.sa ?_ | refine W.sk ?_ | refine W.bs0 fun b_ => ?_ | refine W.ma fun b_ => ?_ | refine W.bsl fun b_ => ?_ | refine W.zu ?_ | refine W.zf ?_ | refine W.zd ?_ | refine W.zs ?_ | refine W.zv ?_ | refine W.zx ?_ | refine W.ex ?_ | refine W.mf ?_ | refine W.mk ?_)); refine SS.done ?_ (by kernel_rfl))
  rw [s2]
  refine F.f0 ?_
  refine ⟨rfl, _, [(b, cl (((l.set i y).set j x).flatMap sxc ++ J) 136)], .inr ⟨b, len, cap, J, rfl, ?_, hJ, hlc, rfl⟩, rfl⟩
  rw [fm3_len, List.length_set, List.length_set, hlen]
instance conS : ConT Tryz.prog 136 := ⟨⟨_, Tryz.underlying136, rfl⟩⟩
instance conR : ConT Tryz.prog 128 := ⟨⟨_, Tryz.underlying128, rfl⟩⟩
abbrev sxv (s : Sx) : Value := .iface 136 (.agg (sxc s).toArray)
theorem rPush_p {rp : Nat} {fl : FuncId} {l : List Sx} {H : Hp} (h : QRowsP rp fl l H) (x : Sx) (hn : l.length ≤ 1000000) : Tri Tryz.prog 155 [.pointer (some ⟨rp, 0, none⟩), sxv x] H (fun _ => True) (fun v H' => v = .tuple #[] ∧ QRowsP rp fl (l ++ [x]) H') := by
  obtain ⟨v, Hs, hv, rfl⟩ := h
  refine Tri.mk Tryz.func155 rfl Tryz.ntmps155 rfl fun w hw => ?_
  have hv1 := hv.isOne
  have hx3 : (sxc x).length = 3 := rfl
  have hb : bfill (fun i => some (i * 3, 3)) (zs [.int .i64 0, .int .i64 0, .int .i64 0] 1) [(0, .agg (sxc x).toArray)] = some (sxc x) := rfl
  (repeat' (first | refine W.mv ?_ | refine W.zl ?_ | refine W.fa ?_ | refine W.nl ?_ | refine W.as ?_ | refine W.zb ?_ | refine W.za ?_ | refine W.zi ?_ | refine W.zc ?_ | refine W.zp ?_ | refine W.st ?_ | refine SL.nilB ?_ | refine SL.nil ?_ | refine W.al fun b_ => ?_ | refine W.bx fun b_ => ?_ | refine W.bxa fun b_ => ?_ | refine W.sw ?_ | refine W.sa ?_ | refine W.sk ?_ | refine W.bs0 fun b_ => ?_ | refine W.ma fun b_ => ?_ | refine W.bsl fun b_ => ?_ | refine W.zu ?_ | refine W.zf ?_ | refine W.zd ?_ | refine W.zs ?_ | refine W.zv ?_ | refine W.zx ?_ | refine W.ex ?_ | refine W.mf ?_ | refine W.mk ?_ | refine SW.seq ?_ | refine SW.region ?_ | refine SW.block ?_ | refine SW.cond_t rfl ?_ | refine SW.cond_f rfl ?_ | refine SW.exit ?_ | refine SW.ret ?_ | refine SW.skip ?_))
  refine W.taT ?_
  (repeat' (first | refine W.mv ?_ | refine W.zl ?_ | refine W.fa ?_ | refine W.nl ?_ | refine W.as ?_ | refine W.zb ?_ | refine W.za ?_ | refine W.zi ?_ | refine W.zc ?_ | refine W.zp ?_ | refine W.st ?_ | refine SL.nilB ?_ | refine SL.nil ?_ | refine W.al fun b_ => ?_ | refine W.bx fun b_ => ?_ | refine W.bxa fun b_ => ?_ | refine W.sw ?_ | refine W.sa ?_ | refine W.sk ?_ | refine W.bs0 fun b_ => ?_ | refine W.ma fun b_ => ?_ | refine W.bsl fun b_ => ?_ | refine W.zu ?_ | refine W.zf ?_ | refine W.zd ?_ | refine W.zs ?_ | refine W.zv ?_ | refine W.zx ?_ | refine W.ex ?_ | refine W.mf ?_ | refine W.mk ?_ | refine SW.seq ?_ | refine SW.region ?_ | refine SW.block ?_ | refine SW.cond_t rfl ?_ | refine SW.cond_f rfl ?_ | refine SW.exit ?_ | refine SW.ret ?_ | refine SW.skip ?_))
  (refine SW.regionS [7, 10] ?_ (by kernel_rfl); refine SS.tw 0 rfl (p_move rfl rfl) ?_; refine SS.tw 1 rfl (p_move rfl rfl) ?_; refine SS.tw 2 rfl (p_nil rfl rfl) ?_; refine SS.tw 3 rfl (p_fieldAddr rfl rfl OfN.ok) ?_; (first | refine SS.ls 4 [7, 10] rfl ?_ | refine SS.tw 4 rfl (p_load_sR rfl rfl (by assumption) (by assumption) (by assumption)) ?_); (first | refine SS.lw 5 [6, 7, 10] rfl ?_ | refine SS.la 5 [6, 7, 10] rfl ?_ | refine SS.tw 5 rfl (p_load_aR rfl rfl (by assumption) (by assumption) (by assumption) (by assumption)) ?_); refine SS.effK 6 ?_ rfl (by kernel_rfl))
  refine W.bsl (rv := sxc x) (fun b6 => ?_) (hr := by exact hb)
  (refine SL.nilB ?_; refine SS.effB 7 ?_ rfl (by kernel_rfl))
  refine W.ap hv (ys := sxc x) (mm := 1) (fun w2 hs => SrcOf.block (l := sxc x) hs.at rfl rfl) (fun v2 H2 h2 => ?_) (hys := rfl) (hbytes := by rw [fm3_len]; show (_ + 3) * _ ≤ _; omega)
  have h21 := h2.isOne
  (refine SL.nilB ?_; refine SS.tw 8 rfl (p_nil rfl rfl) ?_; refine SS.tw 9 rfl (p_fieldAddr rfl rfl OfN.ok) ?_; refine SS.effB 10 ?_ rfl (by kernel_rfl); (repeat' (first | refine W.mv ?_ | refine W.zl ?_ | refine W.fa ?_ | refine W.nl ?_ | refine W.as ?_ | refine W.zb ?_ | refine W.za ?_ | refine W.zi ?_ | refine W.zc ?_ | refine W.zp ?_ | refine W.st ?_ | refine SL.nilB ?_ | refine SL.nil ?_ | refine W.al fun b_ => ?_ | refine W.bx fun b_ => ?_ | refine W.bxa fun b_ => ?_ | refine W.sw ?_ | refine W.sa ?_ | refine W.sk ?_ | refine W.bs0 fun b_ => ?_ | refine W.ma fun b_ => ?_ | refine W.bsl fun b_ => ?_ | refine W.zu ?_ | refine W.zf ?_ | refine W.zd ?_ | refine W.zs ?_ | refine W.zv ?_ | refine W.zx ?_ | refine W.ex ?_ | refine W.mf ?_ | refine W.mk ?_)); refine SS.done ?_ (by kernel_rfl))
  (repeat' (first | refine W.mv ?_ | refine W.zl ?_ | refine W.fa ?_ | refine W.nl ?_ | refine W.as ?_ | refine W.zb ?_ | refine W.za ?_ | refine W.zi ?_ | refine W.zc ?_ | refine W.zp ?_ | refine W.st ?_ | refine SL.nilB ?_ | refine SL.nil ?_ | refine W.al fun b_ => ?_ | refine W.bx fun b_ => ?_ | refine W.bxa fun b_ => ?_ | refine W.sw ?_ | refine W.sa ?_ | refine W.sk ?_ | refine W.bs0 fun b_ => ?_ | refine W.ma fun b_ => ?_ | refine W.bsl fun b_ => ?_ | refine W.zu ?_ | refine W.zf ?_ | refine W.zd ?_ | refine W.zs ?_ | refine W.zv ?_ | refine W.zx ?_ | refine W.ex ?_ | refine W.mf ?_ | refine W.mk ?_ | refine SW.seq ?_ | refine SW.region ?_ | refine SW.block ?_ | refine SW.cond_t rfl ?_ | refine SW.cond_f rfl ?_ | refine SW.exit ?_ | refine SW.ret ?_ | refine SW.skip ?_))
  rw [show (rwc v fl).set 0 v2 = rwc v2 fl from rfl]
  refine Fin.to ((rp, cl (rwc v2 fl) 131) :: H2) ?_
  refine F.f0 ?_
  refine ⟨rfl, v2, H2, ?_, rfl⟩
  have e : (l ++ [x]).flatMap sxc = l.flatMap sxc ++ sxc x := by simp
  rw [e]; exact h2
theorem rPop_p {rp : Nat} {fl : FuncId} {l : List Sx} {H : Hp} {x : Sx} (h : QRowsP rp fl (l ++ [x]) H) (hn : l.length ≤ 1000000) : Tri Tryz.prog 154 [.pointer (some ⟨rp, 0, none⟩)] H (fun _ => True) (fun v H' => v = sxv x ∧ QRowsP rp fl l H') := by
  obtain ⟨v, Hs, hv, rfl⟩ := h
  refine Tri.mk Tryz.func154 rfl Tryz.ntmps154 rfl fun w hw => ?_
  rcases hv with ⟨rfl, hx, -⟩ | ⟨b, len, cap, J, rfl, hx, hJ, hlc, rfl⟩
  · have := fm3_len (l ++ [x]); rw [hx] at this; simp at this
  rw [fm3_len, List.length_append, List.length_singleton] at hx
  have hlen : l.length + 1 = len := by omega
  subst hlen
  have g1 := fm3_at (l ++ [x]) J (k := l.length) (x := x) (by simp)
  have hx3 : (sxc x).length = 3 := rfl
  have hA : (l ++ [x]).flatMap sxc ++ J = l.flatMap sxc ++ (sxc x ++ J) := by simp [List.append_assoc]
  haveI i1 : NatI (((l.length + 1 : Nat) : Int) - 1) l.length := ⟨by omega⟩
  generalize (l ++ [x]).flatMap sxc ++ J = A at g1 hA ⊢
  (repeat' (first | refine W.mv ?_ | refine W.zl ?_ | refine W.fa ?_ | refine W.nl ?_ | refine W.as ?_ | refine W.zb ?_ | refine W.za ?_ | refine W.zi ?_ | refine W.zc ?_ | refine W.zp ?_ | refine W.st ?_ | refine SL.nilB ?_ | refine SL.nil ?_ | refine W.al fun b_ => ?_ | refine W.bx fun b_ => ?_ | refine W.bxa fun b_ => ?_ | refine W.sw ?_ | refine W.sa ?_ | refine W.sk ?_ | refine W.bs0 fun b_ => ?_ | refine W.ma fun b_ => ?_ | refine W.bsl fun b_ => ?_ | refine W.zu ?_ | refine W.zf ?_ | refine W.zd ?_ | refine W.zs ?_ | refine W.zv ?_ | refine W.zx ?_ | refine W.ex ?_ | refine W.mf ?_ | refine W.mk ?_ | refine SW.seq ?_ | refine SW.region ?_ | refine SW.block ?_ | refine SW.cond_t rfl ?_ | refine SW.cond_f rfl ?_ | refine SW.exit ?_ | refine SW.ret ?_ | refine SW.skip ?_))
  refine W.mi ?_
  (repeat' (first | refine W.mv ?_ | refine W.zl ?_ | refine W.fa ?_ | refine W.nl ?_ | refine W.as ?_ | refine W.zb ?_ | refine W.za ?_ | refine W.zi ?_ | refine W.zc ?_ | refine W.zp ?_ | refine W.st ?_ | refine SL.nilB ?_ | refine SL.nil ?_ | refine W.al fun b_ => ?_ | refine W.bx fun b_ => ?_ | refine W.bxa fun b_ => ?_ | refine W.sw ?_ | refine W.sa ?_ | refine W.sk ?_ | refine W.bs0 fun b_ => ?_ | refine W.ma fun b_ => ?_ | refine W.bsl fun b_ => ?_ | refine W.zu ?_ | refine W.zf ?_ | refine W.zd ?_ | refine W.zs ?_ | refine W.zv ?_ | refine W.zx ?_ | refine W.ex ?_ | refine W.mf ?_ | refine W.mk ?_ | refine SW.seq ?_ | refine SW.region ?_ | refine SW.block ?_ | refine SW.cond_t rfl ?_ | refine SW.cond_f rfl ?_ | refine SW.exit ?_ | refine SW.ret ?_ | refine SW.skip ?_))
  rw [show (rwc (.slice (some ⟨b, 0, none⟩) (l.length + 1) cap) fl).set 0 (.slice (some ⟨b, 0, none⟩) l.length cap) = rwc (.slice (some ⟨b, 0, none⟩) l.length cap) fl from rfl, hA]
  refine Fin.to ((rp, cl (rwc (.slice (some ⟨b, 0, none⟩) l.length cap) fl) 131) :: [(b, cl (l.flatMap sxc ++ (sxc x ++ J)) 136)]) ?_
  refine F.f1 ?_
  refine ⟨rfl, _, _, .inr ⟨b, l.length, cap, sxc x ++ J, rfl, fm3_len l, ?_, by omega, rfl⟩, rfl⟩
  rw [List.length_append, hx3]; omega
theorem rLess_p {rp : Nat} {fl : FuncId} [IsFn Tryz.prog fl] {less : Int × Int → Int × Int → Bool} (hL : LessF fl less) {l : List Sx} {H : Hp} (h : QRowsP rp fl l H) {i j : Nat} {x y : Sx} (hi : l[i]? = some x) (hj : l[j]? = some y) : Tri Tryz.prog 153 [.pointer (some ⟨rp, 0, none⟩), .int .i64 (i : Int), .int .i64 (j : Int)] H (fun _ => True) (fun v H' => v = .bool (lts less x y) ∧ H' = H) := by
  obtain ⟨v, Hs, hv, rfl⟩ := h
  refine Tri.mk Tryz.func153 rfl Tryz.ntmps153 rfl fun w hw => ?_
  have hil := (List.getElem?_eq_some_iff.1 hi).1
  have hjl := (List.getElem?_eq_some_iff.1 hj).1
  rcases hv with ⟨rfl, hx, -⟩ | ⟨b, len, cap, J, rfl, hx, hJ, hlc, rfl⟩
  · have := fm3_len l; rw [hx] at this; simp at this; omega
  rw [fm3_len] at hx
  have hlen : l.length = len := by omega
  have g1 := fm3_at l J hi
  have g2 := fm3_at l J hj
  have hx3 : (sxc x).length = 3 := rfl
  have hy3 : (sxc y).length = 3 := rfl
  obtain ⟨A, hAe⟩ : ∃ A, A = l.flatMap sxc ++ J := ⟨_, rfl⟩
  rw [← hAe] at g1 g2 ⊢
  (repeat' (first | refine W.mv ?_ | refine W.zl ?_ | refine W.fa ?_ | refine W.nl ?_ | refine W.as ?_ | refine W.zb ?_ | refine W.za ?_ | refine W.zi ?_ | refine W.zc ?_ | refine W.zp ?_ | refine W.st ?_ | refine SL.nilB ?_ | refine SL.nil ?_ | refine W.al fun b_ => ?_ | refine W.bx fun b_ => ?_ | refine W.bxa fun b_ => ?_ | refine W.sw ?_ | refine W.sa ?_ | refine W.sk ?_ | refine W.bs0 fun b_ => ?_ | refine W.ma fun b_ => ?_ | refine W.bsl fun b_ => ?_ | refine W.zu ?_ | refine W.zf ?_ | refine W.zd ?_ | refine W.zs ?_ | refine W.zv ?_ | refine W.zx ?_ | refine W.ex ?_ | refine W.mf ?_ | refine W.mk ?_ | refine SW.seq ?_ | refine SW.region ?_ | refine SW.block ?_ | refine SW.cond_t rfl ?_ | refine SW.cond_f rfl ?_ | refine SW.exit ?_ | refine SW.ret ?_ | refine SW.skip ?_))
  refine SW.cutH [0, 1, 2] [] (fun q : Nat × Nat => [(7, .pointer (some ⟨q.1, 0, none⟩)), (8, .pointer (some ⟨q.2, 0, none⟩))]) (fun q => [(q.1, cl (sxc x) 136), (q.2, cl (sxc y) 136)]) (fun _ => True) ?_ ?_
  · (refine SW.regionS [17] ?_ (by kernel_rfl); refine SS.tw 0 rfl (p_move rfl rfl) ?_; refine SS.tw 1 rfl (p_nil rfl rfl) ?_; refine SS.tw 2 rfl (p_fieldAddr rfl rfl OfN.ok) ?_; (first | refine SS.ls 3 [17] rfl ?_ | refine SS.tw 3 rfl (p_load_sR rfl rfl (by assumption) (by assumption) (by assumption)) ?_); refine SS.tw 4 rfl (p_move rfl rfl) ?_; (first | refine SS.tw 5 rfl (p_ix rfl rfl rfl (by omega)) ?_ | refine SS.tw 5 rfl (p_ixa rfl rfl rfl (by omega)) ?_); (first | refine SS.lw 6 [17] rfl ?_ | refine SS.la 6 [17] rfl ?_ | refine SS.tw 6 rfl (p_load_aR rfl rfl (by assumption) (by assumption) (by assumption) (by assumption)) ?_); refine SS.tw 7 rfl (p_move rfl rfl) ?_; refine SS.tw 8 rfl (p_nil rfl rfl) ?_; refine SS.tw 9 rfl (p_fieldAddr rfl rfl OfN.ok) ?_; (first | refine SS.ls 10 [17] rfl ?_ | refine SS.tw 10 rfl (p_load_sR rfl rfl (by assumption) (by assumption) (by assumption)) ?_); refine SS.tw 11 rfl (p_move rfl rfl) ?_; (first | refine SS.tw 12 rfl (p_ix rfl rfl rfl (by omega)) ?_ | refine SS.tw 12 rfl (p_ixa rfl rfl rfl (by omega)) ?_); (first | refine SS.lw 13 [17] rfl ?_ | refine SS.la 13 [17] rfl ?_ | refine SS.tw 13 rfl (p_load_aR rfl rfl (by assumption) (by assumption) (by assumption) (by assumption)) ?_); skip /- [14, 15] are ready -/)
    refine SS.twoK 14 15 ?_ ?_ rfl rfl
    · refine W.al fun b7 => ?_
      refine SL.nilB ?_
      refine SS.effK 15 ?_ rfl (by kernel_rfl)
      refine W.al fun b8 => ?_
      (refine SL.nilB ?_; refine SS.effK 16 ?_ rfl (by kernel_rfl); (repeat' (first | refine W.mv ?_ | refine W.zl ?_ | refine W.fa ?_ | refine W.nl ?_ | refine W.as ?_ | refine W.zb ?_ | refine W.za ?_ | refine W.zi ?_ | refine W.zc ?_ | refine W.zp ?_ | refine W.st ?_ | refine SL.nilB ?_ | refine SL.nil ?_ | refine W.al fun b_ => ?_ | refine W.bx fun b_ => ?_ | refine W.bxa fun b_ => ?_ | refine W.sw ?_ | refine W.sa ?_ | refine W.sk ?_ | refine W.bs0 fun b_ => ?_ | refine W.ma fun b_ => ?_ | refine W.bsl fun b_ => ?_ | refine W.zu ?_ | refine W.zf ?_ | refine W.zd ?_ | refine W.zs ?_ | refine W.zv ?_ | refine W.zx ?_ | refine W.ex ?_ | refine W.mf ?_ | refine W.mk ?_)); refine SS.effB 17 ?_ rfl (by kernel_rfl); (repeat' (first | refine W.mv ?_ | refine W.zl ?_ | refine W.fa ?_ | refine W.nl ?_ | refine W.as ?_ | refine W.zb ?_ | refine W.za ?_ | refine W.zi ?_ | refine W.zc ?_ | refine W.zp ?_ | refine W.st ?_ | refine SL.nilB ?_ | refine SL.nil ?_ | refine W.al fun b_ => ?_ | refine W.bx fun b_ => ?_ | refine W.bxa fun b_ => ?_ | refine W.sw ?_ | refine W.sa ?_ | refine W.sk ?_ | refine W.bs0 fun b_ => ?_ | refine W.ma fun b_ => ?_ | refine W.bsl fun b_ => ?_ | refine W.zu ?_ | refine W.zf ?_ | refine W.zd ?_ | refine W.zs ?_ | refine W.zv ?_ | refine W.zx ?_ | refine W.ex ?_ | refine W.mf ?_ | refine W.mk ?_)); refine SS.done ?_ (by kernel_rfl))
      exact CutF.mk (b7, b8) trivial
    · refine W.al fun b8 => ?_
      refine SL.nilB ?_
      refine SS.effK 14 ?_ rfl (by kernel_rfl)
      refine W.al fun b7 => ?_
      (refine SL.nilB ?_; refine SS.effK 16 ?_ rfl (by kernel_rfl); (repeat' (first | refine W.mv ?_ | refine W.zl ?_ | refine W.fa ?_ | refine W.nl ?_ | refine W.as ?_ | refine W.zb ?_ | refine W.za ?_ | refine W.zi ?_ | refine W.zc ?_ | refine W.zp ?_ | refine W.st ?_ | refine SL.nilB ?_ | refine SL.nil ?_ | refine W.al fun b_ => ?_ | refine W.bx fun b_ => ?_ | refine W.bxa fun b_ => ?_ | refine W.sw ?_ | refine W.sa ?_ | refine W.sk ?_ | refine W.bs0 fun b_ => ?_ | refine W.ma fun b_ => ?_ | refine W.bsl fun b_ => ?_ | refine W.zu ?_ | refine W.zf ?_ | refine W.zd ?_ | refine W.zs ?_ | refine W.zv ?_ | refine W.zx ?_ | refine W.ex ?_ | refine W.mf ?_ | refine W.mk ?_)); refine SS.effB 17 ?_ rfl (by kernel_rfl); (repeat' (first | refine W.mv ?_ | refine W.zl ?_ | refine W.fa ?_ | refine W.nl ?_ | refine W.as ?_ | refine W.zb ?_ | refine W.za ?_ | refine W.zi ?_ | refine W.zc ?_ | refine W.zp ?_ | refine W.st ?_ | refine SL.nilB ?_ | refine SL.nil ?_ | refine W.al fun b_ => ?_ | refine W.bx fun b_ => ?_ | refine W.bxa fun b_ => ?_ | refine W.sw ?_ | refine W.sa ?_ | refine W.sk ?_ | refine W.bs0 fun b_ => ?_ | refine W.ma fun b_ => ?_ | refine W.bsl fun b_ => ?_ | refine W.zu ?_ | refine W.zf ?_ | refine W.zd ?_ | refine W.zs ?_ | refine W.zv ?_ | refine W.zx ?_ | refine W.ex ?_ | refine W.mf ?_ | refine W.mk ?_)); refine SS.done ?_ (by kernel_rfl))
      exact CutF.mk (b7, b8) trivial
  rintro ⟨b7, b8⟩ -
  dsimp only
  have fx : ((sxc x).drop 0).take 2 = [.int .i64 x.a, .int .i64 x.b] := rfl
  have fy : ((sxc y).drop 0).take 2 = [.int .i64 y.a, .int .i64 y.b] := rfl
  have nx : (sxc x)[2]? = some (.int .i64 x.num) := rfl
  have ny : (sxc y)[2]? = some (.int .i64 y.num) := rfl
  have k1 := hL (x.a, x.b) (y.a, y.b)
  have k2 := hL (y.a, y.b) (x.a, x.b)
  have hR : QRowsP rp fl l ((rp, cl (rwc (.slice (some ⟨b, 0, none⟩) len cap) fl) 131) :: [(b, cl A 136)]) := ⟨_, _, .inr ⟨b, len, cap, J, rfl, by rw [fm3_len]; omega, hJ, hlc, by rw [hAe]⟩, rfl⟩
  generalize sxc x = SX at fx nx hx3 ⊢
  generalize sxc y = SY at fy ny hy3 ⊢
  (repeat' (first | refine W.mv ?_ | refine W.zl ?_ | refine W.fa ?_ | refine W.nl ?_ | refine W.as ?_ | refine W.zb ?_ | refine W.za ?_ | refine W.zi ?_ | refine W.zc ?_ | refine W.zp ?_ | refine W.st ?_ | refine SL.nilB ?_ | refine SL.nil ?_ | refine W.al fun b_ => ?_ | refine W.bx fun b_ => ?_ | refine W.bxa fun b_ => ?_ | refine W.sw ?_ | refine W.sa ?_ | refine W.sk ?_ | refine W.bs0 fun b_ => ?_ | refine W.ma fun b_ => ?_ | refine W.bsl fun b_ => ?_ | refine W.zu ?_ | refine W.zf ?_ | refine W.zd ?_ | refine W.zs ?_ | refine W.zv ?_ | refine W.zx ?_ | refine W.ex ?_ | refine W.mf ?_ | refine W.mk ?_ | refine SW.seq ?_ | refine SW.region ?_ | refine SW.block ?_ | refine SW.cond_t rfl ?_ | refine SW.cond_f rfl ?_ | refine SW.exit ?_ | refine SW.ret ?_ | refine SW.skip ?_))
  (refine SW.regionS [8] ?_ (by kernel_rfl); refine SS.tw 0 rfl (p_move rfl rfl) ?_; refine SS.tw 1 rfl (p_nil rfl rfl) ?_; refine SS.tw 2 rfl (p_fieldAddr rfl rfl OfN.ok) ?_; (first | refine SS.ls 3 [8] rfl ?_ | refine SS.tw 3 rfl (p_load_sR rfl rfl (by assumption) (by assumption) (by assumption)) ?_); refine SS.tw 4 rfl (p_fieldAddr rfl rfl OfN.ok) ?_; (first | refine SS.lw 5 [8] rfl ?_ | refine SS.la 5 [8] rfl ?_ | refine SS.tw 5 rfl (p_load_aR rfl rfl (by assumption) (by assumption) (by assumption) (by assumption)) ?_); refine SS.tw 6 rfl (p_fieldAddr rfl rfl OfN.ok) ?_; (first | refine SS.lw 7 [8] rfl ?_ | refine SS.la 7 [8] rfl ?_ | refine SS.tw 7 rfl (p_load_aR rfl rfl (by assumption) (by assumption) (by assumption) (by assumption)) ?_); refine SS.effB 8 ?_ rfl (by kernel_rfl))
  refine SL.callv [] rfl rfl rfl rfl rfl rfl k1 (fun _ _ => trivial) ?_
  rintro _ _ ⟨rfl, rfl⟩
  cases q1 : less (x.a, x.b) (y.a, y.b) with
  | true =>
    have e : lts less x y = true := by unfold lts; rw [q1]; rfl
    (refine SL.nilB ?_; refine SS.tw 9 rfl (p_assign rfl rfl) ?_; refine SS.done ?_ (by kernel_rfl))
    (repeat' (first | refine W.mv ?_ | refine W.zl ?_ | refine W.fa ?_ | refine W.nl ?_ | refine W.as ?_ | refine W.zb ?_ | refine W.za ?_ | refine W.zi ?_ | refine W.zc ?_ | refine W.zp ?_ | refine W.st ?_ | refine SL.nilB ?_ | refine SL.nil ?_ | refine W.al fun b_ => ?_ | refine W.bx fun b_ => ?_ | refine W.bxa fun b_ => ?_ | refine W.sw ?_ | refine W.sa ?_ | refine W.sk ?_ | refine W.bs0 fun b_ => ?_ | refine W.ma fun b_ => ?_ | refine W.bsl fun b_ => ?_ | refine W.zu ?_ | refine W.zf ?_ | refine W.zd ?_ | refine W.zs ?_ | refine W.zv ?_ | refine W.zx ?_ | refine W.ex ?_ | refine W.mf ?_ | refine W.mk ?_ | refine SW.seq ?_ | refine SW.region ?_ | refine SW.block ?_ | refine SW.cond_t rfl ?_ | refine SW.cond_f rfl ?_ | refine SW.exit ?_ | refine SW.ret ?_ | refine SW.skip ?_))
    rw [e]
    refine Fin.to ((rp, cl (rwc (.slice (some ⟨b, 0, none⟩) len cap) fl) 131) :: [(b, cl A 136)]) ?_
    exact F.f1 ⟨rfl, rfl⟩
  | false =>
    (refine SL.nilB ?_; refine SS.tw 9 rfl (p_assign rfl rfl) ?_; refine SS.done ?_ (by kernel_rfl))
    (repeat' (first | refine W.mv ?_ | refine W.zl ?_ | refine W.fa ?_ | refine W.nl ?_ | refine W.as ?_ | refine W.zb ?_ | refine W.za ?_ | refine W.zi ?_ | refine W.zc ?_ | refine W.zp ?_ | refine W.st ?_ | refine SL.nilB ?_ | refine SL.nil ?_ | refine W.al fun b_ => ?_ | refine W.bx fun b_ => ?_ | refine W.bxa fun b_ => ?_ | refine W.sw ?_ | refine W.sa ?_ | refine W.sk ?_ | refine W.bs0 fun b_ => ?_ | refine W.ma fun b_ => ?_ | refine W.bsl fun b_ => ?_ | refine W.zu ?_ | refine W.zf ?_ | refine W.zd ?_ | refine W.zs ?_ | refine W.zv ?_ | refine W.zx ?_ | refine W.ex ?_ | refine W.mf ?_ | refine W.mk ?_ | refine SW.seq ?_ | refine SW.region ?_ | refine SW.block ?_ | refine SW.cond_t rfl ?_ | refine SW.cond_f rfl ?_ | refine SW.exit ?_ | refine SW.ret ?_ | refine SW.skip ?_))
    (refine SW.regionS [8] ?_ (by kernel_rfl); refine SS.tw 0 rfl (p_move rfl rfl) ?_; refine SS.tw 1 rfl (p_nil rfl rfl) ?_; refine SS.tw 2 rfl (p_fieldAddr rfl rfl OfN.ok) ?_; (first | refine SS.ls 3 [8] rfl ?_ | refine SS.tw 3 rfl (p_load_sR rfl rfl (by assumption) (by assumption) (by assumption)) ?_); refine SS.tw 4 rfl (p_fieldAddr rfl rfl OfN.ok) ?_; (first | refine SS.lw 5 [8] rfl ?_ | refine SS.la 5 [8] rfl ?_ | refine SS.tw 5 rfl (p_load_aR rfl rfl (by assumption) (by assumption) (by assumption) (by assumption)) ?_); refine SS.tw 6 rfl (p_fieldAddr rfl rfl OfN.ok) ?_; (first | refine SS.lw 7 [8] rfl ?_ | refine SS.la 7 [8] rfl ?_ | refine SS.tw 7 rfl (p_load_aR rfl rfl (by assumption) (by assumption) (by assumption) (by assumption)) ?_); refine SS.effB 8 ?_ rfl (by kernel_rfl))
    refine SL.callv [] rfl rfl rfl rfl rfl rfl k2 (fun _ _ => trivial) ?_
    rintro _ _ ⟨rfl, rfl⟩
    cases q2 : less (y.a, y.b) (x.a, x.b) with
    | true =>
      have e : lts less x y = false := by unfold lts; rw [q1, q2]; rfl
      (refine SL.nilB ?_; refine SS.tw 9 rfl (p_assign rfl rfl) ?_; refine SS.done ?_ (by kernel_rfl))
      (repeat' (first | refine W.mv ?_ | refine W.zl ?_ | refine W.fa ?_ | refine W.nl ?_ | refine W.as ?_ | refine W.zb ?_ | refine W.za ?_ | refine W.zi ?_ | refine W.zc ?_ | refine W.zp ?_ | refine W.st ?_ | refine SL.nilB ?_ | refine SL.nil ?_ | refine W.al fun b_ => ?_ | refine W.bx fun b_ => ?_ | refine W.bxa fun b_ => ?_ | refine W.sw ?_ | refine W.sa ?_ | refine W.sk ?_ | refine W.bs0 fun b_ => ?_ | refine W.ma fun b_ => ?_ | refine W.bsl fun b_ => ?_ | refine W.zu ?_ | refine W.zf ?_ | refine W.zd ?_ | refine W.zs ?_ | refine W.zv ?_ | refine W.zx ?_ | refine W.ex ?_ | refine W.mf ?_ | refine W.mk ?_ | refine SW.seq ?_ | refine SW.region ?_ | refine SW.block ?_ | refine SW.cond_t rfl ?_ | refine SW.cond_f rfl ?_ | refine SW.exit ?_ | refine SW.ret ?_ | refine SW.skip ?_))
      rw [e]
      refine Fin.to ((rp, cl (rwc (.slice (some ⟨b, 0, none⟩) len cap) fl) 131) :: [(b, cl A 136)]) ?_
      exact F.f1 ⟨rfl, rfl⟩
    | false =>
      have e : lts less x y = decide (x.num < y.num) := by unfold lts; rw [q1, q2]; rfl
      (refine SL.nilB ?_; refine SS.tw 9 rfl (p_assign rfl rfl) ?_; refine SS.done ?_ (by kernel_rfl))
      by_cases hlt : x.num < y.num
      · rw [e, decide_eq_true hlt]
        (repeat' (first | refine W.mv ?_ | refine W.zl ?_ | refine W.fa ?_ | refine W.nl ?_ | refine W.as ?_ | refine W.zb ?_ | refine W.za ?_ | refine W.zi ?_ | refine W.zc ?_ | refine W.zp ?_ | refine W.st ?_ | refine SL.nilB ?_ | refine SL.nil ?_ | refine W.al fun b_ => ?_ | refine W.bx fun b_ => ?_ | refine W.bxa fun b_ => ?_ | refine W.sw ?_ | refine W.sa ?_ | refine W.sk ?_ | refine W.bs0 fun b_ => ?_ | refine W.ma fun b_ => ?_ | refine W.bsl fun b_ => ?_ | refine W.zu ?_ | refine W.zf ?_ | refine W.zd ?_ | refine W.zs ?_ | refine W.zv ?_ | refine W.zx ?_ | refine W.ex ?_ | refine W.mf ?_ | refine W.mk ?_ | refine SW.seq ?_ | refine SW.region ?_ | refine SW.block ?_ | refine SW.cond_t rfl ?_ | refine SW.cond_f rfl ?_ | refine SW.exit ?_ | refine SW.ret ?_ | refine SW.skip ?_))
        refine Fin.to ((rp, cl (rwc (.slice (some ⟨b, 0, none⟩) len cap) fl) 131) :: [(b, cl A 136)]) ?_
        exact F.f1 ⟨rfl, rfl⟩
      · rw [e, decide_eq_false hlt]
        (repeat' (first | refine W.mv ?_ | refine W.zl ?_ | refine W.fa ?_ | refine W.nl ?_ | refine W.as ?_ | refine W.zb ?_ | refine W.za ?_ | refine W.zi ?_ | refine W.zc ?_ | refine W.zp ?_ | refine W.st ?_ | refine SL.nilB ?_ | refine SL.nil ?_ | refine W.al fun b_ => ?_ | refine W.bx fun b_ => ?_ | refine W.bxa fun b_ => ?_ | refine W.sw ?_ | refine W.sa ?_ | refine W.sk ?_ | refine W.bs0 fun b_ => ?_ | refine W.ma fun b_ => ?_ | refine W.bsl fun b_ => ?_ | refine W.zu ?_ | refine W.zf ?_ | refine W.zd ?_ | refine W.zs ?_ | refine W.zv ?_ | refine W.zx ?_ | refine W.ex ?_ | refine W.mf ?_ | refine W.mk ?_ | refine SW.seq ?_ | refine SW.region ?_ | refine SW.block ?_ | refine SW.cond_t rfl ?_ | refine SW.cond_f rfl ?_ | refine SW.exit ?_ | refine SW.ret ?_ | refine SW.skip ?_))
        refine Fin.to ((rp, cl (rwc (.slice (some ⟨b, 0, none⟩) len cap) fl) 131) :: [(b, cl A 136)]) ?_
        exact F.f1 ⟨rfl, rfl⟩
end Go.Proofs.YtieamijnajbcnaaGreat

namespace Go.Proofs.YtieamijnajbcnaaGreat
open Go
attribute [local irreducible] SW SL SQ SH SA SS Pu Fin CutF HandF
open Pq

abbrev gt (l : List Sx) : Nat → Sx := fun k => l.getD k default
theorem gt_at {l : List Sx} {k : Nat} {x : Sx} (h : l[k]? = some x) : gt l k = x := by simp [gt, List.getD, h]
theorem gt_ex {l : List Sx} {k : Nat} (h : k < l.length) : l[k]? = some (gt l k) := by simp [gt, List.getD, List.getElem?_eq_getElem h]
theorem gt_swp {l : List Sx} {i j : Nat} (hi : i < l.length) (hj : j < l.length) : gt ((l.set i (gt l j)).set j (gt l i)) = swp (gt l) i j := by
  funext k
  unfold swp gt
  simp only [List.getD_eq_getElem?_getD]
  rw [List.getElem?_set, List.getElem?_set, List.length_set]
  by_cases e1 : k = i
  · subst e1
    by_cases e2 : j = k
    · subst e2; simp [hj]
    · simp [e2, hi]
  · by_cases e2 : k = j
    · subst e2; simp [e1, hj]
    · simp [e1, e2, Ne.symm e1, Ne.symm e2]
theorem swap_perm {l : List Sx} {i j : Nat} (hi : i < l.length) (hj : j < l.length) : ((l.set i (gt l j)).set j (gt l i)).Perm l := by
  have h1 : gt l i = l[i] := by simp [gt, List.getD, List.getElem?_eq_getElem hi]
  have h2 : gt l j = l[j] := by simp [gt, List.getD, List.getElem?_eq_getElem hj]
  rw [h1, h2]
  exact List.set_set_perm hi hj
abbrev ifv (rp : Nat) : Value := .iface 128 (.pointer (some ⟨rp, 0, none⟩))
set_option maxRecDepth 100000 in
instance mLen : Meth Tryz.prog 128 "Len" 101 := ⟨⟨_, Tryz.underlying128⟩, by refine ⟨_, _, rfl, rfl, rfl, rfl⟩⟩
set_option maxRecDepth 100000 in
instance mLess : Meth Tryz.prog 128 "Less" 153 := ⟨⟨_, Tryz.underlying128⟩, by refine ⟨_, _, rfl, rfl, rfl, rfl⟩⟩
set_option maxRecDepth 100000 in
instance mSwap : Meth Tryz.prog 128 "Swap" 156 := ⟨⟨_, Tryz.underlying128⟩, by refine ⟨_, _, rfl, rfl, rfl, rfl⟩⟩
set_option maxRecDepth 100000 in
instance mPush : Meth Tryz.prog 128 "Push" 155 := ⟨⟨_, Tryz.underlying128⟩, by refine ⟨_, _, rfl, rfl, rfl, rfl⟩⟩
set_option maxRecDepth 100000 in
instance mPop : Meth Tryz.prog 128 "Pop" 154 := ⟨⟨_, Tryz.underlying128⟩, by refine ⟨_, _, rfl, rfl, rfl, rfl⟩⟩
section
variable {fl : FuncId} [hfl : IsFn Tryz.prog fl] {less : Int × Int → Int × Int → Bool} (hO : Ord (Int × Int) less) (hL : LessF fl less)
include hO hL
theorem hup_p {rp : Nat} {l : List Sx} {H : Hp} (h : QRowsP rp fl l H) (j : Nat) (hj : j < l.length) (hn : l.length ≤ 1000000) (hU : UpI (lts less) (gt l) j l.length) :
    Tri Tryz.prog 81 [ifv rp, .int .i64 (j : Int)] H (fun _ => True) (fun v H' => v = .tuple #[] ∧ ∃ l', QRowsP rp fl l' H' ∧ l'.Perm l ∧ HeapN (lts less) (gt l') l'.length) := by
  have hS := lts_ord hO
  refine Tri.mk Tryz.func81 rfl Tryz.ntmps81 rfl fun w hw => ?_
  (repeat' (first | refine W.mv ?_ | refine W.zl ?_ | refine W.fa ?_ | refine W.nl ?_ | refine W.as ?_ | refine W.zb ?_ | refine W.za ?_ | refine W.zi ?_ | refine W.zc ?_ | refine W.zp ?_ | refine W.st ?_ | refine SL.nilB ?_ | refine SL.nil ?_ | refine W.al fun b_ => ?_ | refine W.bx fun b_ => ?_ | refine W.bxa fun b_ => ?_ | refine W.sw ?_ | refine W.sa ?_ | refine W.sk ?_ | refine W.bs0 fun b_ => ?_ | refine W.ma fun b_ => ?_ | refine W.bsl fun b_ => ?_ | refine W.zu ?_ | refine W.zf ?_ | refine W.zd ?_ | refine W.zs ?_ | refine W.zv ?_ | refine W.zx ?_ | refine W.ex ?_ | refine W.mf ?_ | refine W.mk ?_ | refine SW.seq ?_ | refine SW.region ?_ | refine SW.block ?_ | refine SW.cond_t rfl ?_ | refine SW.cond_f rfl ?_ | refine SW.exit ?_ | refine SW.ret ?_ | refine SW.skip ?_))
  refine SW.loopF [0] (fun x : Nat × List Sx × Hp => [(1, .int .i64 (x.1 : Int))]) (fun x => x.2.2) (fun x => x.1) (fun x => QRowsP rp fl x.2.1 x.2.2 ∧ x.1 < x.2.1.length ∧ x.2.1.Perm l ∧ UpI (lts less) (gt x.2.1) x.1 x.2.1.length) (j, l, H) ⟨h, hj, List.Perm.refl _, hU⟩ ?_
  rintro ⟨j, k, H⟩ ⟨h, hj, hp, hU⟩
  dsimp only at h hj hp hU ⊢
  have hkl := hp.length_eq
  by_cases h0 : j = 0
  · subst h0
    (repeat' (first | refine W.mv ?_ | refine W.zl ?_ | refine W.fa ?_ | refine W.nl ?_ | refine W.as ?_ | refine W.zb ?_ | refine W.za ?_ | refine W.zi ?_ | refine W.zc ?_ | refine W.zp ?_ | refine W.st ?_ | refine SL.nilB ?_ | refine SL.nil ?_ | refine W.al fun b_ => ?_ | refine W.bx fun b_ => ?_ | refine W.bxa fun b_ => ?_ | refine W.sw ?_ | refine W.sa ?_ | refine W.sk ?_ | refine W.bs0 fun b_ => ?_ | refine W.ma fun b_ => ?_ | refine W.bsl fun b_ => ?_ | refine W.zu ?_ | refine W.zf ?_ | refine W.zd ?_ | refine W.zs ?_ | refine W.zv ?_ | refine W.zx ?_ | refine W.ex ?_ | refine W.mf ?_ | refine W.mk ?_ | refine SW.seq ?_ | refine SW.region ?_ | refine SW.block ?_ | refine SW.cond_t rfl ?_ | refine SW.cond_f rfl ?_ | refine SW.exit ?_ | refine SW.ret ?_ | refine SW.skip ?_))
    refine SL.pu (p_quo (r := 0) rfl rfl rfl (by decide) rfl) rfl rfl ?_
    (repeat' (first | refine W.mv ?_ | refine W.zl ?_ | refine W.fa ?_ | refine W.nl ?_ | refine W.as ?_ | refine W.zb ?_ | refine W.za ?_ | refine W.zi ?_ | refine W.zc ?_ | refine W.zp ?_ | refine W.st ?_ | refine SL.nilB ?_ | refine SL.nil ?_ | refine W.al fun b_ => ?_ | refine W.bx fun b_ => ?_ | refine W.bxa fun b_ => ?_ | refine W.sw ?_ | refine W.sa ?_ | refine W.sk ?_ | refine W.bs0 fun b_ => ?_ | refine W.ma fun b_ => ?_ | refine W.bsl fun b_ => ?_ | refine W.zu ?_ | refine W.zf ?_ | refine W.zd ?_ | refine W.zs ?_ | refine W.zv ?_ | refine W.zx ?_ | refine W.ex ?_ | refine W.mf ?_ | refine W.mk ?_ | refine SW.seq ?_ | refine SW.region ?_ | refine SW.block ?_ | refine SW.cond_t rfl ?_ | refine SW.cond_f rfl ?_ | refine SW.exit ?_ | refine SW.ret ?_ | refine SW.skip ?_))
    refine Fin.to H ?_
    exact F.f0 ⟨rfl, k, h, hp, up_zero hU⟩
  · obtain ⟨i, hi⟩ : ∃ i, i = (j - 1) / 2 := ⟨_, rfl⟩
    have hij : i < j := by omega
    have hii : ((j : Int) - 1) / 2 = (i : Int) := by omega
    have gj := gt_ex hj
    have gi := gt_ex (show i < k.length by omega)
    (repeat' (first | refine W.mv ?_ | refine W.zl ?_ | refine W.fa ?_ | refine W.nl ?_ | refine W.as ?_ | refine W.zb ?_ | refine W.za ?_ | refine W.zi ?_ | refine W.zc ?_ | refine W.zp ?_ | refine W.st ?_ | refine SL.nilB ?_ | refine SL.nil ?_ | refine W.al fun b_ => ?_ | refine W.bx fun b_ => ?_ | refine W.bxa fun b_ => ?_ | refine W.sw ?_ | refine W.sa ?_ | refine W.sk ?_ | refine W.bs0 fun b_ => ?_ | refine W.ma fun b_ => ?_ | refine W.bsl fun b_ => ?_ | refine W.zu ?_ | refine W.zf ?_ | refine W.zd ?_ | refine W.zs ?_ | refine W.zv ?_ | refine W.zx ?_ | refine W.ex ?_ | refine W.mf ?_ | refine W.mk ?_ | refine SW.seq ?_ | refine SW.region ?_ | refine SW.block ?_ | refine SW.cond_t rfl ?_ | refine SW.cond_f rfl ?_ | refine SW.exit ?_ | refine SW.ret ?_ | refine SW.skip ?_))
    rw [hii]
    refine W.inv (rLess_p hL h gj gi) ?_
    rintro _ H1 ⟨rfl, rfl⟩
    cases hlt : lts less (gt k j) (gt k i) with
    | false =>
      (repeat' (first | refine W.mv ?_ | refine W.zl ?_ | refine W.fa ?_ | refine W.nl ?_ | refine W.as ?_ | refine W.zb ?_ | refine W.za ?_ | refine W.zi ?_ | refine W.zc ?_ | refine W.zp ?_ | refine W.st ?_ | refine SL.nilB ?_ | refine SL.nil ?_ | refine W.al fun b_ => ?_ | refine W.bx fun b_ => ?_ | refine W.bxa fun b_ => ?_ | refine W.sw ?_ | refine W.sa ?_ | refine W.sk ?_ | refine W.bs0 fun b_ => ?_ | refine W.ma fun b_ => ?_ | refine W.bsl fun b_ => ?_ | refine W.zu ?_ | refine W.zf ?_ | refine W.zd ?_ | refine W.zs ?_ | refine W.zv ?_ | refine W.zx ?_ | refine W.ex ?_ | refine W.mf ?_ | refine W.mk ?_ | refine SW.seq ?_ | refine SW.region ?_ | refine SW.block ?_ | refine SW.cond_t rfl ?_ | refine SW.cond_f rfl ?_ | refine SW.exit ?_ | refine SW.ret ?_ | refine SW.skip ?_))
      refine Fin.to H1 ?_
      exact F.f0 ⟨rfl, k, h, hp, up_done hU (by rw [← hi]; exact hlt)⟩
    | true =>
      (repeat' (first | refine W.mv ?_ | refine W.zl ?_ | refine W.fa ?_ | refine W.nl ?_ | refine W.as ?_ | refine W.zb ?_ | refine W.za ?_ | refine W.zi ?_ | refine W.zc ?_ | refine W.zp ?_ | refine W.st ?_ | refine SL.nilB ?_ | refine SL.nil ?_ | refine W.al fun b_ => ?_ | refine W.bx fun b_ => ?_ | refine W.bxa fun b_ => ?_ | refine W.sw ?_ | refine W.sa ?_ | refine W.sk ?_ | refine W.bs0 fun b_ => ?_ | refine W.ma fun b_ => ?_ | refine W.bsl fun b_ => ?_ | refine W.zu ?_ | refine W.zf ?_ | refine W.zd ?_ | refine W.zs ?_ | refine W.zv ?_ | refine W.zx ?_ | refine W.ex ?_ | refine W.mf ?_ | refine W.mk ?_ | refine SW.seq ?_ | refine SW.region ?_ | refine SW.block ?_ | refine SW.cond_t rfl ?_ | refine SW.cond_f rfl ?_ | refine SW.exit ?_ | refine SW.ret ?_ | refine SW.skip ?_))
      refine W.inv (rSwap_p h gi gj) ?_
      rintro _ H2 ⟨rfl, h2⟩
      have hst := up_step hS hU (by omega) hj (by rw [← hi]; exact hlt)
      rw [← hi, ← gt_swp (by omega) hj] at hst
      have hp2 := swap_perm (l := k) (i := i) (j := j) (by omega) hj
      generalize ((k.set i (gt k j)).set j (gt k i)) = k2 at h2 hst hp2
      have hl2 := hp2.length_eq
      (repeat' (first | refine W.mv ?_ | refine W.zl ?_ | refine W.fa ?_ | refine W.nl ?_ | refine W.as ?_ | refine W.zb ?_ | refine W.za ?_ | refine W.zi ?_ | refine W.zc ?_ | refine W.zp ?_ | refine W.st ?_ | refine SL.nilB ?_ | refine SL.nil ?_ | refine W.al fun b_ => ?_ | refine W.bx fun b_ => ?_ | refine W.bxa fun b_ => ?_ | refine W.sw ?_ | refine W.sa ?_ | refine W.sk ?_ | refine W.bs0 fun b_ => ?_ | refine W.ma fun b_ => ?_ | refine W.bsl fun b_ => ?_ | refine W.zu ?_ | refine W.zf ?_ | refine W.zd ?_ | refine W.zs ?_ | refine W.zv ?_ | refine W.zx ?_ | refine W.ex ?_ | refine W.mf ?_ | refine W.mk ?_ | refine SW.seq ?_ | refine SW.region ?_ | refine SW.block ?_ | refine SW.cond_t rfl ?_ | refine SW.cond_f rfl ?_ | refine SW.exit ?_ | refine SW.ret ?_ | refine SW.skip ?_))
      refine HandF.mk (i, k2, H2) ?_
      exact ⟨h2, by dsimp only; omega, hp2.trans hp, by dsimp only; rw [hl2]; exact hst⟩
theorem hdown_p {rp : Nat} {l : List Sx} {H : Hp} (h : QRowsP rp fl l H) (n : Nat) (hn0 : n < l.length) (hn : l.length ≤ 1000000) (hD : DnI (lts less) (gt l) 0 n) :
    Tri Tryz.prog 83 [ifv rp, .int .i64 0, .int .i64 (n : Int)] H (fun _ => True) (fun v H' => ∃ l', QRowsP rp fl l' H' ∧ l'.Perm l ∧ gt l' n = gt l n ∧ HeapN (lts less) (gt l') n) := by
  have hS := lts_ord hO
  refine Tri.mk Tryz.func83 rfl Tryz.ntmps83 rfl fun w hw => ?_
  (repeat' (first | refine W.mv ?_ | refine W.zl ?_ | refine W.fa ?_ | refine W.nl ?_ | refine W.as ?_ | refine W.zb ?_ | refine W.za ?_ | refine W.zi ?_ | refine W.zc ?_ | refine W.zp ?_ | refine W.st ?_ | refine SL.nilB ?_ | refine SL.nil ?_ | refine W.al fun b_ => ?_ | refine W.bx fun b_ => ?_ | refine W.bxa fun b_ => ?_ | refine W.sw ?_ | refine W.sa ?_ | refine W.sk ?_ | refine W.bs0 fun b_ => ?_ | refine W.ma fun b_ => ?_ | refine W.bsl fun b_ => ?_ | refine W.zu ?_ | refine W.zf ?_ | refine W.zd ?_ | refine W.zs ?_ | refine W.zv ?_ | refine W.zx ?_ | refine W.ex ?_ | refine W.mf ?_ | refine W.mk ?_ | refine SW.seq ?_ | refine SW.region ?_ | refine SW.cond_t rfl ?_ | refine SW.cond_f rfl ?_ | refine SW.exit ?_ | refine SW.ret ?_ | refine SW.skip ?_))
  refine SW.cutH [0, 1, 2] H (fun x : Int × List Sx × Hp => [(7, .int .i64 x.1)]) (fun x => x.2.2) (fun x => QRowsP rp fl x.2.1 x.2.2 ∧ x.2.1.Perm l ∧ gt x.2.1 n = gt l n ∧ HeapN (lts less) (gt x.2.1) n) ?_ ?_
  · (repeat' (first | refine W.mv ?_ | refine W.zl ?_ | refine W.fa ?_ | refine W.nl ?_ | refine W.as ?_ | refine W.zb ?_ | refine W.za ?_ | refine W.zi ?_ | refine W.zc ?_ | refine W.zp ?_ | refine W.st ?_ | refine SL.nilB ?_ | refine SL.nil ?_ | refine W.al fun b_ => ?_ | refine W.bx fun b_ => ?_ | refine W.bxa fun b_ => ?_ | refine W.sw ?_ | refine W.sa ?_ | refine W.sk ?_ | refine W.bs0 fun b_ => ?_ | refine W.ma fun b_ => ?_ | refine W.bsl fun b_ => ?_ | refine W.zu ?_ | refine W.zf ?_ | refine W.zd ?_ | refine W.zs ?_ | refine W.zv ?_ | refine W.zx ?_ | refine W.ex ?_ | refine W.mf ?_ | refine W.mk ?_ | refine SW.seq ?_ | refine SW.region ?_ | refine SW.block ?_ | refine SW.cond_t rfl ?_ | refine SW.cond_f rfl ?_ | refine SW.exit ?_ | refine SW.ret ?_ | refine SW.skip ?_))
    refine SW.loopF [0, 1, 2] (fun x : Nat × List Sx × Hp => [(7, .int .i64 (x.1 : Int))]) (fun x => x.2.2) (fun x => n - x.1) (fun x => QRowsP rp fl x.2.1 x.2.2 ∧ (x.1 = 0 ∨ x.1 < n) ∧ x.2.1.Perm l ∧ gt x.2.1 n = gt l n ∧ DnI (lts less) (gt x.2.1) x.1 n) (0, l, H) ⟨h, .inl rfl, List.Perm.refl _, rfl, hD⟩ ?_
    rintro ⟨i, k, H⟩ ⟨h, hi, hp, hgn, hD⟩
    dsimp only at h hi hp hgn hD ⊢
    have hkl := hp.length_eq
    by_cases hb : n ≤ 2 * i + 1
    · (repeat' (first | refine W.mv ?_ | refine W.zl ?_ | refine W.fa ?_ | refine W.nl ?_ | refine W.as ?_ | refine W.zb ?_ | refine W.za ?_ | refine W.zi ?_ | refine W.zc ?_ | refine W.zp ?_ | refine W.st ?_ | refine SL.nilB ?_ | refine SL.nil ?_ | refine W.al fun b_ => ?_ | refine W.bx fun b_ => ?_ | refine W.bxa fun b_ => ?_ | refine W.sw ?_ | refine W.sa ?_ | refine W.sk ?_ | refine W.bs0 fun b_ => ?_ | refine W.ma fun b_ => ?_ | refine W.bsl fun b_ => ?_ | refine W.zu ?_ | refine W.zf ?_ | refine W.zd ?_ | refine W.zs ?_ | refine W.zv ?_ | refine W.zx ?_ | refine W.ex ?_ | refine W.mf ?_ | refine W.mk ?_ | refine SW.seq ?_ | refine SW.region ?_ | refine SW.block ?_ | refine SW.cond_t rfl ?_ | refine SW.cond_f rfl ?_ | refine SW.exit ?_ | refine SW.ret ?_ | refine SW.skip ?_))
      refine CutF.mk ((i : Int), k, H) ?_
      exact ⟨h, hp, hgn, dn_none hD hb⟩
    · have g0 := gt_ex (l := k) (k := i) (by omega)
      have g1 := gt_ex (l := k) (k := 2 * i + 1) (by omega)
      have z1 : 2 * (i : Int) + 1 = ((2 * i + 1 : Nat) : Int) := by omega
      have z2 : ((2 * i + 1 : Nat) : Int) + 1 = ((2 * i + 2 : Nat) : Int) := by omega
      by_cases hb2 : 2 * i + 2 < n
      · have g2 := gt_ex (l := k) (k := 2 * i + 2) (by omega)
        (repeat' (first | refine W.mv ?_ | refine W.zl ?_ | refine W.fa ?_ | refine W.nl ?_ | refine W.as ?_ | refine W.zb ?_ | refine W.za ?_ | refine W.zi ?_ | refine W.zc ?_ | refine W.zp ?_ | refine W.st ?_ | refine SL.nilB ?_ | refine SL.nil ?_ | refine W.al fun b_ => ?_ | refine W.bx fun b_ => ?_ | refine W.bxa fun b_ => ?_ | refine W.sw ?_ | refine W.sa ?_ | refine W.sk ?_ | refine W.bs0 fun b_ => ?_ | refine W.ma fun b_ => ?_ | refine W.bsl fun b_ => ?_ | refine W.zu ?_ | refine W.zf ?_ | refine W.zd ?_ | refine W.zs ?_ | refine W.zv ?_ | refine W.zx ?_ | refine W.ex ?_ | refine W.mf ?_ | refine W.mk ?_ | refine SW.seq ?_ | refine SW.region ?_ | refine SW.block ?_ | refine SW.cond_t rfl ?_ | refine SW.cond_f rfl ?_ | refine SW.exit ?_ | refine SW.ret ?_ | refine SW.skip ?_))
        rw [z1, z2]
        refine W.inv (rLess_p hL h g2 g1) ?_
        rintro _ H0 ⟨rfl, rfl⟩
        cases h12 : lts less (gt k (2 * i + 2)) (gt k (2 * i + 1)) with
        | false =>
          have hJ : DnJ (lts less) (gt k) i n (2 * i + 1) := ⟨by omega, .inl rfl, fun q hq hqq => by
            rcases hqq with rfl | rfl
            · exact le_refl hS _
            · exact h12⟩
          (repeat' (first | refine W.mv ?_ | refine W.zl ?_ | refine W.fa ?_ | refine W.nl ?_ | refine W.as ?_ | refine W.zb ?_ | refine W.za ?_ | refine W.zi ?_ | refine W.zc ?_ | refine W.zp ?_ | refine W.st ?_ | refine SL.nilB ?_ | refine SL.nil ?_ | refine W.al fun b_ => ?_ | refine W.bx fun b_ => ?_ | refine W.bxa fun b_ => ?_ | refine W.sw ?_ | refine W.sa ?_ | refine W.sk ?_ | refine W.bs0 fun b_ => ?_ | refine W.ma fun b_ => ?_ | refine W.bsl fun b_ => ?_ | refine W.zu ?_ | refine W.zf ?_ | refine W.zd ?_ | refine W.zs ?_ | refine W.zv ?_ | refine W.zx ?_ | refine W.ex ?_ | refine W.mf ?_ | refine W.mk ?_ | refine SW.seq ?_ | refine SW.region ?_ | refine SW.block ?_ | refine SW.cond_t rfl ?_ | refine SW.cond_f rfl ?_ | refine SW.exit ?_ | refine SW.ret ?_ | refine SW.skip ?_))
          refine W.inv (rLess_p hL h g1 g0) ?_
          rintro _ H1 ⟨rfl, rfl⟩
          cases hlt : lts less (gt k (2 * i + 1)) (gt k i) with
          | false =>
            (repeat' (first | refine W.mv ?_ | refine W.zl ?_ | refine W.fa ?_ | refine W.nl ?_ | refine W.as ?_ | refine W.zb ?_ | refine W.za ?_ | refine W.zi ?_ | refine W.zc ?_ | refine W.zp ?_ | refine W.st ?_ | refine SL.nilB ?_ | refine SL.nil ?_ | refine W.al fun b_ => ?_ | refine W.bx fun b_ => ?_ | refine W.bxa fun b_ => ?_ | refine W.sw ?_ | refine W.sa ?_ | refine W.sk ?_ | refine W.bs0 fun b_ => ?_ | refine W.ma fun b_ => ?_ | refine W.bsl fun b_ => ?_ | refine W.zu ?_ | refine W.zf ?_ | refine W.zd ?_ | refine W.zs ?_ | refine W.zv ?_ | refine W.zx ?_ | refine W.ex ?_ | refine W.mf ?_ | refine W.mk ?_ | refine SW.seq ?_ | refine SW.region ?_ | refine SW.block ?_ | refine SW.cond_t rfl ?_ | refine SW.cond_f rfl ?_ | refine SW.exit ?_ | refine SW.ret ?_ | refine SW.skip ?_))
            refine CutF.mk ((i : Int), k, H1) ?_
            exact ⟨h, hp, hgn, dn_done hS hD hJ hlt⟩
          | true =>
            (repeat' (first | refine W.mv ?_ | refine W.zl ?_ | refine W.fa ?_ | refine W.nl ?_ | refine W.as ?_ | refine W.zb ?_ | refine W.za ?_ | refine W.zi ?_ | refine W.zc ?_ | refine W.zp ?_ | refine W.st ?_ | refine SL.nilB ?_ | refine SL.nil ?_ | refine W.al fun b_ => ?_ | refine W.bx fun b_ => ?_ | refine W.bxa fun b_ => ?_ | refine W.sw ?_ | refine W.sa ?_ | refine W.sk ?_ | refine W.bs0 fun b_ => ?_ | refine W.ma fun b_ => ?_ | refine W.bsl fun b_ => ?_ | refine W.zu ?_ | refine W.zf ?_ | refine W.zd ?_ | refine W.zs ?_ | refine W.zv ?_ | refine W.zx ?_ | refine W.ex ?_ | refine W.mf ?_ | refine W.mk ?_ | refine SW.seq ?_ | refine SW.region ?_ | refine SW.block ?_ | refine SW.cond_t rfl ?_ | refine SW.cond_f rfl ?_ | refine SW.exit ?_ | refine SW.ret ?_ | refine SW.skip ?_))
            refine W.inv (rSwap_p h g0 g1) ?_
            rintro _ H2 ⟨rfl, h2⟩
            have hst := dn_step hS hD hJ hlt
            have hjk : 2 * i + 1 < k.length := by omega
            have hgn2 : gt ((k.set i (gt k (2 * i + 1))).set (2 * i + 1) (gt k i)) n = gt k n := by rw [gt_swp (by omega) hjk, swp_o _ (by omega) (by omega)]
            rw [← gt_swp (by omega) hjk] at hst
            have hp2 := swap_perm (l := k) (i := i) (j := 2 * i + 1) (by omega) hjk
            generalize ((k.set i (gt k (2 * i + 1))).set (2 * i + 1) (gt k i)) = k2 at h2 hst hp2 hgn2
            (repeat' (first | refine W.mv ?_ | refine W.zl ?_ | refine W.fa ?_ | refine W.nl ?_ | refine W.as ?_ | refine W.zb ?_ | refine W.za ?_ | refine W.zi ?_ | refine W.zc ?_ | refine W.zp ?_ | refine W.st ?_ | refine SL.nilB ?_ | refine SL.nil ?_ | refine W.al fun b_ => ?_ | refine W.bx fun b_ => ?_ | refine W.bxa fun b_ => ?_ | refine W.sw ?_ | refine W.sa ?_ | refine W.sk ?_ | refine W.bs0 fun b_ => ?_ | refine W.ma fun b_ => ?_ | refine W.bsl fun b_ => ?_ | refine W.zu ?_ | refine W.zf ?_ | refine W.zd ?_ | refine W.zs ?_ | refine W.zv ?_ | refine W.zx ?_ | refine W.ex ?_ | refine W.mf ?_ | refine W.mk ?_ | refine SW.seq ?_ | refine SW.region ?_ | refine SW.block ?_ | refine SW.cond_t rfl ?_ | refine SW.cond_f rfl ?_ | refine SW.exit ?_ | refine SW.ret ?_ | refine SW.skip ?_))
            refine HandF.mk (2 * i + 1, k2, H2) ?_
            exact ⟨h2, .inr (by dsimp only; omega), hp2.trans hp, hgn2.trans hgn, hst⟩
        | true =>
          have hJ : DnJ (lts less) (gt k) i n (2 * i + 2) := ⟨hb2, .inr rfl, fun q hq hqq => by
            rcases hqq with rfl | rfl
            · exact le_of_lt hS h12
            · exact le_refl hS _⟩
          (repeat' (first | refine W.mv ?_ | refine W.zl ?_ | refine W.fa ?_ | refine W.nl ?_ | refine W.as ?_ | refine W.zb ?_ | refine W.za ?_ | refine W.zi ?_ | refine W.zc ?_ | refine W.zp ?_ | refine W.st ?_ | refine SL.nilB ?_ | refine SL.nil ?_ | refine W.al fun b_ => ?_ | refine W.bx fun b_ => ?_ | refine W.bxa fun b_ => ?_ | refine W.sw ?_ | refine W.sa ?_ | refine W.sk ?_ | refine W.bs0 fun b_ => ?_ | refine W.ma fun b_ => ?_ | refine W.bsl fun b_ => ?_ | refine W.zu ?_ | refine W.zf ?_ | refine W.zd ?_ | refine W.zs ?_ | refine W.zv ?_ | refine W.zx ?_ | refine W.ex ?_ | refine W.mf ?_ | refine W.mk ?_ | refine SW.seq ?_ | refine SW.region ?_ | refine SW.block ?_ | refine SW.cond_t rfl ?_ | refine SW.cond_f rfl ?_ | refine SW.exit ?_ | refine SW.ret ?_ | refine SW.skip ?_))
          refine W.inv (rLess_p hL h g2 g0) ?_
          rintro _ H1 ⟨rfl, rfl⟩
          cases hlt : lts less (gt k (2 * i + 2)) (gt k i) with
          | false =>
            (repeat' (first | refine W.mv ?_ | refine W.zl ?_ | refine W.fa ?_ | refine W.nl ?_ | refine W.as ?_ | refine W.zb ?_ | refine W.za ?_ | refine W.zi ?_ | refine W.zc ?_ | refine W.zp ?_ | refine W.st ?_ | refine SL.nilB ?_ | refine SL.nil ?_ | refine W.al fun b_ => ?_ | refine W.bx fun b_ => ?_ | refine W.bxa fun b_ => ?_ | refine W.sw ?_ | refine W.sa ?_ | refine W.sk ?_ | refine W.bs0 fun b_ => ?_ | refine W.ma fun b_ => ?_ | refine W.bsl fun b_ => ?_ | refine W.zu ?_ | refine W.zf ?_ | refine W.zd ?_ | refine W.zs ?_ | refine W.zv ?_ | refine W.zx ?_ | refine W.ex ?_ | refine W.mf ?_ | refine W.mk ?_ | refine SW.seq ?_ | refine SW.region ?_ | refine SW.block ?_ | refine SW.cond_t rfl ?_ | refine SW.cond_f rfl ?_ | refine SW.exit ?_ | refine SW.ret ?_ | refine SW.skip ?_))
            refine CutF.mk ((i : Int), k, H1) ?_
            exact ⟨h, hp, hgn, dn_done hS hD hJ hlt⟩
          | true =>
            (repeat' (first | refine W.mv ?_ | refine W.zl ?_ | refine W.fa ?_ | refine W.nl ?_ | refine W.as ?_ | refine W.zb ?_ | refine W.za ?_ | refine W.zi ?_ | refine W.zc ?_ | refine W.zp ?_ | refine W.st ?_ | refine SL.nilB ?_ | refine SL.nil ?_ | refine W.al fun b_ => ?_ | refine W.bx fun b_ => ?_ | refine W.bxa fun b_ => ?_ | refine W.sw ?_ | refine W.sa ?_ | refine W.sk ?_ | refine W.bs0 fun b_ => ?_ | refine W.ma fun b_ => ?_ | refine W.bsl fun b_ => ?_ | refine W.zu ?_ | refine W.zf ?_ | refine W.zd ?_ | refine W.zs ?_ | refine W.zv ?_ | refine W.zx ?_ | refine W.ex ?_ | refine W.mf ?_ | refine W.mk ?_ | refine SW.seq ?_ | refine SW.region ?_ | refine SW.block ?_ | refine SW.cond_t rfl ?_ | refine SW.cond_f rfl ?_ | refine SW.exit ?_ | refine SW.ret ?_ | refine SW.skip ?_))
            refine W.inv (rSwap_p h g0 g2) ?_
            rintro _ H2 ⟨rfl, h2⟩
            have hst := dn_step hS hD hJ hlt
            have hjk : 2 * i + 2 < k.length := by omega
            have hgn2 : gt ((k.set i (gt k (2 * i + 2))).set (2 * i + 2) (gt k i)) n = gt k n := by rw [gt_swp (by omega) hjk, swp_o _ (by omega) (by omega)]
            rw [← gt_swp (by omega) hjk] at hst
            have hp2 := swap_perm (l := k) (i := i) (j := 2 * i + 2) (by omega) hjk
            generalize ((k.set i (gt k (2 * i + 2))).set (2 * i + 2) (gt k i)) = k2 at h2 hst hp2 hgn2
            (repeat' (first | refine W.mv ?_ | refine W.zl ?_ | refine W.fa ?_ | refine W.nl ?_ | refine W.as ?_ | refine W.zb ?_ | refine W.za ?_ | refine W.zi ?_ | refine W.zc ?_ | refine W.zp ?_ | refine W.st ?_ | refine SL.nilB ?_ | refine SL.nil ?_ | refine W.al fun b_ => ?_ | refine W.bx fun b_ => ?_ | refine W.bxa fun b_ => ?_ | refine W.sw ?_ | refine W.sa ?_ | refine W.sk ?_ | refine W.bs0 fun b_ => ?_ | refine W.ma fun b_ => ?_ | refine W.bsl fun b_ => ?_ | refine W.zu ?_ | refine W.zf ?_ | refine W.zd ?_ | refine W.zs ?_ | refine W.zv ?_ | refine W.zx ?_ | refine W.ex ?_ | refine W.mf ?_ | refine W.mk ?_ | refine SW.seq ?_ | refine SW.region ?_ | refine SW.block ?_ | refine SW.cond_t rfl ?_ | refine SW.cond_f rfl ?_ | refine SW.exit ?_ | refine SW.ret ?_ | refine SW.skip ?_))
            refine HandF.mk (2 * i + 2, k2, H2) ?_
            exact ⟨h2, .inr (by dsimp only; omega), hp2.trans hp, hgn2.trans hgn, hst⟩
      · have hJ : DnJ (lts less) (gt k) i n (2 * i + 1) := ⟨by omega, .inl rfl, fun q hq hqq => by
          rcases hqq with rfl | rfl
          · exact le_refl hS _
          · omega⟩
        (repeat' (first | refine W.mv ?_ | refine W.zl ?_ | refine W.fa ?_ | refine W.nl ?_ | refine W.as ?_ | refine W.zb ?_ | refine W.za ?_ | refine W.zi ?_ | refine W.zc ?_ | refine W.zp ?_ | refine W.st ?_ | refine SL.nilB ?_ | refine SL.nil ?_ | refine W.al fun b_ => ?_ | refine W.bx fun b_ => ?_ | refine W.bxa fun b_ => ?_ | refine W.sw ?_ | refine W.sa ?_ | refine W.sk ?_ | refine W.bs0 fun b_ => ?_ | refine W.ma fun b_ => ?_ | refine W.bsl fun b_ => ?_ | refine W.zu ?_ | refine W.zf ?_ | refine W.zd ?_ | refine W.zs ?_ | refine W.zv ?_ | refine W.zx ?_ | refine W.ex ?_ | refine W.mf ?_ | refine W.mk ?_ | refine SW.seq ?_ | refine SW.region ?_ | refine SW.block ?_ | refine SW.cond_t rfl ?_ | refine SW.cond_f rfl ?_ | refine SW.exit ?_ | refine SW.ret ?_ | refine SW.skip ?_))
        rw [z1]
        refine W.inv (rLess_p hL h g1 g0) ?_
        rintro _ H1 ⟨rfl, rfl⟩
        cases hlt : lts less (gt k (2 * i + 1)) (gt k i) with
        | false =>
          (repeat' (first | refine W.mv ?_ | refine W.zl ?_ | refine W.fa ?_ | refine W.nl ?_ | refine W.as ?_ | refine W.zb ?_ | refine W.za ?_ | refine W.zi ?_ | refine W.zc ?_ | refine W.zp ?_ | refine W.st ?_ | refine SL.nilB ?_ | refine SL.nil ?_ | refine W.al fun b_ => ?_ | refine W.bx fun b_ => ?_ | refine W.bxa fun b_ => ?_ | refine W.sw ?_ | refine W.sa ?_ | refine W.sk ?_ | refine W.bs0 fun b_ => ?_ | refine W.ma fun b_ => ?_ | refine W.bsl fun b_ => ?_ | refine W.zu ?_ | refine W.zf ?_ | refine W.zd ?_ | refine W.zs ?_ | refine W.zv ?_ | refine W.zx ?_ | refine W.ex ?_ | refine W.mf ?_ | refine W.mk ?_ | refine SW.seq ?_ | refine SW.region ?_ | refine SW.block ?_ | refine SW.cond_t rfl ?_ | refine SW.cond_f rfl ?_ | refine SW.exit ?_ | refine SW.ret ?_ | refine SW.skip ?_))
          refine CutF.mk ((i : Int), k, H1) ?_
          exact ⟨h, hp, hgn, dn_done hS hD hJ hlt⟩
        | true =>
          (repeat' (first | refine W.mv ?_ | refine W.zl ?_ | refine W.fa ?_ | refine W.nl ?_ | refine W.as ?_ | refine W.zb ?_ | refine W.za ?_ | refine W.zi ?_ | refine W.zc ?_ | refine W.zp ?_ | refine W.st ?_ | refine SL.nilB ?_ | refine SL.nil ?_ | refine W.al fun b_ => ?_ | refine W.bx fun b_ => ?_ | refine W.bxa fun b_ => ?_ | refine W.sw ?_ | refine W.sa ?_ | refine W.sk ?_ | refine W.bs0 fun b_ => ?_ | refine W.ma fun b_ => ?_ | refine W.bsl fun b_ => ?_ | refine W.zu ?_ | refine W.zf ?_ | refine W.zd ?_ | refine W.zs ?_ | refine W.zv ?_ | refine W.zx ?_ | refine W.ex ?_ | refine W.mf ?_ | refine W.mk ?_ | refine SW.seq ?_ | refine SW.region ?_ | refine SW.block ?_ | refine SW.cond_t rfl ?_ | refine SW.cond_f rfl ?_ | refine SW.exit ?_ | refine SW.ret ?_ | refine SW.skip ?_))
          refine W.inv (rSwap_p h g0 g1) ?_
          rintro _ H2 ⟨rfl, h2⟩
          have hst := dn_step hS hD hJ hlt
          have hjk : 2 * i + 1 < k.length := by omega
          have hgn2 : gt ((k.set i (gt k (2 * i + 1))).set (2 * i + 1) (gt k i)) n = gt k n := by rw [gt_swp (by omega) hjk, swp_o _ (by omega) (by omega)]
          rw [← gt_swp (by omega) hjk] at hst
          have hp2 := swap_perm (l := k) (i := i) (j := 2 * i + 1) (by omega) hjk
          generalize ((k.set i (gt k (2 * i + 1))).set (2 * i + 1) (gt k i)) = k2 at h2 hst hp2 hgn2
          (repeat' (first | refine W.mv ?_ | refine W.zl ?_ | refine W.fa ?_ | refine W.nl ?_ | refine W.as ?_ | refine W.zb ?_ | refine W.za ?_ | refine W.zi ?_ | refine W.zc ?_ | refine W.zp ?_ | refine W.st ?_ | refine SL.nilB ?_ | refine SL.nil ?_ | refine W.al fun b_ => ?_ | refine W.bx fun b_ => ?_ | refine W.bxa fun b_ => ?_ | refine W.sw ?_ | refine W.sa ?_ | refine W.sk ?_ | refine W.bs0 fun b_ => ?_ | refine W.ma fun b_ => ?_ | refine W.bsl fun b_ => ?_ | refine W.zu ?_ | refine W.zf ?_ | refine W.zd ?_ | refine W.zs ?_ | refine W.zv ?_ | refine W.zx ?_ | refine W.ex ?_ | refine W.mf ?_ | refine W.mk ?_ | refine SW.seq ?_ | refine SW.region ?_ | refine SW.block ?_ | refine SW.cond_t rfl ?_ | refine SW.cond_f rfl ?_ | refine SW.exit ?_ | refine SW.ret ?_ | refine SW.skip ?_))
          refine HandF.mk (2 * i + 1, k2, H2) ?_
          exact ⟨h2, .inr (by dsimp only; omega), hp2.trans hp, hgn2.trans hgn, hst⟩
  rintro ⟨i, k, H⟩ ⟨h, hp, hgn, hH⟩
  dsimp only at h hp hgn hH ⊢
  (repeat' (first | refine W.mv ?_ | refine W.zl ?_ | refine W.fa ?_ | refine W.nl ?_ | refine W.as ?_ | refine W.zb ?_ | refine W.za ?_ | refine W.zi ?_ | refine W.zc ?_ | refine W.zp ?_ | refine W.st ?_ | refine SL.nilB ?_ | refine SL.nil ?_ | refine W.al fun b_ => ?_ | refine W.bx fun b_ => ?_ | refine W.bxa fun b_ => ?_ | refine W.sw ?_ | refine W.sa ?_ | refine W.sk ?_ | refine W.bs0 fun b_ => ?_ | refine W.ma fun b_ => ?_ | refine W.bsl fun b_ => ?_ | refine W.zu ?_ | refine W.zf ?_ | refine W.zd ?_ | refine W.zs ?_ | refine W.zv ?_ | refine W.zx ?_ | refine W.ex ?_ | refine W.mf ?_ | refine W.mk ?_ | refine SW.seq ?_ | refine SW.region ?_ | refine SW.block ?_ | refine SW.cond_t rfl ?_ | refine SW.cond_f rfl ?_ | refine SW.exit ?_ | refine SW.ret ?_ | refine SW.skip ?_))
  refine W.cr ?_
  (repeat' (first | refine W.mv ?_ | refine W.zl ?_ | refine W.fa ?_ | refine W.nl ?_ | refine W.as ?_ | refine W.zb ?_ | refine W.za ?_ | refine W.zi ?_ | refine W.zc ?_ | refine W.zp ?_ | refine W.st ?_ | refine SL.nilB ?_ | refine SL.nil ?_ | refine W.al fun b_ => ?_ | refine W.bx fun b_ => ?_ | refine W.bxa fun b_ => ?_ | refine W.sw ?_ | refine W.sa ?_ | refine W.sk ?_ | refine W.bs0 fun b_ => ?_ | refine W.ma fun b_ => ?_ | refine W.bsl fun b_ => ?_ | refine W.zu ?_ | refine W.zf ?_ | refine W.zd ?_ | refine W.zs ?_ | refine W.zv ?_ | refine W.zx ?_ | refine W.ex ?_ | refine W.mf ?_ | refine W.mk ?_ | refine SW.seq ?_ | refine SW.region ?_ | refine SW.block ?_ | refine SW.cond_t rfl ?_ | refine SW.cond_f rfl ?_ | refine SW.exit ?_ | refine SW.ret ?_ | refine SW.skip ?_))
  refine Fin.to H ?_
  exact F.f1 ⟨k, h, hp, hgn, hH⟩
end
end Go.Proofs.YtieamijnajbcnaaGreat

namespace Go.Proofs.YtieamijnajbcnaaGreat
open Go
attribute [local irreducible] SW SL SQ SH SA SS Pu Fin CutF HandF
open Pq

theorem gt_app {l : List Sx} {x : Sx} {k : Nat} (h : k < l.length) : gt (l ++ [x]) k = gt l k := by
  simp only [gt, List.getD_eq_getElem?_getD]
  rw [List.getElem?_append_left h]
theorem heap_congr {lt : Sx → Sx → Bool} {g g' : Nat → Sx} {n : Nat} (h : HeapN lt g n) (he : ∀ k, k < n → g' k = g k) : HeapN lt g' n := fun k h1 h2 => by
  rw [he k h2, he _ (by omega)]
  exact h k h1 h2
section
variable {fl : FuncId} [hfl : IsFn Tryz.prog fl] {less : Int × Int → Int × Int → Bool} (hO : Ord (Int × Int) less) (hL : LessF fl less)
include hO hL
theorem HPush_p {rp : Nat} {l : List Sx} {H : Hp} (h : QRowsP rp fl l H) (x : Sx) (hn : l.length < 1000000) (hH : HeapN (lts less) (gt l) l.length) :
    Tri Tryz.prog 46 [ifv rp, sxv x] H (fun _ => True) (fun v H' => v = .tuple #[] ∧ ∃ l', QRowsP rp fl l' H' ∧ l'.Perm (l ++ [x]) ∧ HeapN (lts less) (gt l') l'.length) := by
  refine Tri.mk Tryz.func46 rfl Tryz.ntmps46 rfl fun w hw => ?_
  (repeat' (first | refine W.mv ?_ | refine W.zl ?_ | refine W.fa ?_ | refine W.nl ?_ | refine W.as ?_ | refine W.zb ?_ | refine W.za ?_ | refine W.zi ?_ | refine W.zc ?_ | refine W.zp ?_ | refine W.st ?_ | refine SL.nilB ?_ | refine SL.nil ?_ | refine W.al fun b_ => ?_ | refine W.bx fun b_ => ?_ | refine W.bxa fun b_ => ?_ | refine W.sw ?_ | refine W.sa ?_ | refine W.sk ?_ | refine W.bs0 fun b_ => ?_ | refine W.ma fun b_ => ?_ | refine W.bsl fun b_ => ?_ | refine W.zu ?_ | refine W.zf ?_ | refine W.zd ?_ | refine W.zs ?_ | refine W.zv ?_ | refine W.zx ?_ | refine W.ex ?_ | refine W.mf ?_ | refine W.mk ?_ | refine SW.seq ?_ | refine SW.region ?_ | refine SW.block ?_ | refine SW.cond_t rfl ?_ | refine SW.cond_f rfl ?_ | refine SW.exit ?_ | refine SW.ret ?_ | refine SW.skip ?_))
  refine W.inv (rPush_p h x (by omega)) ?_
  rintro _ H1 ⟨rfl, h1⟩
  (repeat' (first | refine W.mv ?_ | refine W.zl ?_ | refine W.fa ?_ | refine W.nl ?_ | refine W.as ?_ | refine W.zb ?_ | refine W.za ?_ | refine W.zi ?_ | refine W.zc ?_ | refine W.zp ?_ | refine W.st ?_ | refine SL.nilB ?_ | refine SL.nil ?_ | refine W.al fun b_ => ?_ | refine W.bx fun b_ => ?_ | refine W.bxa fun b_ => ?_ | refine W.sw ?_ | refine W.sa ?_ | refine W.sk ?_ | refine W.bs0 fun b_ => ?_ | refine W.ma fun b_ => ?_ | refine W.bsl fun b_ => ?_ | refine W.zu ?_ | refine W.zf ?_ | refine W.zd ?_ | refine W.zs ?_ | refine W.zv ?_ | refine W.zx ?_ | refine W.ex ?_ | refine W.mf ?_ | refine W.mk ?_ | refine SW.seq ?_ | refine SW.region ?_ | refine SW.block ?_ | refine SW.cond_t rfl ?_ | refine SW.cond_f rfl ?_ | refine SW.exit ?_ | refine SW.ret ?_ | refine SW.skip ?_))
  refine W.inv (rLen_p h1) ?_
  rintro _ H2 ⟨rfl, rfl⟩
  have hl : (l ++ [x]).length = l.length + 1 := by simp
  have hU : UpI (lts less) (gt (l ++ [x])) l.length (l ++ [x]).length := by
    refine ⟨fun k h3 h4 h5 => ?_, fun k h3 h4 h5 h6 => by omega⟩
    rw [gt_app (show k < l.length by omega), gt_app (show (k - 1) / 2 < l.length by omega)]
    exact hH k h3 (by omega)
  (repeat' (first | refine W.mv ?_ | refine W.zl ?_ | refine W.fa ?_ | refine W.nl ?_ | refine W.as ?_ | refine W.zb ?_ | refine W.za ?_ | refine W.zi ?_ | refine W.zc ?_ | refine W.zp ?_ | refine W.st ?_ | refine SL.nilB ?_ | refine SL.nil ?_ | refine W.al fun b_ => ?_ | refine W.bx fun b_ => ?_ | refine W.bxa fun b_ => ?_ | refine W.sw ?_ | refine W.sa ?_ | refine W.sk ?_ | refine W.bs0 fun b_ => ?_ | refine W.ma fun b_ => ?_ | refine W.bsl fun b_ => ?_ | refine W.zu ?_ | refine W.zf ?_ | refine W.zd ?_ | refine W.zs ?_ | refine W.zv ?_ | refine W.zx ?_ | refine W.ex ?_ | refine W.mf ?_ | refine W.mk ?_ | refine SW.seq ?_ | refine SW.region ?_ | refine SW.block ?_ | refine SW.cond_t rfl ?_ | refine SW.cond_f rfl ?_ | refine SW.exit ?_ | refine SW.ret ?_ | refine SW.skip ?_))
  have hi : ((l ++ [x]).length : Int) - 1 = (l.length : Int) := by omega
  rw [hi]
  refine W.call (hup_p hO hL h1 l.length (by omega) (by omega) hU) ?_
  rintro _ H3 ⟨rfl, l', h3, hp, hH3⟩
  (repeat' (first | refine W.mv ?_ | refine W.zl ?_ | refine W.fa ?_ | refine W.nl ?_ | refine W.as ?_ | refine W.zb ?_ | refine W.za ?_ | refine W.zi ?_ | refine W.zc ?_ | refine W.zp ?_ | refine W.st ?_ | refine SL.nilB ?_ | refine SL.nil ?_ | refine W.al fun b_ => ?_ | refine W.bx fun b_ => ?_ | refine W.bxa fun b_ => ?_ | refine W.sw ?_ | refine W.sa ?_ | refine W.sk ?_ | refine W.bs0 fun b_ => ?_ | refine W.ma fun b_ => ?_ | refine W.bsl fun b_ => ?_ | refine W.zu ?_ | refine W.zf ?_ | refine W.zd ?_ | refine W.zs ?_ | refine W.zv ?_ | refine W.zx ?_ | refine W.ex ?_ | refine W.mf ?_ | refine W.mk ?_ | refine SW.seq ?_ | refine SW.region ?_ | refine SW.block ?_ | refine SW.cond_t rfl ?_ | refine SW.cond_f rfl ?_ | refine SW.exit ?_ | refine SW.ret ?_ | refine SW.skip ?_))
  refine Fin.to H3 ?_
  exact F.f0 ⟨rfl, l', h3, hp, hH3⟩
theorem HPop_p {rp : Nat} {l : List Sx} {H : Hp} (h : QRowsP rp fl l H) (h0 : 0 < l.length) (hn : l.length ≤ 1000000) (hH : HeapN (lts less) (gt l) l.length) :
    Tri Tryz.prog 48 [ifv rp] H (fun _ => True) (fun v H' => v = sxv (gt l 0) ∧ ∃ l', QRowsP rp fl l' H' ∧ (l' ++ [gt l 0]).Perm l ∧ HeapN (lts less) (gt l') l'.length) := by
  refine Tri.mk Tryz.func48 rfl Tryz.ntmps48 rfl fun w hw => ?_
  obtain ⟨n, hln⟩ : ∃ n, l.length = n + 1 := ⟨l.length - 1, by omega⟩
  have g0 := gt_ex (l := l) (k := 0) (by omega)
  have gn := gt_ex (l := l) (k := n) (by omega)
  have hi : (l.length : Int) - 1 = (n : Int) := by omega
  (repeat' (first | refine W.mv ?_ | refine W.zl ?_ | refine W.fa ?_ | refine W.nl ?_ | refine W.as ?_ | refine W.zb ?_ | refine W.za ?_ | refine W.zi ?_ | refine W.zc ?_ | refine W.zp ?_ | refine W.st ?_ | refine SL.nilB ?_ | refine SL.nil ?_ | refine W.al fun b_ => ?_ | refine W.bx fun b_ => ?_ | refine W.bxa fun b_ => ?_ | refine W.sw ?_ | refine W.sa ?_ | refine W.sk ?_ | refine W.bs0 fun b_ => ?_ | refine W.ma fun b_ => ?_ | refine W.bsl fun b_ => ?_ | refine W.zu ?_ | refine W.zf ?_ | refine W.zd ?_ | refine W.zs ?_ | refine W.zv ?_ | refine W.zx ?_ | refine W.ex ?_ | refine W.mf ?_ | refine W.mk ?_ | refine SW.seq ?_ | refine SW.region ?_ | refine SW.block ?_ | refine SW.cond_t rfl ?_ | refine SW.cond_f rfl ?_ | refine SW.exit ?_ | refine SW.ret ?_ | refine SW.skip ?_))
  refine W.inv (rLen_p h) ?_
  rintro _ H2 ⟨rfl, rfl⟩
  (repeat' (first | refine W.mv ?_ | refine W.zl ?_ | refine W.fa ?_ | refine W.nl ?_ | refine W.as ?_ | refine W.zb ?_ | refine W.za ?_ | refine W.zi ?_ | refine W.zc ?_ | refine W.zp ?_ | refine W.st ?_ | refine SL.nilB ?_ | refine SL.nil ?_ | refine W.al fun b_ => ?_ | refine W.bx fun b_ => ?_ | refine W.bxa fun b_ => ?_ | refine W.sw ?_ | refine W.sa ?_ | refine W.sk ?_ | refine W.bs0 fun b_ => ?_ | refine W.ma fun b_ => ?_ | refine W.bsl fun b_ => ?_ | refine W.zu ?_ | refine W.zf ?_ | refine W.zd ?_ | refine W.zs ?_ | refine W.zv ?_ | refine W.zx ?_ | refine W.ex ?_ | refine W.mf ?_ | refine W.mk ?_ | refine SW.seq ?_ | refine SW.region ?_ | refine SW.block ?_ | refine SW.cond_t rfl ?_ | refine SW.cond_f rfl ?_ | refine SW.exit ?_ | refine SW.ret ?_ | refine SW.skip ?_))
  rw [hi]
  refine W.inv (rSwap_p h g0 gn) ?_
  rintro _ H3 ⟨rfl, h3⟩
  have hs := gt_swp (l := l) (i := 0) (j := n) (by omega) (by omega)
  have hp := swap_perm (l := l) (i := 0) (j := n) (by omega) (by omega)
  generalize ((l.set 0 (gt l n)).set n (gt l 0)) = l1 at h3 hs hp
  have hl1 := hp.length_eq
  have hD : DnI (lts less) (gt l1) 0 n := by
    refine ⟨fun k h5 h6 h7 => ?_, fun k h5 h6 h7 h8 => absurd h8 (by omega)⟩
    rw [hs, swp_o _ (by omega) (by omega), swp_o _ (by omega) (by omega)]
    exact hH k h5 (by omega)
  have hg1 : gt l1 n = gt l 0 := by rw [hs, swp_r]
  (repeat' (first | refine W.mv ?_ | refine W.zl ?_ | refine W.fa ?_ | refine W.nl ?_ | refine W.as ?_ | refine W.zb ?_ | refine W.za ?_ | refine W.zi ?_ | refine W.zc ?_ | refine W.zp ?_ | refine W.st ?_ | refine SL.nilB ?_ | refine SL.nil ?_ | refine W.al fun b_ => ?_ | refine W.bx fun b_ => ?_ | refine W.bxa fun b_ => ?_ | refine W.sw ?_ | refine W.sa ?_ | refine W.sk ?_ | refine W.bs0 fun b_ => ?_ | refine W.ma fun b_ => ?_ | refine W.bsl fun b_ => ?_ | refine W.zu ?_ | refine W.zf ?_ | refine W.zd ?_ | refine W.zs ?_ | refine W.zv ?_ | refine W.zx ?_ | refine W.ex ?_ | refine W.mf ?_ | refine W.mk ?_ | refine SW.seq ?_ | refine SW.region ?_ | refine SW.block ?_ | refine SW.cond_t rfl ?_ | refine SW.cond_f rfl ?_ | refine SW.exit ?_ | refine SW.ret ?_ | refine SW.skip ?_))
  refine W.call (hdown_p hO hL h3 n (by omega) (by omega) hD) ?_
  rintro v4 H4 ⟨l2, h4, hp2, hg2, hH2⟩
  have hl2 := hp2.length_eq
  obtain ⟨l3, x, rfl⟩ : ∃ l3 x, l2 = l3 ++ [x] := ⟨l2.dropLast, l2.getLast (by intro e; rw [e] at hl2; simp at hl2; omega), (List.dropLast_concat_getLast _).symm⟩
  have hl3 : l3.length = n := by rw [List.length_append, List.length_singleton] at hl2; omega
  have hx : x = gt l 0 := by
    rw [← hg1, ← hg2, ← hl3]
    simp [gt]
  subst hx
  (repeat' (first | refine W.mv ?_ | refine W.zl ?_ | refine W.fa ?_ | refine W.nl ?_ | refine W.as ?_ | refine W.zb ?_ | refine W.za ?_ | refine W.zi ?_ | refine W.zc ?_ | refine W.zp ?_ | refine W.st ?_ | refine SL.nilB ?_ | refine SL.nil ?_ | refine W.al fun b_ => ?_ | refine W.bx fun b_ => ?_ | refine W.bxa fun b_ => ?_ | refine W.sw ?_ | refine W.sa ?_ | refine W.sk ?_ | refine W.bs0 fun b_ => ?_ | refine W.ma fun b_ => ?_ | refine W.bsl fun b_ => ?_ | refine W.zu ?_ | refine W.zf ?_ | refine W.zd ?_ | refine W.zs ?_ | refine W.zv ?_ | refine W.zx ?_ | refine W.ex ?_ | refine W.mf ?_ | refine W.mk ?_ | refine SW.seq ?_ | refine SW.region ?_ | refine SW.block ?_ | refine SW.cond_t rfl ?_ | refine SW.cond_f rfl ?_ | refine SW.exit ?_ | refine SW.ret ?_ | refine SW.skip ?_))
  refine W.inv (rPop_p h4 (by omega)) ?_
  rintro _ H5 ⟨rfl, h5⟩
  (repeat' (first | refine W.mv ?_ | refine W.zl ?_ | refine W.fa ?_ | refine W.nl ?_ | refine W.as ?_ | refine W.zb ?_ | refine W.za ?_ | refine W.zi ?_ | refine W.zc ?_ | refine W.zp ?_ | refine W.st ?_ | refine SL.nilB ?_ | refine SL.nil ?_ | refine W.al fun b_ => ?_ | refine W.bx fun b_ => ?_ | refine W.bxa fun b_ => ?_ | refine W.sw ?_ | refine W.sa ?_ | refine W.sk ?_ | refine W.bs0 fun b_ => ?_ | refine W.ma fun b_ => ?_ | refine W.bsl fun b_ => ?_ | refine W.zu ?_ | refine W.zf ?_ | refine W.zd ?_ | refine W.zs ?_ | refine W.zv ?_ | refine W.zx ?_ | refine W.ex ?_ | refine W.mf ?_ | refine W.mk ?_ | refine SW.seq ?_ | refine SW.region ?_ | refine SW.block ?_ | refine SW.cond_t rfl ?_ | refine SW.cond_f rfl ?_ | refine SW.exit ?_ | refine SW.ret ?_ | refine SW.skip ?_))
  refine Fin.to H5 ?_
  refine F.f1 ⟨rfl, l3, h5, hp2.trans hp, ?_⟩
  rw [hl3]
  exact heap_congr hH2 fun k hk => (gt_app (by omega)).symm
end
/-- The queue: the slots that are there, as they came. -/
def QueueP (qp : Nat) (fl : FuncId) (less : Int × Int → Int × Int → Bool) (ws : List Sx) (next : Nat) (H : Hp) : Prop :=
  ∃ rp l Hr, H = (qp, cl [.pointer (some ⟨rp, 0, none⟩), .int .i64 (next : Int)] 133) :: Hr ∧ QRowsP rp fl l Hr ∧ HeapN (lts less) (gt l) l.length ∧ l.Perm ws
instance funT : FunTy Tryz.prog 67 := ⟨⟨_, _, _, Tryz.underlying67⟩⟩
theorem QNew_p (fl : FuncId) (less : Int × Int → Int × Int → Bool) : Tri Tryz.prog 15 [.func (.func fl) #[] #[]] [] (fun _ => True) (fun v H => ∃ qp, v = .pointer (some ⟨qp, 0, none⟩) ∧ QueueP qp fl less [] 0 H) := by
  refine Tri.mk Tryz.func15 rfl Tryz.ntmps15 rfl fun w hw => ?_
  (repeat' (first | refine W.mv ?_ | refine W.zl ?_ | refine W.fa ?_ | refine W.nl ?_ | refine W.as ?_ | refine W.zb ?_ | refine W.za ?_ | refine W.zi ?_ | refine W.zc ?_ | refine W.zp ?_ | refine W.st ?_ | refine SL.nilB ?_ | refine SL.nil ?_ | refine W.al fun b_ => ?_ | refine W.bx fun b_ => ?_ | refine W.bxa fun b_ => ?_ | refine W.sw ?_ | refine W.sa ?_ | refine W.sk ?_ | refine W.bs0 fun b_ => ?_ | refine W.ma fun b_ => ?_ | refine W.bsl fun b_ => ?_ | refine W.zu ?_ | refine W.zf ?_ | refine W.zd ?_ | refine W.zs ?_ | refine W.zv ?_ | refine W.zx ?_ | refine W.ex ?_ | refine W.mf ?_ | refine W.mk ?_ | refine SW.seq ?_ | refine SW.region ?_ | refine SW.block ?_ | refine SW.cond_t rfl ?_ | refine SW.cond_f rfl ?_ | refine SW.exit ?_ | refine SW.ret ?_ | refine SW.skip ?_))
  refine W.nfF ?_
  have hb : bfill (fun i => [(0, 1), (1, 1)][i]?) ([.slice none 0 0] ++ [.nilFunc]) [(1, .func (.func fl) #[] #[])] = some (rwc (.slice none 0 0) fl) := rfl
  (repeat' (first | refine W.mv ?_ | refine W.zl ?_ | refine W.fa ?_ | refine W.nl ?_ | refine W.as ?_ | refine W.zb ?_ | refine W.za ?_ | refine W.zi ?_ | refine W.zc ?_ | refine W.zp ?_ | refine W.st ?_ | refine SL.nilB ?_ | refine SL.nil ?_ | refine W.al fun b_ => ?_ | refine W.bx fun b_ => ?_ | refine W.bxa fun b_ => ?_ | refine W.sw ?_ | refine W.sa ?_ | refine W.sk ?_ | refine W.bs0 fun b_ => ?_ | refine W.ma fun b_ => ?_ | refine W.bsl fun b_ => ?_ | refine W.zu ?_ | refine W.zf ?_ | refine W.zd ?_ | refine W.zs ?_ | refine W.zv ?_ | refine W.zx ?_ | refine W.ex ?_ | refine W.mf ?_ | refine W.mk ?_ | refine SW.seq ?_ | refine SW.region ?_ | refine SW.block ?_ | refine SW.cond_t rfl ?_ | refine SW.cond_f rfl ?_ | refine SW.exit ?_ | refine SW.ret ?_ | refine SW.skip ?_))
  rename_i b1
  refine F.f1 ?_
  exact ⟨b_, rfl, b1, [], [(b1, cl (rwc (.slice none 0 0) fl) 131)], rfl, ⟨_, [], Sl.nil _ _, rfl⟩, fun k h1 h2 => absurd h2 (by simp), List.Perm.refl _⟩
end Go.Proofs.YtieamijnajbcnaaGreat

namespace Go.Proofs.YtieamijnajbcnaaGreat
open Go
attribute [local irreducible] SW SL SQ SH SA SS Pu Fin CutF HandF
open Pq

/-- A cell and a value that are returned, with blocks. -/
theorem F.ct {P : Program} {C : Ctx} {ρ : Fr} {H : Hp} {fn : Func} {R : Value → Hp → Prop} {e : Exit} {t ty n b u : Nat} {l : List Value} {T : TypeId} {v2 : Value} (Hc : Hp) {s : Hp} (l2 : List Value) [hp : Part H Hc s] (hR : R (.tuple #[.agg l2.toArray, v2]) Hc) (he : e = .ret ∨ e = .normal := by first | exact .inl rfl | exact .inr rfl) (hrs : fn.results = #[.cell t ty, .tmp u] := by exact rfl) (ht : lk ρ t = some (.pointer (some ⟨b, 0, none⟩)) := by exact rfl) (hu : lk ρ u = some v2 := by exact rfl) (hat : At H b (cl l T) := by infer_instance) (hl : l = l2 := by first | assumption | exact rfl) (iR : RowTy P ty n := by infer_instance) (hn : l2.length = n := by first | assumption | exact rfl) : Fin P C fn R e ρ H := by
  subst hl
  exact Fin.c1t1 he hrs ht hu hn Hc hR
def tc (x : Int × Int) : List Value := [.int .i64 x.1, .int .i64 x.2]
instance (x : Int × Int) : OC (tc x) := by unfold tc; infer_instance
/-- Things with their numbers. -/
def numd : Nat → List (Int × Int) → List Sx
  | _, [] => []
  | n, x :: r => ⟨x.1, x.2, n⟩ :: numd (n + 1) r
theorem numd_len : ∀ (n : Nat) (l : List (Int × Int)), (numd n l).length = l.length
  | _, [] => rfl
  | n, x :: r => by simp [numd, numd_len (n + 1) r]
theorem numd_app : ∀ (n : Nat) (l : List (Int × Int)) (x : Int × Int), numd n (l ++ [x]) = numd n l ++ [⟨x.1, x.2, ((n + l.length : Nat) : Int)⟩]
  | n, [], x => rfl
  | n, y :: r, x => by
    rw [List.cons_append, numd, numd_app (n + 1) r x, numd, List.cons_append, List.length_cons]
    congr 4
    omega
theorem tc_at (xs : List (Int × Int)) {k : Nat} {x : Int × Int} (h : xs[k]? = some x) : ((xs.flatMap tc).drop (k * 2)).take 2 = tc x := by
  induction xs generalizing k with
  | nil => simp at h
  | cons y l ih =>
    rw [List.flatMap_cons]
    cases k with
    | zero =>
      simp at h; subst h
      rw [Nat.zero_mul, List.drop_zero, List.take_left']; rfl
    | succ k =>
      rw [show (k + 1) * 2 = 2 + k * 2 by omega, ← List.drop_drop, List.drop_left' (show (tc y).length = 2 from rfl)]
      exact ih (by simpa using h)
theorem tc_len (xs : List (Int × Int)) : (xs.flatMap tc).length = xs.length * 2 := by
  induction xs with
  | nil => rfl
  | cons x l ih => rw [List.flatMap_cons, List.length_append, ih, List.length_cons]; show 2 + _ = _; omega
section
variable {fl : FuncId} [hfl : IsFn Tryz.prog fl] {less : Int × Int → Int × Int → Bool} (hO : Ord (Int × Int) less) (hL : LessF fl less)
include hO hL
theorem QPush_p {qp : Nat} {ws : List Sx} {next : Nat} {H : Hp} (h : QueueP qp fl less ws next H) (xs : List (Int × Int)) (pv : Value) (hn : ws.length + xs.length < 1000000) (hx : next + xs.length < 1000000000) :
    Tri Tryz.prog 17 [.pointer (some ⟨qp, 0, none⟩), pv] H (fun w => Rd (H.map Prod.fst) w 2 pv (xs.flatMap tc)) (fun v H' => v = .tuple #[] ∧ QueueP qp fl less (ws ++ numd next xs) (next + xs.length) H') := by
  refine Tri.mk Tryz.func17 rfl Tryz.ntmps17 rfl fun w hw => ?_
  obtain ⟨pa, pl, pc, rfl, hpl, hpc, hpr⟩ := hw
  rw [tc_len] at hpl
  have hpl2 : xs.length = pl := by omega
  have h0 : QueueP qp fl less (ws ++ numd next (xs.take 0)) (next + 0) H := by
    have : ws ++ numd next (xs.take 0) = ws := by simp [numd]
    rw [this]; exact h
  (repeat' (first | refine W.mv ?_ | refine W.zl ?_ | refine W.fa ?_ | refine W.nl ?_ | refine W.as ?_ | refine W.zb ?_ | refine W.za ?_ | refine W.zi ?_ | refine W.zc ?_ | refine W.zp ?_ | refine W.st ?_ | refine SL.nilB ?_ | refine SL.nil ?_ | refine W.al fun b_ => ?_ | refine W.bx fun b_ => ?_ | refine W.bxa fun b_ => ?_ | refine W.sw ?_ | refine W.sa ?_ | refine W.sk ?_ | refine W.bs0 fun b_ => ?_ | refine W.ma fun b_ => ?_ | refine W.bsl fun b_ => ?_ | refine W.zu ?_ | refine W.zf ?_ | refine W.zd ?_ | refine W.zs ?_ | refine W.zv ?_ | refine W.zx ?_ | refine W.ex ?_ | refine W.mf ?_ | refine W.mk ?_ | refine SW.seq ?_ | refine SW.region ?_ | refine SW.block ?_ | refine SW.cond_t rfl ?_ | refine SW.cond_f rfl ?_ | refine SW.exit ?_ | refine SW.ret ?_ | refine SW.skip ?_))
  refine SW.loopF [0, 8, 9] (fun x : Nat × Hp => [(10, .int .i64 (x.1 : Int))]) (fun x => x.2) (fun x => pl - x.1) (fun x => x.1 ≤ pl ∧ QueueP qp fl less (ws ++ numd next (xs.take x.1)) (next + x.1) x.2) (0, H) ⟨by omega, h0⟩ ?_
  rintro ⟨i, H⟩ ⟨hi, hQ⟩
  dsimp only at hi hQ ⊢
  by_cases hip : i < pl
  · obtain ⟨x, hxi⟩ : ∃ x, xs[i]? = some x := ⟨_, List.getElem?_eq_getElem (by omega)⟩
    obtain ⟨pb, po, lv, T, fz, rfl, hpb, hpk, hpy⟩ := hpr.resolve_left (by omega)
    have hlv : (lv.drop (po + i * 2)).take 2 = tc x := by
      rw [← tc_at xs hxi, ← hpy, List.drop_take, List.take_take, List.drop_drop, Nat.min_eq_left (by omega)]
    have hnx : numd next (xs.take (i + 1)) = numd next (xs.take i) ++ [⟨x.1, x.2, ((next + i : Nat) : Int)⟩] := by
      rw [List.take_add_one, hxi, Option.toList_some, numd_app, List.length_take, Nat.min_eq_left (by omega)]
    have hln : (numd next (xs.take i)).length = i := by rw [numd_len, List.length_take, Nat.min_eq_left (by omega)]
    obtain ⟨rp, l, Hr, rfl, hR, hH, hp⟩ := hQ
    have hll := hp.length_eq
    rw [List.length_append, hln] at hll
    have hx2 : (tc x).length = 2 := rfl
    have hb : bfill (fun i => [(0, 2), (2, 1)][i]?) [.int .i64 0, .int .i64 0, .int .i64 0] [(0, .agg (tc x).toArray), (1, .int .i64 ((next + i : Nat) : Int))] = some (sxc ⟨x.1, x.2, ((next + i : Nat) : Int)⟩) := rfl
    (repeat' (first | refine W.mv ?_ | refine W.zl ?_ | refine W.fa ?_ | refine W.nl ?_ | refine W.as ?_ | refine W.zb ?_ | refine W.za ?_ | refine W.zi ?_ | refine W.zc ?_ | refine W.zp ?_ | refine W.st ?_ | refine SL.nilB ?_ | refine SL.nil ?_ | refine W.al fun b_ => ?_ | refine W.bx fun b_ => ?_ | refine W.bxa fun b_ => ?_ | refine W.sw ?_ | refine W.sa ?_ | refine W.sk ?_ | refine W.bs0 fun b_ => ?_ | refine W.ma fun b_ => ?_ | refine W.bsl fun b_ => ?_ | refine W.zu ?_ | refine W.zf ?_ | refine W.zd ?_ | refine W.zs ?_ | refine W.zv ?_ | refine W.zx ?_ | refine W.ex ?_ | refine W.mf ?_ | refine W.mk ?_ | refine SW.seq ?_ | refine SW.region ?_ | refine SW.block ?_ | refine SW.cond_t rfl ?_ | refine SW.cond_f rfl ?_ | refine SW.exit ?_ | refine SW.ret ?_ | refine SW.skip ?_))
    (refine SW.regionS [12] ?_ (by kernel_rfl); refine SS.tw 0 rfl (p_move rfl rfl) ?_; refine SS.tw 1 rfl (p_nil rfl rfl) ?_; refine SS.tw 2 rfl (p_fieldAddr rfl rfl OfN.ok) ?_; (first | refine SS.ls 3 [4, 12] rfl ?_ | refine SS.tw 3 rfl (p_load_sR rfl rfl (by assumption) (by assumption) (by assumption)) ?_); refine SS.tw 4 rfl (p_mi rfl rfl) ?_; (first | refine SS.lw 5 [10, 11, 12] rfl ?_ | refine SS.la 5 [10, 11, 12] rfl ?_ | refine SS.tw 5 rfl (p_load_aR rfl rfl (by assumption) (by assumption) (by assumption) (by assumption)) ?_); refine SS.tw 6 rfl (p_move rfl rfl) ?_; refine SS.tw 7 rfl (p_nil rfl rfl) ?_; refine SS.tw 8 rfl (p_fieldAddr rfl rfl OfN.ok) ?_; (first | refine SS.ls 9 [10, 11, 12] rfl ?_ | refine SS.tw 9 rfl (p_load_sR rfl rfl (by assumption) (by assumption) (by assumption)) ?_); refine SS.tw 10 rfl (p_build rfl rfl (by first | assumption | rfl)) ?_; refine SS.tw 11 rfl (p_mi rfl rfl) ?_; refine SS.effB 12 ?_ rfl (by kernel_rfl))
    refine W.call (HPush_p hO hL hR ⟨x.1, x.2, ((next + i : Nat) : Int)⟩ (by omega) hH) ?_
    rintro _ H3 ⟨rfl, l', h3, hp3, hH3⟩
    (refine SL.nilB ?_; refine SS.done ?_ (by kernel_rfl))
    (repeat' (first | refine W.mv ?_ | refine W.zl ?_ | refine W.fa ?_ | refine W.nl ?_ | refine W.as ?_ | refine W.zb ?_ | refine W.za ?_ | refine W.zi ?_ | refine W.zc ?_ | refine W.zp ?_ | refine W.st ?_ | refine SL.nilB ?_ | refine SL.nil ?_ | refine W.al fun b_ => ?_ | refine W.bx fun b_ => ?_ | refine W.bxa fun b_ => ?_ | refine W.sw ?_ | refine W.sa ?_ | refine W.sk ?_ | refine W.bs0 fun b_ => ?_ | refine W.ma fun b_ => ?_ | refine W.bsl fun b_ => ?_ | refine W.zu ?_ | refine W.zf ?_ | refine W.zd ?_ | refine W.zs ?_ | refine W.zv ?_ | refine W.zx ?_ | refine W.ex ?_ | refine W.mf ?_ | refine W.mk ?_ | refine SW.seq ?_ | refine SW.region ?_ | refine SW.block ?_ | refine SW.cond_t rfl ?_ | refine SW.cond_f rfl ?_ | refine SW.exit ?_ | refine SW.ret ?_ | refine SW.skip ?_))
    rw [show ([.pointer (some ⟨rp, 0, none⟩), .int .i64 ((next + i : Nat) : Int)] : List Value).set 1 (.int .i64 (((next + i : Nat) : Int) + 1)) = [.pointer (some ⟨rp, 0, none⟩), .int .i64 ((next + (i + 1) : Nat) : Int)] from rfl]
    refine HandF.mk (i + 1, (qp, cl [.pointer (some ⟨rp, 0, none⟩), .int .i64 ((next + (i + 1) : Nat) : Int)] 133) :: H3) ?_
    refine ⟨by dsimp only; omega, rp, l', H3, rfl, h3, hH3, ?_⟩
    dsimp only
    rw [hnx, ← List.append_assoc]
    exact hp3.trans (List.Perm.append_right _ hp)
  · have hi2 : i = pl := by omega
    subst hi2
    rw [List.take_of_length_le (by omega)] at hQ
    rw [hpl2]
    (repeat' (first | refine W.mv ?_ | refine W.zl ?_ | refine W.fa ?_ | refine W.nl ?_ | refine W.as ?_ | refine W.zb ?_ | refine W.za ?_ | refine W.zi ?_ | refine W.zc ?_ | refine W.zp ?_ | refine W.st ?_ | refine SL.nilB ?_ | refine SL.nil ?_ | refine W.al fun b_ => ?_ | refine W.bx fun b_ => ?_ | refine W.bxa fun b_ => ?_ | refine W.sw ?_ | refine W.sa ?_ | refine W.sk ?_ | refine W.bs0 fun b_ => ?_ | refine W.ma fun b_ => ?_ | refine W.bsl fun b_ => ?_ | refine W.zu ?_ | refine W.zf ?_ | refine W.zd ?_ | refine W.zs ?_ | refine W.zv ?_ | refine W.zx ?_ | refine W.ex ?_ | refine W.mf ?_ | refine W.mk ?_ | refine SW.seq ?_ | refine SW.region ?_ | refine SW.block ?_ | refine SW.cond_t rfl ?_ | refine SW.cond_f rfl ?_ | refine SW.exit ?_ | refine SW.ret ?_ | refine SW.skip ?_))
    refine Fin.to H ?_
    exact F.f0 ⟨rfl, hQ⟩
omit hO hL hfl in
theorem QLenL {qp rp : Nat} {l : List Sx} {next : Nat} {Hr : Hp} (hR : QRowsP rp fl l Hr) : Tri Tryz.prog 82 [.pointer (some ⟨qp, 0, none⟩)] ((qp, cl [.pointer (some ⟨rp, 0, none⟩), .int .i64 (next : Int)] 133) :: Hr) (fun _ => True) (fun v H' => v = .int .i64 (l.length : Int) ∧ H' = (qp, cl [.pointer (some ⟨rp, 0, none⟩), .int .i64 (next : Int)] 133) :: Hr) := by
  refine Tri.mk Tryz.func82 rfl Tryz.ntmps82 rfl fun w hw => ?_
  (repeat' (first | refine W.mv ?_ | refine W.zl ?_ | refine W.fa ?_ | refine W.nl ?_ | refine W.as ?_ | refine W.zb ?_ | refine W.za ?_ | refine W.zi ?_ | refine W.zc ?_ | refine W.zp ?_ | refine W.st ?_ | refine SL.nilB ?_ | refine SL.nil ?_ | refine W.al fun b_ => ?_ | refine W.bx fun b_ => ?_ | refine W.bxa fun b_ => ?_ | refine W.sw ?_ | refine W.sa ?_ | refine W.sk ?_ | refine W.bs0 fun b_ => ?_ | refine W.ma fun b_ => ?_ | refine W.bsl fun b_ => ?_ | refine W.zu ?_ | refine W.zf ?_ | refine W.zd ?_ | refine W.zs ?_ | refine W.zv ?_ | refine W.zx ?_ | refine W.ex ?_ | refine W.mf ?_ | refine W.mk ?_ | refine SW.seq ?_ | refine SW.region ?_ | refine SW.block ?_ | refine SW.cond_t rfl ?_ | refine SW.cond_f rfl ?_ | refine SW.exit ?_ | refine SW.ret ?_ | refine SW.skip ?_))
  refine W.call (rLen_p hR) ?_
  rintro _ H1 ⟨rfl, rfl⟩
  (repeat' (first | refine W.mv ?_ | refine W.zl ?_ | refine W.fa ?_ | refine W.nl ?_ | refine W.as ?_ | refine W.zb ?_ | refine W.za ?_ | refine W.zi ?_ | refine W.zc ?_ | refine W.zp ?_ | refine W.st ?_ | refine SL.nilB ?_ | refine SL.nil ?_ | refine W.al fun b_ => ?_ | refine W.bx fun b_ => ?_ | refine W.bxa fun b_ => ?_ | refine W.sw ?_ | refine W.sa ?_ | refine W.sk ?_ | refine W.bs0 fun b_ => ?_ | refine W.ma fun b_ => ?_ | refine W.bsl fun b_ => ?_ | refine W.zu ?_ | refine W.zf ?_ | refine W.zd ?_ | refine W.zs ?_ | refine W.zv ?_ | refine W.zx ?_ | refine W.ex ?_ | refine W.mf ?_ | refine W.mk ?_ | refine SW.seq ?_ | refine SW.region ?_ | refine SW.block ?_ | refine SW.cond_t rfl ?_ | refine SW.cond_f rfl ?_ | refine SW.exit ?_ | refine SW.ret ?_ | refine SW.skip ?_))
  refine Fin.to ((qp, cl [.pointer (some ⟨rp, 0, none⟩), .int .i64 (next : Int)] 133) :: H1) ?_
  exact F.f1 ⟨rfl, rfl⟩
omit hO hL hfl in
theorem QPeekL {qp rp : Nat} {l : List Sx} {next : Nat} {Hr : Hp} (hR : QRowsP rp fl l Hr) : Tri Tryz.prog 47 [.pointer (some ⟨qp, 0, none⟩)] ((qp, cl [.pointer (some ⟨rp, 0, none⟩), .int .i64 (next : Int)] 133) :: Hr) (fun _ => True)
    (fun v H' => H' = (qp, cl [.pointer (some ⟨rp, 0, none⟩), .int .i64 (next : Int)] 133) :: Hr ∧ ((l.length = 0 ∧ v = .tuple #[.agg (tc (0, 0)).toArray, .bool false]) ∨ (0 < l.length ∧ v = .tuple #[.agg (tc ((gt l 0).a, (gt l 0).b)).toArray, .bool true]))) := by
  refine Tri.mk Tryz.func47 rfl Tryz.ntmps47 rfl fun w hw => ?_
  have hLen := QLenL (qp := qp) (next := next) hR
  (repeat' (first | refine W.mv ?_ | refine W.zl ?_ | refine W.fa ?_ | refine W.nl ?_ | refine W.as ?_ | refine W.zb ?_ | refine W.za ?_ | refine W.zi ?_ | refine W.zc ?_ | refine W.zp ?_ | refine W.st ?_ | refine SL.nilB ?_ | refine SL.nil ?_ | refine W.al fun b_ => ?_ | refine W.bx fun b_ => ?_ | refine W.bxa fun b_ => ?_ | refine W.sw ?_ | refine W.sa ?_ | refine W.sk ?_ | refine W.bs0 fun b_ => ?_ | refine W.ma fun b_ => ?_ | refine W.bsl fun b_ => ?_ | refine W.zu ?_ | refine W.zf ?_ | refine W.zd ?_ | refine W.zs ?_ | refine W.zv ?_ | refine W.zx ?_ | refine W.ex ?_ | refine W.mf ?_ | refine W.mk ?_ | refine SW.seq ?_ | refine SW.region ?_ | refine SW.block ?_ | refine SW.cond_t rfl ?_ | refine SW.cond_f rfl ?_ | refine SW.exit ?_ | refine SW.ret ?_ | refine SW.skip ?_))
  refine W.call hLen ?_
  rintro _ H1 ⟨rfl, rfl⟩
  by_cases h0 : l.length = 0
  · (repeat' (first | refine W.mv ?_ | refine W.zl ?_ | refine W.fa ?_ | refine W.nl ?_ | refine W.as ?_ | refine W.zb ?_ | refine W.za ?_ | refine W.zi ?_ | refine W.zc ?_ | refine W.zp ?_ | refine W.st ?_ | refine SL.nilB ?_ | refine SL.nil ?_ | refine W.al fun b_ => ?_ | refine W.bx fun b_ => ?_ | refine W.bxa fun b_ => ?_ | refine W.sw ?_ | refine W.sa ?_ | refine W.sk ?_ | refine W.bs0 fun b_ => ?_ | refine W.ma fun b_ => ?_ | refine W.bsl fun b_ => ?_ | refine W.zu ?_ | refine W.zf ?_ | refine W.zd ?_ | refine W.zs ?_ | refine W.zv ?_ | refine W.zx ?_ | refine W.ex ?_ | refine W.mf ?_ | refine W.mk ?_ | refine SW.seq ?_ | refine SW.region ?_ | refine SW.block ?_ | refine SW.cond_t rfl ?_ | refine SW.cond_f rfl ?_ | refine SW.exit ?_ | refine SW.ret ?_ | refine SW.skip ?_))
    refine F.ct ((qp, cl [.pointer (some ⟨rp, 0, none⟩), .int .i64 (next : Int)] 133) :: Hr) (tc (0, 0)) ?_
    exact ⟨rfl, .inl ⟨h0, rfl⟩⟩
  · obtain ⟨v, Hs, hv, rfl⟩ := hR
    rcases hv with ⟨rfl, hx, -⟩ | ⟨b, len, cap, J, rfl, hx, hJ, hlc, rfl⟩
    · have := fm3_len l; rw [hx] at this; simp at this; omega
    have hlen : l.length = len := by rw [fm3_len] at hx; omega
    have g0 := gt_ex (l := l) (k := 0) (by omega)
    have g1 := fm3_at l J g0
    have g2 : ((l.flatMap sxc ++ J).drop 0).take 2 = tc ((gt l 0).a, (gt l 0).b) := by
      have : (((l.flatMap sxc ++ J).drop (0 * 3)).take 3).take 2 = (sxc (gt l 0)).take 2 := by rw [g1]
      rw [List.take_take] at this
      exact this
    have ht2 : ∀ x, (tc x).length = 2 := fun x => rfl
    have ht3 := ht2 ((gt l 0).a, (gt l 0).b)
    generalize gt l 0 = x at g2 ht3 ⊢
    clear ht2
    generalize l.flatMap sxc ++ J = A at g2 ⊢
    (repeat' (first | refine W.mv ?_ | refine W.zl ?_ | refine W.fa ?_ | refine W.nl ?_ | refine W.as ?_ | refine W.zb ?_ | refine W.za ?_ | refine W.zi ?_ | refine W.zc ?_ | refine W.zp ?_ | refine W.st ?_ | refine SL.nilB ?_ | refine SL.nil ?_ | refine W.al fun b_ => ?_ | refine W.bx fun b_ => ?_ | refine W.bxa fun b_ => ?_ | refine W.sw ?_ | refine W.sa ?_ | refine W.sk ?_ | refine W.bs0 fun b_ => ?_ | refine W.ma fun b_ => ?_ | refine W.bsl fun b_ => ?_ | refine W.zu ?_ | refine W.zf ?_ | refine W.zd ?_ | refine W.zs ?_ | refine W.zv ?_ | refine W.zx ?_ | refine W.ex ?_ | refine W.mf ?_ | refine W.mk ?_ | refine SW.seq ?_ | refine SW.region ?_ | refine SW.block ?_ | refine SW.cond_t rfl ?_ | refine SW.cond_f rfl ?_ | refine SW.exit ?_ | refine SW.ret ?_ | refine SW.skip ?_))
    refine F.ct [(qp, cl [.pointer (some ⟨rp, 0, none⟩), .int .i64 (next : Int)] 133), (rp, cl (rwc (.slice (some ⟨b, 0, none⟩) len cap) fl) 131), (b, cl A 136)] (tc (x.a, x.b)) ?_
    exact ⟨rfl, .inr ⟨by omega, rfl⟩⟩
/-- The least one of those that are there. -/
def Min (less : Int × Int → Int × Int → Bool) (ws : List Sx) (x : Sx) : Prop := x ∈ ws ∧ ∀ y ∈ ws, le (lts less) x y
omit hL hfl in
theorem min_top {l ws : List Sx} (hH : HeapN (lts less) (gt l) l.length) (hp : l.Perm ws) (h0 : 0 < l.length) : Min less ws (gt l 0) := by
  refine ⟨hp.mem_iff.1 (List.mem_of_getElem? (gt_ex h0)), fun y hy => ?_⟩
  obtain ⟨k, hk, e⟩ := List.mem_iff_getElem.1 (hp.mem_iff.2 hy)
  have := heap_top (lts_ord hO) hH k hk
  rw [gt_at (l := l) (k := k) (x := y) (by rw [List.getElem?_eq_getElem hk, e])] at this
  exact this
theorem QPop_p {qp : Nat} {ws : List Sx} {next : Nat} {H : Hp} (h : QueueP qp fl less ws next H) (hn : ws.length ≤ 1000000) :
    Tri Tryz.prog 19 [.pointer (some ⟨qp, 0, none⟩)] H (fun _ => True) (fun v H' => (ws = [] ∧ H' = H ∧ v = .tuple #[.agg (tc (0, 0)).toArray, .bool false]) ∨ ∃ x, Min less ws x ∧ QueueP qp fl less (ws.erase x) next H' ∧ v = .tuple #[.agg (tc (x.a, x.b)).toArray, .bool true]) := by
  obtain ⟨rp, l, Hr, rfl, hR, hH, hp⟩ := h
  have hll := hp.length_eq
  refine Tri.mk Tryz.func19 rfl Tryz.ntmps19 rfl fun w hw => ?_
  have ht : ∀ x, (tc x).length = 2 := fun x => rfl
  (repeat' (first | refine W.mv ?_ | refine W.zl ?_ | refine W.fa ?_ | refine W.nl ?_ | refine W.as ?_ | refine W.zb ?_ | refine W.za ?_ | refine W.zi ?_ | refine W.zc ?_ | refine W.zp ?_ | refine W.st ?_ | refine SL.nilB ?_ | refine SL.nil ?_ | refine W.al fun b_ => ?_ | refine W.bx fun b_ => ?_ | refine W.bxa fun b_ => ?_ | refine W.sw ?_ | refine W.sa ?_ | refine W.sk ?_ | refine W.bs0 fun b_ => ?_ | refine W.ma fun b_ => ?_ | refine W.bsl fun b_ => ?_ | refine W.zu ?_ | refine W.zf ?_ | refine W.zd ?_ | refine W.zs ?_ | refine W.zv ?_ | refine W.zx ?_ | refine W.ex ?_ | refine W.mf ?_ | refine W.mk ?_ | refine SW.seq ?_ | refine SW.region ?_ | refine SW.block ?_ | refine SW.cond_t rfl ?_ | refine SW.cond_f rfl ?_ | refine SW.exit ?_ | refine SW.ret ?_ | refine SW.skip ?_))
  refine W.call (QPeekL (qp := qp) (next := next) hR) ?_
  rintro _ H1 ⟨rfl, (⟨h0, rfl⟩ | ⟨h0, rfl⟩)⟩
  · have ht0 := ht (0, 0)
    clear ht
    have hw0 : ws = [] := List.eq_nil_of_length_eq_zero (by omega)
    have hO0 : OC (tc (0, 0)) := inferInstance
    generalize hz : tc (0, 0) = Z at ht0 hO0 ⊢
    (repeat' (first | refine W.mv ?_ | refine W.zl ?_ | refine W.fa ?_ | refine W.nl ?_ | refine W.as ?_ | refine W.zb ?_ | refine W.za ?_ | refine W.zi ?_ | refine W.zc ?_ | refine W.zp ?_ | refine W.st ?_ | refine SL.nilB ?_ | refine SL.nil ?_ | refine W.al fun b_ => ?_ | refine W.bx fun b_ => ?_ | refine W.bxa fun b_ => ?_ | refine W.sw ?_ | refine W.sa ?_ | refine W.sk ?_ | refine W.bs0 fun b_ => ?_ | refine W.ma fun b_ => ?_ | refine W.bsl fun b_ => ?_ | refine W.zu ?_ | refine W.zf ?_ | refine W.zd ?_ | refine W.zs ?_ | refine W.zv ?_ | refine W.zx ?_ | refine W.ex ?_ | refine W.mf ?_ | refine W.mk ?_ | refine SW.seq ?_ | refine SW.region ?_ | refine SW.block ?_ | refine SW.cond_t rfl ?_ | refine SW.cond_f rfl ?_ | refine SW.exit ?_ | refine SW.ret ?_ | refine SW.skip ?_))
    refine F.ct ((qp, cl [.pointer (some ⟨rp, 0, none⟩), .int .i64 (next : Int)] 133) :: Hr) Z ?_
    exact .inl ⟨hw0, rfl, rfl⟩
  · have ht0 := ht ((gt l 0).a, (gt l 0).b)
    clear ht
    have hO1 : OC (tc ((gt l 0).a, (gt l 0).b)) := inferInstance
    generalize hz : tc ((gt l 0).a, (gt l 0).b) = Z at ht0 hO1 ⊢
    (repeat' (first | refine W.mv ?_ | refine W.zl ?_ | refine W.fa ?_ | refine W.nl ?_ | refine W.as ?_ | refine W.zb ?_ | refine W.za ?_ | refine W.zi ?_ | refine W.zc ?_ | refine W.zp ?_ | refine W.st ?_ | refine SL.nilB ?_ | refine SL.nil ?_ | refine W.al fun b_ => ?_ | refine W.bx fun b_ => ?_ | refine W.bxa fun b_ => ?_ | refine W.sw ?_ | refine W.sa ?_ | refine W.sk ?_ | refine W.bs0 fun b_ => ?_ | refine W.ma fun b_ => ?_ | refine W.bsl fun b_ => ?_ | refine W.zu ?_ | refine W.zf ?_ | refine W.zd ?_ | refine W.zs ?_ | refine W.zv ?_ | refine W.zx ?_ | refine W.ex ?_ | refine W.mf ?_ | refine W.mk ?_ | refine SW.seq ?_ | refine SW.region ?_ | refine SW.block ?_ | refine SW.cond_t rfl ?_ | refine SW.cond_f rfl ?_ | refine SW.exit ?_ | refine SW.ret ?_ | refine SW.skip ?_))
    refine W.mi ?_
    refine W.call (HPop_p hO hL hR h0 (by omega) hH) ?_
    rintro _ H2 ⟨rfl, l', h2, hp2, hH2⟩
    (repeat' (first | refine W.mv ?_ | refine W.zl ?_ | refine W.fa ?_ | refine W.nl ?_ | refine W.as ?_ | refine W.zb ?_ | refine W.za ?_ | refine W.zi ?_ | refine W.zc ?_ | refine W.zp ?_ | refine W.st ?_ | refine SL.nilB ?_ | refine SL.nil ?_ | refine W.al fun b_ => ?_ | refine W.bx fun b_ => ?_ | refine W.bxa fun b_ => ?_ | refine W.sw ?_ | refine W.sa ?_ | refine W.sk ?_ | refine W.bs0 fun b_ => ?_ | refine W.ma fun b_ => ?_ | refine W.bsl fun b_ => ?_ | refine W.zu ?_ | refine W.zf ?_ | refine W.zd ?_ | refine W.zs ?_ | refine W.zv ?_ | refine W.zx ?_ | refine W.ex ?_ | refine W.mf ?_ | refine W.mk ?_ | refine SW.seq ?_ | refine SW.region ?_ | refine SW.block ?_ | refine SW.cond_t rfl ?_ | refine SW.cond_f rfl ?_ | refine SW.exit ?_ | refine SW.ret ?_ | refine SW.skip ?_))
    refine F.ct ((qp, cl [.pointer (some ⟨rp, 0, none⟩), .int .i64 (next : Int)] 133) :: H2) Z ?_
    refine .inr ⟨gt l 0, min_top hO hH hp h0, ⟨rp, l', H2, rfl, h2, hH2, ?_⟩, by rw [← hz]⟩
    have h5 : (gt l 0 :: l').Perm ws := (List.perm_append_comm (l₁ := [gt l 0]) (l₂ := l')).trans (hp2.trans hp)
    have h6 := h5.erase (gt l 0)
    rwa [List.erase_cons_head] at h6
end
end Go.Proofs.YtieamijnajbcnaaGreat
