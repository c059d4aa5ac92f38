/- What the queue does. -/
import Derived.Test.YtcmjkihddpppaaaQ4
set_option linter.unusedVariables false
set_option linter.unusedSimpArgs false
set_option linter.unusedSectionVars false
namespace Go.Proofs.Ytcmjkihddpppaaa
open Go
attribute [local irreducible] SW SL SQ SH SA SS Pu Fin CutF HandF
open Pq

/-- A cell and a value that are returned, with blocks. -/
theorem F.ct {P : Program} {C : Ctx} {ρ : Fr} {H : Hp} {fn : Func} {R : Value → Hp → Prop} {e : Exit} {t ty n b u : Nat} {l : List Value} {T : TypeId} {v2 : Value} (Hc : Hp) {s : Hp} (l2 : List Value) [hp : Part H Hc s] (hR : R (.tuple #[.agg l2.toArray, v2]) Hc) (he : e = .ret ∨ e = .normal := by first | exact .inl rfl | exact .inr rfl) (hrs : fn.results = #[.cell t ty, .tmp u] := by exact rfl) (ht : lk ρ t = some (.pointer (some ⟨b, 0, none⟩)) := by exact rfl) (hu : lk ρ u = some v2 := by exact rfl) (hat : At H b (cl l T) := by infer_instance) (hl : l = l2 := by first | assumption | exact rfl) (iR : RowTy P ty n := by infer_instance) (hn : l2.length = n := by first | assumption | exact rfl) : Fin P C fn R e ρ H := by
  subst hl
  exact Fin.c1t1 he hrs ht hu hn Hc hR
def tc (x : Int × Int) : List Value := [.int .i64 x.1, .int .i64 x.2]
instance (x : Int × Int) : OC (tc x) := by unfold tc; infer_instance
/-- Things with their numbers. -/
def numd : Nat → List (Int × Int) → List Sx
  | _, [] => []
  | n, x :: r => ⟨x.1, x.2, n⟩ :: numd (n + 1) r
theorem numd_len : ∀ (n : Nat) (l : List (Int × Int)), (numd n l).length = l.length
  | _, [] => rfl
  | n, x :: r => by simp [numd, numd_len (n + 1) r]
theorem numd_app : ∀ (n : Nat) (l : List (Int × Int)) (x : Int × Int), numd n (l ++ [x]) = numd n l ++ [⟨x.1, x.2, ((n + l.length : Nat) : Int)⟩]
  | n, [], x => rfl
  | n, y :: r, x => by
    rw [List.cons_append, numd, numd_app (n + 1) r x, numd, List.cons_append, List.length_cons]
    congr 4
    omega
theorem tc_at (xs : List (Int × Int)) {k : Nat} {x : Int × Int} (h : xs[k]? = some x) : ((xs.flatMap tc).drop (k * 2)).take 2 = tc x := by
  induction xs generalizing k with
  | nil => simp at h
  | cons y l ih =>
    rw [List.flatMap_cons]
    cases k with
    | zero =>
      simp at h; subst h
      rw [Nat.zero_mul, List.drop_zero, List.take_left']; rfl
    | succ k =>
      rw [show (k + 1) * 2 = 2 + k * 2 by omega, ← List.drop_drop, List.drop_left' (show (tc y).length = 2 from rfl)]
      exact ih (by simpa using h)
theorem tc_len (xs : List (Int × Int)) : (xs.flatMap tc).length = xs.length * 2 := by
  induction xs with
  | nil => rfl
  | cons x l ih => rw [List.flatMap_cons, List.length_append, ih, List.length_cons]; show 2 + _ = _; omega
theorem QPush_nil (pv : Value) [One pv] : Tri Try.prog 10 [.pointer none, pv] [] (fun _ => True) (fun v H => v = .tuple #[] ∧ H = []) := by
  refine Tri.mk Try.func10 rfl Try.ntmps10 rfl fun w hw => ?_
  (repeat' (first | refine W.mv ?_ | refine W.ls ?_ | refine W.fa ?_ | refine W.nl ?_ | refine W.as ?_ | refine W.ct ?_ | refine W.cf ?_ | refine W.ad ?_ | refine W.sb ?_ | refine W.ml ?_ | refine W.st ?_ | refine SL.nilB ?_ | refine SL.nil ?_ | refine W.ln ?_ | refine W.ix ?_ | refine W.lw ?_ | refine W.la ?_ | refine W.al fun b_ => ?_ | refine W.bx fun b_ => ?_ | refine W.bxa fun b_ => ?_ | refine W.sw ?_ | refine W.sa ?_ | refine W.pkt ?_ | refine W.pkf ?_ | refine W.ua ?_ | refine W.en ?_ | refine W.nn ?_ | refine W.es ?_ | refine W.ns ?_ | refine W.nt ?_ | refine W.fs ?_ | refine W.fg ?_ | refine W.bd ?_ | refine W.bda ?_ | refine W.mf ?_ | refine W.mx ?_ | refine W.mn ?_ | refine W.qu ?_ | refine W.rm ?_ | refine W.lr ?_ | refine W.lt ?_ | refine W.cp ?_ | refine W.ixa ?_ | refine W.sk ?_ | refine W.lsR (by assumption) ?_ | refine W.laR (by assumption) ?_ | refine W.eb ?_ | refine W.nb ?_ | refine W.ci ?_ | refine W.cv ?_ | refine W.s01 ?_ | refine W.s10 ?_ | refine W.s11 ?_ | refine W.s10e ?_ | refine W.sar ?_ | refine W.bs0 fun b_ => ?_ | refine W.ma fun b_ => ?_ | refine W.ex ?_ | refine W.bsl fun b_ => ?_ | refine W.mk ?_ | refine W.ett ?_ | refine W.est ?_ | refine W.nst ?_ | refine W.shl ?_ | refine W.shr ?_ | refine W.bnot ?_ | refine W.ng ?_ | refine W.ai ?_ | refine SW.seq ?_ | refine SW.region ?_ | refine SW.block ?_ | refine SW.cond_t rfl ?_ | refine SW.cond_f rfl ?_ | refine SW.exit ?_ | refine SW.ret ?_ | refine SW.skip ?_))
  exact F.f0 ⟨rfl, rfl⟩
section
variable {fl : FuncId} [hfl : IsFn Try.prog fl] {less : Int × Int → Int × Int → Bool} (hO : Ord (Int × Int) less) (hL : LessF fl less)
include hO hL
theorem QPush_p {qp : Nat} {ws : List Sx} {next : Nat} {H : Hp} (h : QueueP qp fl less ws next H) (xs : List (Int × Int)) (pv : Value) (hn : ws.length + xs.length < 1000000) (hx : next + xs.length < 1000000000) :
    Tri Try.prog 10 [.pointer (some ⟨qp, 0, none⟩), pv] H (fun w => Rd (H.map Prod.fst) w 2 pv (xs.flatMap tc)) (fun v H' => v = .tuple #[] ∧ QueueP qp fl less (ws ++ numd next xs) (next + xs.length) H') := by
  refine Tri.mk Try.func10 rfl Try.ntmps10 rfl fun w hw => ?_
  obtain ⟨pa, pl, pc, rfl, hpl, hpc, hpr⟩ := hw
  rw [tc_len] at hpl
  have hpl2 : xs.length = pl := by omega
  have h0 : QueueP qp fl less (ws ++ numd next (xs.take 0)) (next + 0) H := by
    have : ws ++ numd next (xs.take 0) = ws := by simp [numd]
    rw [this]; exact h
  (repeat' (first | refine W.mv ?_ | refine W.ls ?_ | refine W.fa ?_ | refine W.nl ?_ | refine W.as ?_ | refine W.ct ?_ | refine W.cf ?_ | refine W.ad ?_ | refine W.sb ?_ | refine W.ml ?_ | refine W.st ?_ | refine SL.nilB ?_ | refine SL.nil ?_ | refine W.ln ?_ | refine W.ix ?_ | refine W.lw ?_ | refine W.la ?_ | refine W.al fun b_ => ?_ | refine W.bx fun b_ => ?_ | refine W.bxa fun b_ => ?_ | refine W.sw ?_ | refine W.sa ?_ | refine W.pkt ?_ | refine W.pkf ?_ | refine W.ua ?_ | refine W.en ?_ | refine W.nn ?_ | refine W.es ?_ | refine W.ns ?_ | refine W.nt ?_ | refine W.fs ?_ | refine W.fg ?_ | refine W.bd ?_ | refine W.bda ?_ | refine W.mf ?_ | refine W.mx ?_ | refine W.mn ?_ | refine W.qu ?_ | refine W.rm ?_ | refine W.lr ?_ | refine W.lt ?_ | refine W.cp ?_ | refine W.ixa ?_ | refine W.sk ?_ | refine W.lsR (by assumption) ?_ | refine W.laR (by assumption) ?_ | refine W.eb ?_ | refine W.nb ?_ | refine W.ci ?_ | refine W.cv ?_ | refine W.s01 ?_ | refine W.s10 ?_ | refine W.s11 ?_ | refine W.s10e ?_ | refine W.sar ?_ | refine W.bs0 fun b_ => ?_ | refine W.ma fun b_ => ?_ | refine W.ex ?_ | refine W.bsl fun b_ => ?_ | refine W.mk ?_ | refine W.ett ?_ | refine W.est ?_ | refine W.nst ?_ | refine W.shl ?_ | refine W.shr ?_ | refine W.bnot ?_ | refine W.ng ?_ | refine W.ai ?_ | refine SW.seq ?_ | refine SW.region ?_ | refine SW.block ?_ | refine SW.cond_t rfl ?_ | refine SW.cond_f rfl ?_ | refine SW.exit ?_ | refine SW.ret ?_ | refine SW.skip ?_))
  refine SW.loopF [0, 8, 9] (fun x : Nat × Hp => [(10, .int .i64 (x.1 : Int))]) (fun x => x.2) (fun x => pl - x.1) (fun x => x.1 ≤ pl ∧ QueueP qp fl less (ws ++ numd next (xs.take x.1)) (next + x.1) x.2) (0, H) ⟨by omega, h0⟩ ?_
  rintro ⟨i, H⟩ ⟨hi, hQ⟩
  dsimp only at hi hQ ⊢
  by_cases hip : i < pl
  · obtain ⟨x, hxi⟩ : ∃ x, xs[i]? = some x := ⟨_, List.getElem?_eq_getElem (by omega)⟩
    obtain ⟨pb, po, lv, T, fz, rfl, hpb, hpk, hpy⟩ := hpr.resolve_left (by omega)
    have hlv : (lv.drop (po + i * 2)).take 2 = tc x := by
      rw [← tc_at xs hxi, ← hpy, List.drop_take, List.take_take, List.drop_drop, Nat.min_eq_left (by omega)]
    have hnx : numd next (xs.take (i + 1)) = numd next (xs.take i) ++ [⟨x.1, x.2, ((next + i : Nat) : Int)⟩] := by
      rw [List.take_add_one, hxi, Option.toList_some, numd_app, List.length_take, Nat.min_eq_left (by omega)]
    have hln : (numd next (xs.take i)).length = i := by rw [numd_len, List.length_take, Nat.min_eq_left (by omega)]
    obtain ⟨rp, l, Hr, rfl, hR, hH, hp⟩ := hQ
    have hll := hp.length_eq
    rw [List.length_append, hln] at hll
    have hx2 : (tc x).length = 2 := rfl
    have hb : bfill (fun i => [(0, 2), (2, 1)][i]?) [.int .i64 0, .int .i64 0, .int .i64 0] [(0, .agg (tc x).toArray), (1, .int .i64 ((next + i : Nat) : Int))] = some (sxc ⟨x.1, x.2, ((next + i : Nat) : Int)⟩) := rfl
    (repeat' (first | refine W.mv ?_ | refine W.ls ?_ | refine W.fa ?_ | refine W.nl ?_ | refine W.as ?_ | refine W.ct ?_ | refine W.cf ?_ | refine W.ad ?_ | refine W.sb ?_ | refine W.ml ?_ | refine W.st ?_ | refine SL.nilB ?_ | refine SL.nil ?_ | refine W.ln ?_ | refine W.ix ?_ | refine W.lw ?_ | refine W.la ?_ | refine W.al fun b_ => ?_ | refine W.bx fun b_ => ?_ | refine W.bxa fun b_ => ?_ | refine W.sw ?_ | refine W.sa ?_ | refine W.pkt ?_ | refine W.pkf ?_ | refine W.ua ?_ | refine W.en ?_ | refine W.nn ?_ | refine W.es ?_ | refine W.ns ?_ | refine W.nt ?_ | refine W.fs ?_ | refine W.fg ?_ | refine W.bd ?_ | refine W.bda ?_ | refine W.mf ?_ | refine W.mx ?_ | refine W.mn ?_ | refine W.qu ?_ | refine W.rm ?_ | refine W.lr ?_ | refine W.lt ?_ | refine W.cp ?_ | refine W.ixa ?_ | refine W.sk ?_ | refine W.lsR (by assumption) ?_ | refine W.laR (by assumption) ?_ | refine W.eb ?_ | refine W.nb ?_ | refine W.ci ?_ | refine W.cv ?_ | refine W.s01 ?_ | refine W.s10 ?_ | refine W.s11 ?_ | refine W.s10e ?_ | refine W.sar ?_ | refine W.bs0 fun b_ => ?_ | refine W.ma fun b_ => ?_ | refine W.ex ?_ | refine W.bsl fun b_ => ?_ | refine W.mk ?_ | refine W.ett ?_ | refine W.est ?_ | refine W.nst ?_ | refine W.shl ?_ | refine W.shr ?_ | refine W.bnot ?_ | refine W.ng ?_ | refine W.ai ?_ | refine SW.seq ?_ | refine SW.region ?_ | refine SW.block ?_ | refine SW.cond_t rfl ?_ | refine SW.cond_f rfl ?_ | refine SW.exit ?_ | refine SW.ret ?_ | refine SW.skip ?_))
    (refine SW.regionS [12] ?_ (by kernel_rfl); refine SS.tw 0 rfl (p_move rfl rfl) ?_; refine SS.tw 1 rfl (p_nil rfl rfl) ?_; refine SS.tw 2 rfl (p_fieldAddr rfl rfl OfN.ok) ?_; (first | refine SS.ls 3 [4, 12] rfl ?_ | refine SS.tw 3 rfl (p_load_sR rfl rfl (by assumption) (by assumption) (by assumption)) ?_); refine SS.tw 4 rfl (p_mi rfl rfl) ?_; (first | refine SS.lw 5 [10, 11, 12] rfl ?_ | refine SS.la 5 [10, 11, 12] rfl ?_ | refine SS.tw 5 rfl (p_load_aR rfl rfl (by assumption) (by assumption) (by assumption) (by assumption)) ?_); refine SS.tw 6 rfl (p_move rfl rfl) ?_; refine SS.tw 7 rfl (p_nil rfl rfl) ?_; refine SS.tw 8 rfl (p_fieldAddr rfl rfl OfN.ok) ?_; (first | refine SS.ls 9 [10, 11, 12] rfl ?_ | refine SS.tw 9 rfl (p_load_sR rfl rfl (by assumption) (by assumption) (by assumption)) ?_); refine SS.tw 10 rfl (p_build rfl rfl (by first | assumption | rfl)) ?_; refine SS.tw 11 rfl (p_mi rfl rfl) ?_; refine SS.effB 12 ?_ rfl (by kernel_rfl))
    refine W.call (HPush_p hO hL hR ⟨x.1, x.2, ((next + i : Nat) : Int)⟩ (by omega) hH) ?_
    rintro _ H3 ⟨rfl, l', h3, hp3, hH3⟩
    (refine SL.nilB ?_; refine SS.done ?_ (by kernel_rfl))
    (repeat' (first | refine W.mv ?_ | refine W.ls ?_ | refine W.fa ?_ | refine W.nl ?_ | refine W.as ?_ | refine W.ct ?_ | refine W.cf ?_ | refine W.ad ?_ | refine W.sb ?_ | refine W.ml ?_ | refine W.st ?_ | refine SL.nilB ?_ | refine SL.nil ?_ | refine W.ln ?_ | refine W.ix ?_ | refine W.lw ?_ | refine W.la ?_ | refine W.al fun b_ => ?_ | refine W.bx fun b_ => ?_ | refine W.bxa fun b_ => ?_ | refine W.sw ?_ | refine W.sa ?_ | refine W.pkt ?_ | refine W.pkf ?_ | refine W.ua ?_ | refine W.en ?_ | refine W.nn ?_ | refine W.es ?_ | refine W.ns ?_ | refine W.nt ?_ | refine W.fs ?_ | refine W.fg ?_ | refine W.bd ?_ | refine W.bda ?_ | refine W.mf ?_ | refine W.mx ?_ | refine W.mn ?_ | refine W.qu ?_ | refine W.rm ?_ | refine W.lr ?_ | refine W.lt ?_ | refine W.cp ?_ | refine W.ixa ?_ | refine W.sk ?_ | refine W.lsR (by assumption) ?_ | refine W.laR (by assumption) ?_ | refine W.eb ?_ | refine W.nb ?_ | refine W.ci ?_ | refine W.cv ?_ | refine W.s01 ?_ | refine W.s10 ?_ | refine W.s11 ?_ | refine W.s10e ?_ | refine W.sar ?_ | refine W.bs0 fun b_ => ?_ | refine W.ma fun b_ => ?_ | refine W.ex ?_ | refine W.bsl fun b_ => ?_ | refine W.mk ?_ | refine W.ett ?_ | refine W.est ?_ | refine W.nst ?_ | refine W.shl ?_ | refine W.shr ?_ | refine W.bnot ?_ | refine W.ng ?_ | refine W.ai ?_ | refine SW.seq ?_ | refine SW.region ?_ | refine SW.block ?_ | refine SW.cond_t rfl ?_ | refine SW.cond_f rfl ?_ | refine SW.exit ?_ | refine SW.ret ?_ | refine SW.skip ?_))
    rw [show ([.pointer (some ⟨rp, 0, none⟩), .int .i64 ((next + i : Nat) : Int)] : List Value).set 1 (.int .i64 (((next + i : Nat) : Int) + 1)) = [.pointer (some ⟨rp, 0, none⟩), .int .i64 ((next + (i + 1) : Nat) : Int)] from rfl]
    refine HandF.mk (i + 1, (qp, cl [.pointer (some ⟨rp, 0, none⟩), .int .i64 ((next + (i + 1) : Nat) : Int)] 47) :: H3) ?_
    refine ⟨by dsimp only; omega, rp, l', H3, rfl, h3, hH3, ?_⟩
    dsimp only
    rw [hnx, ← List.append_assoc]
    exact hp3.trans (List.Perm.append_right _ hp)
  · have hi2 : i = pl := by omega
    subst hi2
    rw [List.take_of_length_le (by omega)] at hQ
    rw [hpl2]
    (repeat' (first | refine W.mv ?_ | refine W.ls ?_ | refine W.fa ?_ | refine W.nl ?_ | refine W.as ?_ | refine W.ct ?_ | refine W.cf ?_ | refine W.ad ?_ | refine W.sb ?_ | refine W.ml ?_ | refine W.st ?_ | refine SL.nilB ?_ | refine SL.nil ?_ | refine W.ln ?_ | refine W.ix ?_ | refine W.lw ?_ | refine W.la ?_ | refine W.al fun b_ => ?_ | refine W.bx fun b_ => ?_ | refine W.bxa fun b_ => ?_ | refine W.sw ?_ | refine W.sa ?_ | refine W.pkt ?_ | refine W.pkf ?_ | refine W.ua ?_ | refine W.en ?_ | refine W.nn ?_ | refine W.es ?_ | refine W.ns ?_ | refine W.nt ?_ | refine W.fs ?_ | refine W.fg ?_ | refine W.bd ?_ | refine W.bda ?_ | refine W.mf ?_ | refine W.mx ?_ | refine W.mn ?_ | refine W.qu ?_ | refine W.rm ?_ | refine W.lr ?_ | refine W.lt ?_ | refine W.cp ?_ | refine W.ixa ?_ | refine W.sk ?_ | refine W.lsR (by assumption) ?_ | refine W.laR (by assumption) ?_ | refine W.eb ?_ | refine W.nb ?_ | refine W.ci ?_ | refine W.cv ?_ | refine W.s01 ?_ | refine W.s10 ?_ | refine W.s11 ?_ | refine W.s10e ?_ | refine W.sar ?_ | refine W.bs0 fun b_ => ?_ | refine W.ma fun b_ => ?_ | refine W.ex ?_ | refine W.bsl fun b_ => ?_ | refine W.mk ?_ | refine W.ett ?_ | refine W.est ?_ | refine W.nst ?_ | refine W.shl ?_ | refine W.shr ?_ | refine W.bnot ?_ | refine W.ng ?_ | refine W.ai ?_ | refine SW.seq ?_ | refine SW.region ?_ | refine SW.block ?_ | refine SW.cond_t rfl ?_ | refine SW.cond_f rfl ?_ | refine SW.exit ?_ | refine SW.ret ?_ | refine SW.skip ?_))
    refine Fin.to H ?_
    exact F.f0 ⟨rfl, hQ⟩
omit hO hL hfl in
theorem QLenL {qp rp : Nat} {l : List Sx} {next : Nat} {Hr : Hp} (hR : RowsP rp fl l Hr) : Tri Try.prog 15 [.pointer (some ⟨qp, 0, none⟩)] ((qp, cl [.pointer (some ⟨rp, 0, none⟩), .int .i64 (next : Int)] 47) :: Hr) (fun _ => True) (fun v H' => v = .int .i64 (l.length : Int) ∧ H' = (qp, cl [.pointer (some ⟨rp, 0, none⟩), .int .i64 (next : Int)] 47) :: Hr) := by
  refine Tri.mk Try.func15 rfl Try.ntmps15 rfl fun w hw => ?_
  (repeat' (first | refine W.mv ?_ | refine W.ls ?_ | refine W.fa ?_ | refine W.nl ?_ | refine W.as ?_ | refine W.ct ?_ | refine W.cf ?_ | refine W.ad ?_ | refine W.sb ?_ | refine W.ml ?_ | refine W.st ?_ | refine SL.nilB ?_ | refine SL.nil ?_ | refine W.ln ?_ | refine W.ix ?_ | refine W.lw ?_ | refine W.la ?_ | refine W.al fun b_ => ?_ | refine W.bx fun b_ => ?_ | refine W.bxa fun b_ => ?_ | refine W.sw ?_ | refine W.sa ?_ | refine W.pkt ?_ | refine W.pkf ?_ | refine W.ua ?_ | refine W.en ?_ | refine W.nn ?_ | refine W.es ?_ | refine W.ns ?_ | refine W.nt ?_ | refine W.fs ?_ | refine W.fg ?_ | refine W.bd ?_ | refine W.bda ?_ | refine W.mf ?_ | refine W.mx ?_ | refine W.mn ?_ | refine W.qu ?_ | refine W.rm ?_ | refine W.lr ?_ | refine W.lt ?_ | refine W.cp ?_ | refine W.ixa ?_ | refine W.sk ?_ | refine W.lsR (by assumption) ?_ | refine W.laR (by assumption) ?_ | refine W.eb ?_ | refine W.nb ?_ | refine W.ci ?_ | refine W.cv ?_ | refine W.s01 ?_ | refine W.s10 ?_ | refine W.s11 ?_ | refine W.s10e ?_ | refine W.sar ?_ | refine W.bs0 fun b_ => ?_ | refine W.ma fun b_ => ?_ | refine W.ex ?_ | refine W.bsl fun b_ => ?_ | refine W.mk ?_ | refine W.ett ?_ | refine W.est ?_ | refine W.nst ?_ | refine W.shl ?_ | refine W.shr ?_ | refine W.bnot ?_ | refine W.ng ?_ | refine W.ai ?_ | refine SW.seq ?_ | refine SW.region ?_ | refine SW.block ?_ | refine SW.cond_t rfl ?_ | refine SW.cond_f rfl ?_ | refine SW.exit ?_ | refine SW.ret ?_ | refine SW.skip ?_))
  refine W.call (rLen_p hR) ?_
  rintro _ H1 ⟨rfl, rfl⟩
  (repeat' (first | refine W.mv ?_ | refine W.ls ?_ | refine W.fa ?_ | refine W.nl ?_ | refine W.as ?_ | refine W.ct ?_ | refine W.cf ?_ | refine W.ad ?_ | refine W.sb ?_ | refine W.ml ?_ | refine W.st ?_ | refine SL.nilB ?_ | refine SL.nil ?_ | refine W.ln ?_ | refine W.ix ?_ | refine W.lw ?_ | refine W.la ?_ | refine W.al fun b_ => ?_ | refine W.bx fun b_ => ?_ | refine W.bxa fun b_ => ?_ | refine W.sw ?_ | refine W.sa ?_ | refine W.pkt ?_ | refine W.pkf ?_ | refine W.ua ?_ | refine W.en ?_ | refine W.nn ?_ | refine W.es ?_ | refine W.ns ?_ | refine W.nt ?_ | refine W.fs ?_ | refine W.fg ?_ | refine W.bd ?_ | refine W.bda ?_ | refine W.mf ?_ | refine W.mx ?_ | refine W.mn ?_ | refine W.qu ?_ | refine W.rm ?_ | refine W.lr ?_ | refine W.lt ?_ | refine W.cp ?_ | refine W.ixa ?_ | refine W.sk ?_ | refine W.lsR (by assumption) ?_ | refine W.laR (by assumption) ?_ | refine W.eb ?_ | refine W.nb ?_ | refine W.ci ?_ | refine W.cv ?_ | refine W.s01 ?_ | refine W.s10 ?_ | refine W.s11 ?_ | refine W.s10e ?_ | refine W.sar ?_ | refine W.bs0 fun b_ => ?_ | refine W.ma fun b_ => ?_ | refine W.ex ?_ | refine W.bsl fun b_ => ?_ | refine W.mk ?_ | refine W.ett ?_ | refine W.est ?_ | refine W.nst ?_ | refine W.shl ?_ | refine W.shr ?_ | refine W.bnot ?_ | refine W.ng ?_ | refine W.ai ?_ | refine SW.seq ?_ | refine SW.region ?_ | refine SW.block ?_ | refine SW.cond_t rfl ?_ | refine SW.cond_f rfl ?_ | refine SW.exit ?_ | refine SW.ret ?_ | refine SW.skip ?_))
  refine Fin.to ((qp, cl [.pointer (some ⟨rp, 0, none⟩), .int .i64 (next : Int)] 47) :: H1) ?_
  exact F.f1 ⟨rfl, rfl⟩
omit hO hL hfl in
theorem QPeekL {qp rp : Nat} {l : List Sx} {next : Nat} {Hr : Hp} (hR : RowsP rp fl l Hr) : Tri Try.prog 13 [.pointer (some ⟨qp, 0, none⟩)] ((qp, cl [.pointer (some ⟨rp, 0, none⟩), .int .i64 (next : Int)] 47) :: Hr) (fun _ => True)
    (fun v H' => H' = (qp, cl [.pointer (some ⟨rp, 0, none⟩), .int .i64 (next : Int)] 47) :: Hr ∧ ((l.length = 0 ∧ v = .tuple #[.agg (tc (0, 0)).toArray, .bool false]) ∨ (0 < l.length ∧ v = .tuple #[.agg (tc ((gt l 0).a, (gt l 0).b)).toArray, .bool true]))) := by
  refine Tri.mk Try.func13 rfl Try.ntmps13 rfl fun w hw => ?_
  have hLen := QLenL (qp := qp) (next := next) hR
  (repeat' (first | refine W.mv ?_ | refine W.ls ?_ | refine W.fa ?_ | refine W.nl ?_ | refine W.as ?_ | refine W.ct ?_ | refine W.cf ?_ | refine W.ad ?_ | refine W.sb ?_ | refine W.ml ?_ | refine W.st ?_ | refine SL.nilB ?_ | refine SL.nil ?_ | refine W.ln ?_ | refine W.ix ?_ | refine W.lw ?_ | refine W.la ?_ | refine W.al fun b_ => ?_ | refine W.bx fun b_ => ?_ | refine W.bxa fun b_ => ?_ | refine W.sw ?_ | refine W.sa ?_ | refine W.pkt ?_ | refine W.pkf ?_ | refine W.ua ?_ | refine W.en ?_ | refine W.nn ?_ | refine W.es ?_ | refine W.ns ?_ | refine W.nt ?_ | refine W.fs ?_ | refine W.fg ?_ | refine W.bd ?_ | refine W.bda ?_ | refine W.mf ?_ | refine W.mx ?_ | refine W.mn ?_ | refine W.qu ?_ | refine W.rm ?_ | refine W.lr ?_ | refine W.lt ?_ | refine W.cp ?_ | refine W.ixa ?_ | refine W.sk ?_ | refine W.lsR (by assumption) ?_ | refine W.laR (by assumption) ?_ | refine W.eb ?_ | refine W.nb ?_ | refine W.ci ?_ | refine W.cv ?_ | refine W.s01 ?_ | refine W.s10 ?_ | refine W.s11 ?_ | refine W.s10e ?_ | refine W.sar ?_ | refine W.bs0 fun b_ => ?_ | refine W.ma fun b_ => ?_ | refine W.ex ?_ | refine W.bsl fun b_ => ?_ | refine W.mk ?_ | refine W.ett ?_ | refine W.est ?_ | refine W.nst ?_ | refine W.shl ?_ | refine W.shr ?_ | refine W.bnot ?_ | refine W.ng ?_ | refine W.ai ?_ | refine SW.seq ?_ | refine SW.region ?_ | refine SW.block ?_ | refine SW.cond_t rfl ?_ | refine SW.cond_f rfl ?_ | refine SW.exit ?_ | refine SW.ret ?_ | refine SW.skip ?_))
  refine W.call hLen ?_
  rintro _ H1 ⟨rfl, rfl⟩
  by_cases h0 : l.length = 0
  · (repeat' (first | refine W.mv ?_ | refine W.ls ?_ | refine W.fa ?_ | refine W.nl ?_ | refine W.as ?_ | refine W.ct ?_ | refine W.cf ?_ | refine W.ad ?_ | refine W.sb ?_ | refine W.ml ?_ | refine W.st ?_ | refine SL.nilB ?_ | refine SL.nil ?_ | refine W.ln ?_ | refine W.ix ?_ | refine W.lw ?_ | refine W.la ?_ | refine W.al fun b_ => ?_ | refine W.bx fun b_ => ?_ | refine W.bxa fun b_ => ?_ | refine W.sw ?_ | refine W.sa ?_ | refine W.pkt ?_ | refine W.pkf ?_ | refine W.ua ?_ | refine W.en ?_ | refine W.nn ?_ | refine W.es ?_ | refine W.ns ?_ | refine W.nt ?_ | refine W.fs ?_ | refine W.fg ?_ | refine W.bd ?_ | refine W.bda ?_ | refine W.mf ?_ | refine W.mx ?_ | refine W.mn ?_ | refine W.qu ?_ | refine W.rm ?_ | refine W.lr ?_ | refine W.lt ?_ | refine W.cp ?_ | refine W.ixa ?_ | refine W.sk ?_ | refine W.lsR (by assumption) ?_ | refine W.laR (by assumption) ?_ | refine W.eb ?_ | refine W.nb ?_ | refine W.ci ?_ | refine W.cv ?_ | refine W.s01 ?_ | refine W.s10 ?_ | refine W.s11 ?_ | refine W.s10e ?_ | refine W.sar ?_ | refine W.bs0 fun b_ => ?_ | refine W.ma fun b_ => ?_ | refine W.ex ?_ | refine W.bsl fun b_ => ?_ | refine W.mk ?_ | refine W.ett ?_ | refine W.est ?_ | refine W.nst ?_ | refine W.shl ?_ | refine W.shr ?_ | refine W.bnot ?_ | refine W.ng ?_ | refine W.ai ?_ | refine SW.seq ?_ | refine SW.region ?_ | refine SW.block ?_ | refine SW.cond_t rfl ?_ | refine SW.cond_f rfl ?_ | refine SW.exit ?_ | refine SW.ret ?_ | refine SW.skip ?_))
    refine F.ct ((qp, cl [.pointer (some ⟨rp, 0, none⟩), .int .i64 (next : Int)] 47) :: Hr) (tc (0, 0)) ?_
    exact ⟨rfl, .inl ⟨h0, rfl⟩⟩
  · obtain ⟨v, Hs, hv, rfl⟩ := hR
    rcases hv with ⟨rfl, hx, -⟩ | ⟨b, len, cap, J, rfl, hx, hJ, hlc, rfl⟩
    · have := fm3_len l; rw [hx] at this; simp at this; omega
    have hlen : l.length = len := by rw [fm3_len] at hx; omega
    have g0 := gt_ex (l := l) (k := 0) (by omega)
    have g1 := fm3_at l J g0
    have g2 : ((l.flatMap sxc ++ J).drop 0).take 2 = tc ((gt l 0).a, (gt l 0).b) := by
      have : (((l.flatMap sxc ++ J).drop (0 * 3)).take 3).take 2 = (sxc (gt l 0)).take 2 := by rw [g1]
      rw [List.take_take] at this
      exact this
    have ht2 : ∀ x, (tc x).length = 2 := fun x => rfl
    have ht3 := ht2 ((gt l 0).a, (gt l 0).b)
    generalize gt l 0 = x at g2 ht3 ⊢
    clear ht2
    generalize l.flatMap sxc ++ J = A at g2 ⊢
    (repeat' (first | refine W.mv ?_ | refine W.ls ?_ | refine W.fa ?_ | refine W.nl ?_ | refine W.as ?_ | refine W.ct ?_ | refine W.cf ?_ | refine W.ad ?_ | refine W.sb ?_ | refine W.ml ?_ | refine W.st ?_ | refine SL.nilB ?_ | refine SL.nil ?_ | refine W.ln ?_ | refine W.ix ?_ | refine W.lw ?_ | refine W.la ?_ | refine W.al fun b_ => ?_ | refine W.bx fun b_ => ?_ | refine W.bxa fun b_ => ?_ | refine W.sw ?_ | refine W.sa ?_ | refine W.pkt ?_ | refine W.pkf ?_ | refine W.ua ?_ | refine W.en ?_ | refine W.nn ?_ | refine W.es ?_ | refine W.ns ?_ | refine W.nt ?_ | refine W.fs ?_ | refine W.fg ?_ | refine W.bd ?_ | refine W.bda ?_ | refine W.mf ?_ | refine W.mx ?_ | refine W.mn ?_ | refine W.qu ?_ | refine W.rm ?_ | refine W.lr ?_ | refine W.lt ?_ | refine W.cp ?_ | refine W.ixa ?_ | refine W.sk ?_ | refine W.lsR (by assumption) ?_ | refine W.laR (by assumption) ?_ | refine W.eb ?_ | refine W.nb ?_ | refine W.ci ?_ | refine W.cv ?_ | refine W.s01 ?_ | refine W.s10 ?_ | refine W.s11 ?_ | refine W.s10e ?_ | refine W.sar ?_ | refine W.bs0 fun b_ => ?_ | refine W.ma fun b_ => ?_ | refine W.ex ?_ | refine W.bsl fun b_ => ?_ | refine W.mk ?_ | refine W.ett ?_ | refine W.est ?_ | refine W.nst ?_ | refine W.shl ?_ | refine W.shr ?_ | refine W.bnot ?_ | refine W.ng ?_ | refine W.ai ?_ | refine SW.seq ?_ | refine SW.region ?_ | refine SW.block ?_ | refine SW.cond_t rfl ?_ | refine SW.cond_f rfl ?_ | refine SW.exit ?_ | refine SW.ret ?_ | refine SW.skip ?_))
    refine F.ct [(qp, cl [.pointer (some ⟨rp, 0, none⟩), .int .i64 (next : Int)] 47), (rp, cl (rwc (.slice (some ⟨b, 0, none⟩) len cap) fl) 45), (b, cl A 50)] (tc (x.a, x.b)) ?_
    exact ⟨rfl, .inr ⟨by omega, rfl⟩⟩
/-- The least one of those that are there. -/
def Min (less : Int × Int → Int × Int → Bool) (ws : List Sx) (x : Sx) : Prop := x ∈ ws ∧ ∀ y ∈ ws, le (lts less) x y
omit hL hfl in
theorem min_top {l ws : List Sx} (hH : HeapN (lts less) (gt l) l.length) (hp : l.Perm ws) (h0 : 0 < l.length) : Min less ws (gt l 0) := by
  refine ⟨hp.mem_iff.1 (List.mem_of_getElem? (gt_ex h0)), fun y hy => ?_⟩
  obtain ⟨k, hk, e⟩ := List.mem_iff_getElem.1 (hp.mem_iff.2 hy)
  have := heap_top (lts_ord hO) hH k hk
  rw [gt_at (l := l) (k := k) (x := y) (by rw [List.getElem?_eq_getElem hk, e])] at this
  exact this
theorem QPeek_p {qp : Nat} {ws : List Sx} {next : Nat} {H : Hp} (h : QueueP qp fl less ws next H) :
    Tri Try.prog 13 [.pointer (some ⟨qp, 0, none⟩)] H (fun _ => True) (fun v H' => H' = H ∧ ((ws = [] ∧ v = .tuple #[.agg (tc (0, 0)).toArray, .bool false]) ∨ ∃ x, Min less ws x ∧ v = .tuple #[.agg (tc (x.a, x.b)).toArray, .bool true])) := by
  obtain ⟨rp, l, Hr, rfl, hR, hH, hp⟩ := h
  have hll := hp.length_eq
  intro w ho hq
  refine (QPeekL hR w ho hq).mono fun e w' ⟨v, H', he, hst, hH', hc⟩ => ⟨v, H', he, hst, hH', ?_⟩
  rcases hc with ⟨h0, hv⟩ | ⟨h0, hv⟩
  · exact .inl ⟨List.eq_nil_of_length_eq_zero (by omega), hv⟩
  · exact .inr ⟨_, min_top hO hH hp h0, hv⟩
theorem QPop_p {qp : Nat} {ws : List Sx} {next : Nat} {H : Hp} (h : QueueP qp fl less ws next H) (hn : ws.length ≤ 1000000) :
    Tri Try.prog 11 [.pointer (some ⟨qp, 0, none⟩)] H (fun _ => True) (fun v H' => (ws = [] ∧ H' = H ∧ v = .tuple #[.agg (tc (0, 0)).toArray, .bool false]) ∨ ∃ x, Min less ws x ∧ QueueP qp fl less (ws.erase x) next H' ∧ v = .tuple #[.agg (tc (x.a, x.b)).toArray, .bool true]) := by
  obtain ⟨rp, l, Hr, rfl, hR, hH, hp⟩ := h
  have hll := hp.length_eq
  refine Tri.mk Try.func11 rfl Try.ntmps11 rfl fun w hw => ?_
  have ht : ∀ x, (tc x).length = 2 := fun x => rfl
  (repeat' (first | refine W.mv ?_ | refine W.ls ?_ | refine W.fa ?_ | refine W.nl ?_ | refine W.as ?_ | refine W.ct ?_ | refine W.cf ?_ | refine W.ad ?_ | refine W.sb ?_ | refine W.ml ?_ | refine W.st ?_ | refine SL.nilB ?_ | refine SL.nil ?_ | refine W.ln ?_ | refine W.ix ?_ | refine W.lw ?_ | refine W.la ?_ | refine W.al fun b_ => ?_ | refine W.bx fun b_ => ?_ | refine W.bxa fun b_ => ?_ | refine W.sw ?_ | refine W.sa ?_ | refine W.pkt ?_ | refine W.pkf ?_ | refine W.ua ?_ | refine W.en ?_ | refine W.nn ?_ | refine W.es ?_ | refine W.ns ?_ | refine W.nt ?_ | refine W.fs ?_ | refine W.fg ?_ | refine W.bd ?_ | refine W.bda ?_ | refine W.mf ?_ | refine W.mx ?_ | refine W.mn ?_ | refine W.qu ?_ | refine W.rm ?_ | refine W.lr ?_ | refine W.lt ?_ | refine W.cp ?_ | refine W.ixa ?_ | refine W.sk ?_ | refine W.lsR (by assumption) ?_ | refine W.laR (by assumption) ?_ | refine W.eb ?_ | refine W.nb ?_ | refine W.ci ?_ | refine W.cv ?_ | refine W.s01 ?_ | refine W.s10 ?_ | refine W.s11 ?_ | refine W.s10e ?_ | refine W.sar ?_ | refine W.bs0 fun b_ => ?_ | refine W.ma fun b_ => ?_ | refine W.ex ?_ | refine W.bsl fun b_ => ?_ | refine W.mk ?_ | refine W.ett ?_ | refine W.est ?_ | refine W.nst ?_ | refine W.shl ?_ | refine W.shr ?_ | refine W.bnot ?_ | refine W.ng ?_ | refine W.ai ?_ | refine SW.seq ?_ | refine SW.region ?_ | refine SW.block ?_ | refine SW.cond_t rfl ?_ | refine SW.cond_f rfl ?_ | refine SW.exit ?_ | refine SW.ret ?_ | refine SW.skip ?_))
  refine W.call (QPeekL (qp := qp) (next := next) hR) ?_
  rintro _ H1 ⟨rfl, (⟨h0, rfl⟩ | ⟨h0, rfl⟩)⟩
  · have ht0 := ht (0, 0)
    clear ht
    have hw0 : ws = [] := List.eq_nil_of_length_eq_zero (by omega)
    have hO0 : OC (tc (0, 0)) := inferInstance
    generalize hz : tc (0, 0) = Z at ht0 hO0 ⊢
    (repeat' (first | refine W.mv ?_ | refine W.ls ?_ | refine W.fa ?_ | refine W.nl ?_ | refine W.as ?_ | refine W.ct ?_ | refine W.cf ?_ | refine W.ad ?_ | refine W.sb ?_ | refine W.ml ?_ | refine W.st ?_ | refine SL.nilB ?_ | refine SL.nil ?_ | refine W.ln ?_ | refine W.ix ?_ | refine W.lw ?_ | refine W.la ?_ | refine W.al fun b_ => ?_ | refine W.bx fun b_ => ?_ | refine W.bxa fun b_ => ?_ | refine W.sw ?_ | refine W.sa ?_ | refine W.pkt ?_ | refine W.pkf ?_ | refine W.ua ?_ | refine W.en ?_ | refine W.nn ?_ | refine W.es ?_ | refine W.ns ?_ | refine W.nt ?_ | refine W.fs ?_ | refine W.fg ?_ | refine W.bd ?_ | refine W.bda ?_ | refine W.mf ?_ | refine W.mx ?_ | refine W.mn ?_ | refine W.qu ?_ | refine W.rm ?_ | refine W.lr ?_ | refine W.lt ?_ | refine W.cp ?_ | refine W.ixa ?_ | refine W.sk ?_ | refine W.lsR (by assumption) ?_ | refine W.laR (by assumption) ?_ | refine W.eb ?_ | refine W.nb ?_ | refine W.ci ?_ | refine W.cv ?_ | refine W.s01 ?_ | refine W.s10 ?_ | refine W.s11 ?_ | refine W.s10e ?_ | refine W.sar ?_ | refine W.bs0 fun b_ => ?_ | refine W.ma fun b_ => ?_ | refine W.ex ?_ | refine W.bsl fun b_ => ?_ | refine W.mk ?_ | refine W.ett ?_ | refine W.est ?_ | refine W.nst ?_ | refine W.shl ?_ | refine W.shr ?_ | refine W.bnot ?_ | refine W.ng ?_ | refine W.ai ?_ | refine SW.seq ?_ | refine SW.region ?_ | refine SW.block ?_ | refine SW.cond_t rfl ?_ | refine SW.cond_f rfl ?_ | refine SW.exit ?_ | refine SW.ret ?_ | refine SW.skip ?_))
    refine F.ct ((qp, cl [.pointer (some ⟨rp, 0, none⟩), .int .i64 (next : Int)] 47) :: Hr) Z ?_
    exact .inl ⟨hw0, rfl, rfl⟩
  · have ht0 := ht ((gt l 0).a, (gt l 0).b)
    clear ht
    have hO1 : OC (tc ((gt l 0).a, (gt l 0).b)) := inferInstance
    generalize hz : tc ((gt l 0).a, (gt l 0).b) = Z at ht0 hO1 ⊢
    (repeat' (first | refine W.mv ?_ | refine W.ls ?_ | refine W.fa ?_ | refine W.nl ?_ | refine W.as ?_ | refine W.ct ?_ | refine W.cf ?_ | refine W.ad ?_ | refine W.sb ?_ | refine W.ml ?_ | refine W.st ?_ | refine SL.nilB ?_ | refine SL.nil ?_ | refine W.ln ?_ | refine W.ix ?_ | refine W.lw ?_ | refine W.la ?_ | refine W.al fun b_ => ?_ | refine W.bx fun b_ => ?_ | refine W.bxa fun b_ => ?_ | refine W.sw ?_ | refine W.sa ?_ | refine W.pkt ?_ | refine W.pkf ?_ | refine W.ua ?_ | refine W.en ?_ | refine W.nn ?_ | refine W.es ?_ | refine W.ns ?_ | refine W.nt ?_ | refine W.fs ?_ | refine W.fg ?_ | refine W.bd ?_ | refine W.bda ?_ | refine W.mf ?_ | refine W.mx ?_ | refine W.mn ?_ | refine W.qu ?_ | refine W.rm ?_ | refine W.lr ?_ | refine W.lt ?_ | refine W.cp ?_ | refine W.ixa ?_ | refine W.sk ?_ | refine W.lsR (by assumption) ?_ | refine W.laR (by assumption) ?_ | refine W.eb ?_ | refine W.nb ?_ | refine W.ci ?_ | refine W.cv ?_ | refine W.s01 ?_ | refine W.s10 ?_ | refine W.s11 ?_ | refine W.s10e ?_ | refine W.sar ?_ | refine W.bs0 fun b_ => ?_ | refine W.ma fun b_ => ?_ | refine W.ex ?_ | refine W.bsl fun b_ => ?_ | refine W.mk ?_ | refine W.ett ?_ | refine W.est ?_ | refine W.nst ?_ | refine W.shl ?_ | refine W.shr ?_ | refine W.bnot ?_ | refine W.ng ?_ | refine W.ai ?_ | refine SW.seq ?_ | refine SW.region ?_ | refine SW.block ?_ | refine SW.cond_t rfl ?_ | refine SW.cond_f rfl ?_ | refine SW.exit ?_ | refine SW.ret ?_ | refine SW.skip ?_))
    refine W.mi ?_
    refine W.call (HPop_p hO hL hR h0 (by omega) hH) ?_
    rintro _ H2 ⟨rfl, l', h2, hp2, hH2⟩
    (repeat' (first | refine W.mv ?_ | refine W.ls ?_ | refine W.fa ?_ | refine W.nl ?_ | refine W.as ?_ | refine W.ct ?_ | refine W.cf ?_ | refine W.ad ?_ | refine W.sb ?_ | refine W.ml ?_ | refine W.st ?_ | refine SL.nilB ?_ | refine SL.nil ?_ | refine W.ln ?_ | refine W.ix ?_ | refine W.lw ?_ | refine W.la ?_ | refine W.al fun b_ => ?_ | refine W.bx fun b_ => ?_ | refine W.bxa fun b_ => ?_ | refine W.sw ?_ | refine W.sa ?_ | refine W.pkt ?_ | refine W.pkf ?_ | refine W.ua ?_ | refine W.en ?_ | refine W.nn ?_ | refine W.es ?_ | refine W.ns ?_ | refine W.nt ?_ | refine W.fs ?_ | refine W.fg ?_ | refine W.bd ?_ | refine W.bda ?_ | refine W.mf ?_ | refine W.mx ?_ | refine W.mn ?_ | refine W.qu ?_ | refine W.rm ?_ | refine W.lr ?_ | refine W.lt ?_ | refine W.cp ?_ | refine W.ixa ?_ | refine W.sk ?_ | refine W.lsR (by assumption) ?_ | refine W.laR (by assumption) ?_ | refine W.eb ?_ | refine W.nb ?_ | refine W.ci ?_ | refine W.cv ?_ | refine W.s01 ?_ | refine W.s10 ?_ | refine W.s11 ?_ | refine W.s10e ?_ | refine W.sar ?_ | refine W.bs0 fun b_ => ?_ | refine W.ma fun b_ => ?_ | refine W.ex ?_ | refine W.bsl fun b_ => ?_ | refine W.mk ?_ | refine W.ett ?_ | refine W.est ?_ | refine W.nst ?_ | refine W.shl ?_ | refine W.shr ?_ | refine W.bnot ?_ | refine W.ng ?_ | refine W.ai ?_ | refine SW.seq ?_ | refine SW.region ?_ | refine SW.block ?_ | refine SW.cond_t rfl ?_ | refine SW.cond_f rfl ?_ | refine SW.exit ?_ | refine SW.ret ?_ | refine SW.skip ?_))
    refine F.ct ((qp, cl [.pointer (some ⟨rp, 0, none⟩), .int .i64 (next : Int)] 47) :: H2) Z ?_
    refine .inr ⟨gt l 0, min_top hO hH hp h0, ⟨rp, l', H2, rfl, h2, hH2, ?_⟩, by rw [← hz]⟩
    have h5 : (gt l 0 :: l').Perm ws := (List.perm_append_comm (l₁ := [gt l 0]) (l₂ := l')).trans (hp2.trans hp)
    have h6 := h5.erase (gt l 0)
    rwa [List.erase_cons_head] at h6
end
end Go.Proofs.Ytcmjkihddpppaaa
