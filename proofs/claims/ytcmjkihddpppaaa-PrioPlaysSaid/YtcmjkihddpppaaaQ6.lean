/- All of a queue. -/
import Derived.Test.YtcmjkihddpppaaaQ5
set_option linter.unusedVariables false
set_option linter.unusedSimpArgs false
set_option linter.unusedSectionVars false
namespace Go.Proofs.Ytcmjkihddpppaaa
open Go
attribute [local irreducible] SW SL SQ SH SA SS Pu Fin CutF HandF
open Pq

abbrev tcx (x : Sx) : List Value := tc (x.a, x.b)
/-- Those that were popped, one behind the other; what is left. -/
inductive Pp (less : Int × Int → Int × Int → Bool) (ws : List Sx) : List Sx → List Sx → Prop
  | nil : Pp less ws [] ws
  | snoc {os ws' : List Sx} {x : Sx} (h : Pp less ws os ws') (hm : Min less ws' x) : Pp less ws (os ++ [x]) (ws'.erase x)
theorem tcx_len (os : List Sx) : (os.flatMap tcx).length = os.length * 2 := by
  induction os with
  | nil => rfl
  | cons x l ih => rw [List.flatMap_cons, List.length_append, ih, List.length_cons]; show 2 + _ = _; omega
theorem Pp.len {less : Int × Int → Int × Int → Bool} {ws os ws' : List Sx} (h : Pp less ws os ws') : os.length + ws'.length = ws.length := by
  induction h with
  | nil => simp
  | snoc h hm ih =>
    rw [List.length_append, List.length_singleton, List.length_erase_of_mem hm.1]
    have := List.length_pos_of_mem hm.1
    omega
section
variable {fl : FuncId} [hfl : IsFn Try.prog fl] {less : Int × Int → Int × Int → Bool} (hO : Ord (Int × Int) less) (hL : LessF fl less)
include hO hL
theorem QAll_p {qp : Nat} {ws : List Sx} {next : Nat} {H : Hp} (h : QueueP qp fl less ws next H) (hn : ws.length ≤ 1000000) :
    Tri Try.prog 14 [.pointer (some ⟨qp, 0, none⟩)] H (fun _ => True) (fun v H' => ∃ os Hv HQ, Pp less ws os [] ∧ Sl 26 2 v (os.flatMap tcx) Hv ∧ QueueP qp fl less [] next HQ ∧ H' = Hv ++ HQ) := by
  refine Tri.mk Try.func14 rfl Try.ntmps14 rfl fun w hw => ?_
  have ht2 : ∀ x, (tc x).length = 2 := fun x => rfl
  (repeat' (first | refine W.mv ?_ | refine W.ls ?_ | refine W.fa ?_ | refine W.nl ?_ | refine W.as ?_ | refine W.ct ?_ | refine W.cf ?_ | refine W.ad ?_ | refine W.sb ?_ | refine W.ml ?_ | refine W.st ?_ | refine SL.nilB ?_ | refine SL.nil ?_ | refine W.ln ?_ | refine W.ix ?_ | refine W.lw ?_ | refine W.la ?_ | refine W.al fun b_ => ?_ | refine W.bx fun b_ => ?_ | refine W.bxa fun b_ => ?_ | refine W.sw ?_ | refine W.sa ?_ | refine W.pkt ?_ | refine W.pkf ?_ | refine W.ua ?_ | refine W.en ?_ | refine W.nn ?_ | refine W.es ?_ | refine W.ns ?_ | refine W.nt ?_ | refine W.fs ?_ | refine W.fg ?_ | refine W.bd ?_ | refine W.bda ?_ | refine W.mf ?_ | refine W.mx ?_ | refine W.mn ?_ | refine W.qu ?_ | refine W.rm ?_ | refine W.lr ?_ | refine W.lt ?_ | refine W.cp ?_ | refine W.ixa ?_ | refine W.sk ?_ | refine W.lsR (by assumption) ?_ | refine W.laR (by assumption) ?_ | refine W.eb ?_ | refine W.nb ?_ | refine W.ci ?_ | refine W.cv ?_ | refine W.s01 ?_ | refine W.s10 ?_ | refine W.s11 ?_ | refine W.s10e ?_ | refine W.sar ?_ | refine W.bs0 fun b_ => ?_ | refine W.ma fun b_ => ?_ | refine W.ex ?_ | refine W.bsl fun b_ => ?_ | refine W.mk ?_ | refine W.ett ?_ | refine W.est ?_ | refine W.nst ?_ | refine W.shl ?_ | refine W.shr ?_ | refine W.bnot ?_ | refine W.ng ?_ | refine W.ai ?_ | refine SW.seq ?_ | refine SW.region ?_ | refine SW.cond_t rfl ?_ | refine SW.cond_f rfl ?_ | refine SW.exit ?_ | refine SW.ret ?_ | refine SW.skip ?_))
  refine W.call (QPop_p hO hL h hn) ?_
  intro v0 H1 hq
  have hst : ∃ (c : Int × Int) (ok : Bool) (W0 : List Sx), v0 = .tuple #[.agg (tc c).toArray, .bool ok] ∧ QueueP qp fl less W0 next H1 ∧ ((ok = false ∧ W0 = [] ∧ Pp less ws [] W0) ∨ (ok = true ∧ ∃ x, c = (x.a, x.b) ∧ Pp less ws ([] ++ [x]) W0)) := by
    rcases hq with ⟨h1, h2, h3⟩ | ⟨x, h1, h2, h3⟩
    · subst h2 h1
      exact ⟨(0, 0), false, [], h3, h, .inl ⟨rfl, rfl, Pp.nil⟩⟩
    · exact ⟨(x.a, x.b), true, ws.erase x, h3, h2, .inr ⟨rfl, x, rfl, Pp.snoc Pp.nil h1⟩⟩
  obtain ⟨c, ok, W0, rfl, hQ0, hor⟩ := hst
  have hc2 := ht2 c
  have hcO : OC (tc c) := inferInstance
  obtain ⟨Z, hZ⟩ : ∃ Z, Z = tc c := ⟨_, rfl⟩
  rw [← hZ] at hc2 hcO ⊢
  (repeat' (first | refine W.mv ?_ | refine W.ls ?_ | refine W.fa ?_ | refine W.nl ?_ | refine W.as ?_ | refine W.ct ?_ | refine W.cf ?_ | refine W.ad ?_ | refine W.sb ?_ | refine W.ml ?_ | refine W.st ?_ | refine SL.nilB ?_ | refine SL.nil ?_ | refine W.ln ?_ | refine W.ix ?_ | refine W.lw ?_ | refine W.la ?_ | refine W.al fun b_ => ?_ | refine W.bx fun b_ => ?_ | refine W.bxa fun b_ => ?_ | refine W.sw ?_ | refine W.sa ?_ | refine W.pkt ?_ | refine W.pkf ?_ | refine W.ua ?_ | refine W.en ?_ | refine W.nn ?_ | refine W.es ?_ | refine W.ns ?_ | refine W.nt ?_ | refine W.fs ?_ | refine W.fg ?_ | refine W.bd ?_ | refine W.bda ?_ | refine W.mf ?_ | refine W.mx ?_ | refine W.mn ?_ | refine W.qu ?_ | refine W.rm ?_ | refine W.lr ?_ | refine W.lt ?_ | refine W.cp ?_ | refine W.ixa ?_ | refine W.sk ?_ | refine W.lsR (by assumption) ?_ | refine W.laR (by assumption) ?_ | refine W.eb ?_ | refine W.nb ?_ | refine W.ci ?_ | refine W.cv ?_ | refine W.s01 ?_ | refine W.s10 ?_ | refine W.s11 ?_ | refine W.s10e ?_ | refine W.sar ?_ | refine W.bs0 fun b_ => ?_ | refine W.ma fun b_ => ?_ | refine W.ex ?_ | refine W.bsl fun b_ => ?_ | refine W.mk ?_ | refine W.ett ?_ | refine W.est ?_ | refine W.nst ?_ | refine W.shl ?_ | refine W.shr ?_ | refine W.bnot ?_ | refine W.ng ?_ | refine W.ai ?_ | refine SW.seq ?_ | refine SW.region ?_ | refine SW.cond_t rfl ?_ | refine SW.cond_f rfl ?_ | refine SW.exit ?_ | refine SW.ret ?_ | refine SW.skip ?_))
  refine SW.cutH [0] ((b_, cl Z 26) :: H1) (fun x : List Sx × Value × Hp × Hp => [(3, x.2.1)]) (fun x => x.2.2.1 ++ x.2.2.2) (fun x => Pp less ws x.1 [] ∧ Sl 26 2 x.2.1 (x.1.flatMap tcx) x.2.2.1 ∧ QueueP qp fl less [] next x.2.2.2) ?_ ?_
  · (repeat' (first | refine W.mv ?_ | refine W.ls ?_ | refine W.fa ?_ | refine W.nl ?_ | refine W.as ?_ | refine W.ct ?_ | refine W.cf ?_ | refine W.ad ?_ | refine W.sb ?_ | refine W.ml ?_ | refine W.st ?_ | refine SL.nilB ?_ | refine SL.nil ?_ | refine W.ln ?_ | refine W.ix ?_ | refine W.lw ?_ | refine W.la ?_ | refine W.al fun b_ => ?_ | refine W.bx fun b_ => ?_ | refine W.bxa fun b_ => ?_ | refine W.sw ?_ | refine W.sa ?_ | refine W.pkt ?_ | refine W.pkf ?_ | refine W.ua ?_ | refine W.en ?_ | refine W.nn ?_ | refine W.es ?_ | refine W.ns ?_ | refine W.nt ?_ | refine W.fs ?_ | refine W.fg ?_ | refine W.bd ?_ | refine W.bda ?_ | refine W.mf ?_ | refine W.mx ?_ | refine W.mn ?_ | refine W.qu ?_ | refine W.rm ?_ | refine W.lr ?_ | refine W.lt ?_ | refine W.cp ?_ | refine W.ixa ?_ | refine W.sk ?_ | refine W.lsR (by assumption) ?_ | refine W.laR (by assumption) ?_ | refine W.eb ?_ | refine W.nb ?_ | refine W.ci ?_ | refine W.cv ?_ | refine W.s01 ?_ | refine W.s10 ?_ | refine W.s11 ?_ | refine W.s10e ?_ | refine W.sar ?_ | refine W.bs0 fun b_ => ?_ | refine W.ma fun b_ => ?_ | refine W.ex ?_ | refine W.bsl fun b_ => ?_ | refine W.mk ?_ | refine W.ett ?_ | refine W.est ?_ | refine W.nst ?_ | refine W.shl ?_ | refine W.shr ?_ | refine W.bnot ?_ | refine W.ng ?_ | refine W.ai ?_ | refine SW.seq ?_ | refine SW.region ?_ | refine SW.block ?_ | refine SW.cond_t rfl ?_ | refine SW.cond_f rfl ?_ | refine SW.exit ?_ | refine SW.ret ?_ | refine SW.skip ?_))
    rw [hZ]
    refine SW.loopF (hp := by dsimp only; infer_instance) [0] (fun x : List Sx × (Int × Int) × Bool × List Sx × Nat × Value × Hp × Hp => [(3, x.2.2.2.2.2.1), (4, .pointer (some ⟨x.2.2.2.2.1, 0, none⟩)), (5, .bool x.2.2.1)]) (fun x => (x.2.2.2.2.1, cl (tc x.2.1) 26) :: (x.2.2.2.2.2.2.1 ++ x.2.2.2.2.2.2.2)) (fun x => x.2.2.2.1.length + x.2.2.1.toNat)
      (fun x => QueueP qp fl less x.2.2.2.1 next x.2.2.2.2.2.2.2 ∧ Sl 26 2 x.2.2.2.2.2.1 (x.1.flatMap tcx) x.2.2.2.2.2.2.1 ∧ ((x.2.2.1 = false ∧ x.2.2.2.1 = [] ∧ Pp less ws x.1 x.2.2.2.1) ∨ (x.2.2.1 = true ∧ ∃ y : Sx, x.2.1 = (y.a, y.b) ∧ Pp less ws (x.1 ++ [y]) x.2.2.2.1)))
      ([], c, ok, W0, b_, .slice none 0 0, [], H1) ⟨hQ0, Sl.nil _ _, hor⟩ ?_
    clear hZ hc2 hcO hor hQ0
    rintro ⟨os, c, ok, W0, b4, ov, Hout, HQ⟩ ⟨hQ, hv, hor⟩
    dsimp only at hQ hv hor ⊢
    have hv1 := hv.isOne
    rcases hor with ⟨rfl, rfl, hp⟩ | ⟨rfl, y, rfl, hp⟩
    · (repeat' (first | refine W.mv ?_ | refine W.ls ?_ | refine W.fa ?_ | refine W.nl ?_ | refine W.as ?_ | refine W.ct ?_ | refine W.cf ?_ | refine W.ad ?_ | refine W.sb ?_ | refine W.ml ?_ | refine W.st ?_ | refine SL.nilB ?_ | refine SL.nil ?_ | refine W.ln ?_ | refine W.ix ?_ | refine W.lw ?_ | refine W.la ?_ | refine W.al fun b_ => ?_ | refine W.bx fun b_ => ?_ | refine W.bxa fun b_ => ?_ | refine W.sw ?_ | refine W.sa ?_ | refine W.pkt ?_ | refine W.pkf ?_ | refine W.ua ?_ | refine W.en ?_ | refine W.nn ?_ | refine W.es ?_ | refine W.ns ?_ | refine W.nt ?_ | refine W.fs ?_ | refine W.fg ?_ | refine W.bd ?_ | refine W.bda ?_ | refine W.mf ?_ | refine W.mx ?_ | refine W.mn ?_ | refine W.qu ?_ | refine W.rm ?_ | refine W.lr ?_ | refine W.lt ?_ | refine W.cp ?_ | refine W.ixa ?_ | refine W.sk ?_ | refine W.lsR (by assumption) ?_ | refine W.laR (by assumption) ?_ | refine W.eb ?_ | refine W.nb ?_ | refine W.ci ?_ | refine W.cv ?_ | refine W.s01 ?_ | refine W.s10 ?_ | refine W.s11 ?_ | refine W.s10e ?_ | refine W.sar ?_ | refine W.bs0 fun b_ => ?_ | refine W.ma fun b_ => ?_ | refine W.ex ?_ | refine W.bsl fun b_ => ?_ | refine W.mk ?_ | refine W.ett ?_ | refine W.est ?_ | refine W.nst ?_ | refine W.shl ?_ | refine W.shr ?_ | refine W.bnot ?_ | refine W.ng ?_ | refine W.ai ?_ | refine SW.seq ?_ | refine SW.region ?_ | refine SW.block ?_ | refine SW.cond_t rfl ?_ | refine SW.cond_f rfl ?_ | refine SW.exit ?_ | refine SW.ret ?_ | refine SW.skip ?_))
      refine CutF.mk (os, ov, Hout, HQ) ?_
      exact ⟨hp, hv, hQ⟩
    · have hpl := hp.len
      rw [List.length_append, List.length_singleton] at hpl
      have hc2 := ht2 (y.a, y.b)
      have hcO : OC (tc (y.a, y.b)) := inferInstance
      have hfm : (os ++ [y]).flatMap tcx = os.flatMap tcx ++ tc (y.a, y.b) := by simp
      obtain ⟨Z, hZ⟩ : ∃ Z, Z = tc (y.a, y.b) := ⟨_, rfl⟩
      rw [← hZ] at hc2 hcO hfm ⊢
      have hb : bfill (fun i => some (i * 2, 2)) (zs [.int .i64 0, .int .i64 0] 1) [(0, .agg Z.toArray)] = some Z := by rw [hZ]; rfl
      (repeat' (first | refine W.mv ?_ | refine W.ls ?_ | refine W.fa ?_ | refine W.nl ?_ | refine W.as ?_ | refine W.ct ?_ | refine W.cf ?_ | refine W.ad ?_ | refine W.sb ?_ | refine W.ml ?_ | refine W.st ?_ | refine SL.nilB ?_ | refine SL.nil ?_ | refine W.ln ?_ | refine W.ix ?_ | refine W.lw ?_ | refine W.la ?_ | refine W.al fun b_ => ?_ | refine W.bx fun b_ => ?_ | refine W.bxa fun b_ => ?_ | refine W.sw ?_ | refine W.sa ?_ | refine W.pkt ?_ | refine W.pkf ?_ | refine W.ua ?_ | refine W.en ?_ | refine W.nn ?_ | refine W.es ?_ | refine W.ns ?_ | refine W.nt ?_ | refine W.fs ?_ | refine W.fg ?_ | refine W.bd ?_ | refine W.bda ?_ | refine W.mf ?_ | refine W.mx ?_ | refine W.mn ?_ | refine W.qu ?_ | refine W.rm ?_ | refine W.lr ?_ | refine W.lt ?_ | refine W.cp ?_ | refine W.ixa ?_ | refine W.sk ?_ | refine W.lsR (by assumption) ?_ | refine W.laR (by assumption) ?_ | refine W.eb ?_ | refine W.nb ?_ | refine W.ci ?_ | refine W.cv ?_ | refine W.s01 ?_ | refine W.s10 ?_ | refine W.s11 ?_ | refine W.s10e ?_ | refine W.sar ?_ | refine W.bs0 fun b_ => ?_ | refine W.ma fun b_ => ?_ | refine W.ex ?_ | refine W.bsl fun b_ => ?_ | refine W.mk ?_ | refine W.ett ?_ | refine W.est ?_ | refine W.nst ?_ | refine W.shl ?_ | refine W.shr ?_ | refine W.bnot ?_ | refine W.ng ?_ | refine W.ai ?_ | refine SW.seq ?_ | refine SW.region ?_ | refine SW.block ?_ | refine SW.cond_t rfl ?_ | refine SW.cond_f rfl ?_ | refine SW.exit ?_ | refine SW.ret ?_ | refine SW.skip ?_))
      refine W.ap hv (ys := Z) (mm := 1) (fun w2 hs => SrcOf.block (l := Z) hs.at (by rw [List.drop_zero, List.take_of_length_le (by omega)]) (by omega)) (fun v2 H2 h2 => ?_) (hys := by omega) (hbytes := by rw [tcx_len, hc2]; omega)
      have h21 := h2.isOne
      rw [← hfm] at h2
      (repeat' (first | refine W.mv ?_ | refine W.ls ?_ | refine W.fa ?_ | refine W.nl ?_ | refine W.as ?_ | refine W.ct ?_ | refine W.cf ?_ | refine W.ad ?_ | refine W.sb ?_ | refine W.ml ?_ | refine W.st ?_ | refine SL.nilB ?_ | refine SL.nil ?_ | refine W.ln ?_ | refine W.ix ?_ | refine W.lw ?_ | refine W.la ?_ | refine W.al fun b_ => ?_ | refine W.bx fun b_ => ?_ | refine W.bxa fun b_ => ?_ | refine W.sw ?_ | refine W.sa ?_ | refine W.pkt ?_ | refine W.pkf ?_ | refine W.ua ?_ | refine W.en ?_ | refine W.nn ?_ | refine W.es ?_ | refine W.ns ?_ | refine W.nt ?_ | refine W.fs ?_ | refine W.fg ?_ | refine W.bd ?_ | refine W.bda ?_ | refine W.mf ?_ | refine W.mx ?_ | refine W.mn ?_ | refine W.qu ?_ | refine W.rm ?_ | refine W.lr ?_ | refine W.lt ?_ | refine W.cp ?_ | refine W.ixa ?_ | refine W.sk ?_ | refine W.lsR (by assumption) ?_ | refine W.laR (by assumption) ?_ | refine W.eb ?_ | refine W.nb ?_ | refine W.ci ?_ | refine W.cv ?_ | refine W.s01 ?_ | refine W.s10 ?_ | refine W.s11 ?_ | refine W.s10e ?_ | refine W.sar ?_ | refine W.bs0 fun b_ => ?_ | refine W.ma fun b_ => ?_ | refine W.ex ?_ | refine W.bsl fun b_ => ?_ | refine W.mk ?_ | refine W.ett ?_ | refine W.est ?_ | refine W.nst ?_ | refine W.shl ?_ | refine W.shr ?_ | refine W.bnot ?_ | refine W.ng ?_ | refine W.ai ?_ | refine SW.seq ?_ | refine SW.region ?_ | refine SW.block ?_ | refine SW.cond_t rfl ?_ | refine SW.cond_f rfl ?_ | refine SW.exit ?_ | refine SW.ret ?_ | refine SW.skip ?_))
      refine W.call (QPop_p hO hL hQ (by omega)) ?_
      intro v0 H5 hq
      have hst : ∃ (c : Int × Int) (ok : Bool) (W1 : List Sx), v0 = .tuple #[.agg (tc c).toArray, .bool ok] ∧ QueueP qp fl less W1 next H5 ∧ W1.length + ok.toNat < W0.length + 1 ∧ ((ok = false ∧ W1 = [] ∧ Pp less ws (os ++ [y]) W1) ∨ (ok = true ∧ ∃ x : Sx, c = (x.a, x.b) ∧ Pp less ws ((os ++ [y]) ++ [x]) W1)) := by
        rcases hq with ⟨h1, h2, h3⟩ | ⟨x, h1, h2, h3⟩
        · subst h2 h1
          exact ⟨(0, 0), false, [], h3, hQ, by simp, .inl ⟨rfl, rfl, hp⟩⟩
        · have hl1 := List.length_erase_of_mem h1.1
          have hl2 := List.length_pos_of_mem h1.1
          exact ⟨(x.a, x.b), true, W0.erase x, h3, h2, by simp; omega, .inr ⟨rfl, x, rfl, Pp.snoc hp h1⟩⟩
      obtain ⟨c', ok', W1, rfl, hQ1, hM, hor1⟩ := hst
      have hc2' := ht2 c'
      have hcO' : OC (tc c') := inferInstance
      obtain ⟨Z', hZ'⟩ : ∃ Z', Z' = tc c' := ⟨_, rfl⟩
      rw [← hZ'] at hc2' hcO' ⊢
      (repeat' (first | refine W.mv ?_ | refine W.ls ?_ | refine W.fa ?_ | refine W.nl ?_ | refine W.as ?_ | refine W.ct ?_ | refine W.cf ?_ | refine W.ad ?_ | refine W.sb ?_ | refine W.ml ?_ | refine W.st ?_ | refine SL.nilB ?_ | refine SL.nil ?_ | refine W.ln ?_ | refine W.ix ?_ | refine W.lw ?_ | refine W.la ?_ | refine W.al fun b_ => ?_ | refine W.bx fun b_ => ?_ | refine W.bxa fun b_ => ?_ | refine W.sw ?_ | refine W.sa ?_ | refine W.pkt ?_ | refine W.pkf ?_ | refine W.ua ?_ | refine W.en ?_ | refine W.nn ?_ | refine W.es ?_ | refine W.ns ?_ | refine W.nt ?_ | refine W.fs ?_ | refine W.fg ?_ | refine W.bd ?_ | refine W.bda ?_ | refine W.mf ?_ | refine W.mx ?_ | refine W.mn ?_ | refine W.qu ?_ | refine W.rm ?_ | refine W.lr ?_ | refine W.lt ?_ | refine W.cp ?_ | refine W.ixa ?_ | refine W.sk ?_ | refine W.lsR (by assumption) ?_ | refine W.laR (by assumption) ?_ | refine W.eb ?_ | refine W.nb ?_ | refine W.ci ?_ | refine W.cv ?_ | refine W.s01 ?_ | refine W.s10 ?_ | refine W.s11 ?_ | refine W.s10e ?_ | refine W.sar ?_ | refine W.bs0 fun b_ => ?_ | refine W.ma fun b_ => ?_ | refine W.ex ?_ | refine W.bsl fun b_ => ?_ | refine W.mk ?_ | refine W.ett ?_ | refine W.est ?_ | refine W.nst ?_ | refine W.shl ?_ | refine W.shr ?_ | refine W.bnot ?_ | refine W.ng ?_ | refine W.ai ?_ | refine SW.seq ?_ | refine SW.region ?_ | refine SW.block ?_ | refine SW.cond_t rfl ?_ | refine SW.cond_f rfl ?_ | refine SW.exit ?_ | refine SW.ret ?_ | refine SW.skip ?_))
      rw [hZ']
      refine HandF.mk (os ++ [y], c', ok', W1, b_, v2, H2, H5) ?_ (hM := by dsimp only; simpa using hM)
      exact ⟨hQ1, h2, hor1⟩
  rintro ⟨os, ov, Hv, HQ⟩ ⟨hp, hv, hQ⟩
  dsimp only at hp hv hQ ⊢
  have hv1 := hv.isOne
  (repeat' (first | refine W.mv ?_ | refine W.ls ?_ | refine W.fa ?_ | refine W.nl ?_ | refine W.as ?_ | refine W.ct ?_ | refine W.cf ?_ | refine W.ad ?_ | refine W.sb ?_ | refine W.ml ?_ | refine W.st ?_ | refine SL.nilB ?_ | refine SL.nil ?_ | refine W.ln ?_ | refine W.ix ?_ | refine W.lw ?_ | refine W.la ?_ | refine W.al fun b_ => ?_ | refine W.bx fun b_ => ?_ | refine W.bxa fun b_ => ?_ | refine W.sw ?_ | refine W.sa ?_ | refine W.pkt ?_ | refine W.pkf ?_ | refine W.ua ?_ | refine W.en ?_ | refine W.nn ?_ | refine W.es ?_ | refine W.ns ?_ | refine W.nt ?_ | refine W.fs ?_ | refine W.fg ?_ | refine W.bd ?_ | refine W.bda ?_ | refine W.mf ?_ | refine W.mx ?_ | refine W.mn ?_ | refine W.qu ?_ | refine W.rm ?_ | refine W.lr ?_ | refine W.lt ?_ | refine W.cp ?_ | refine W.ixa ?_ | refine W.sk ?_ | refine W.lsR (by assumption) ?_ | refine W.laR (by assumption) ?_ | refine W.eb ?_ | refine W.nb ?_ | refine W.ci ?_ | refine W.cv ?_ | refine W.s01 ?_ | refine W.s10 ?_ | refine W.s11 ?_ | refine W.s10e ?_ | refine W.sar ?_ | refine W.bs0 fun b_ => ?_ | refine W.ma fun b_ => ?_ | refine W.ex ?_ | refine W.bsl fun b_ => ?_ | refine W.mk ?_ | refine W.ett ?_ | refine W.est ?_ | refine W.nst ?_ | refine W.shl ?_ | refine W.shr ?_ | refine W.bnot ?_ | refine W.ng ?_ | refine W.ai ?_ | refine SW.seq ?_ | refine SW.region ?_ | refine SW.block ?_ | refine SW.cond_t rfl ?_ | refine SW.cond_f rfl ?_ | refine SW.exit ?_ | refine SW.ret ?_ | refine SW.skip ?_))
  refine Fin.to (Hv ++ HQ) ?_
  exact F.f1 ⟨os, Hv, HQ, hp, hv, hQ, rfl⟩
end
end Go.Proofs.Ytcmjkihddpppaaa
