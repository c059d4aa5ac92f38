/- The statements' own helpers: Cut, Same. -/
import Derived.Test.YtlpgegglobhclaaRfa
import Derived.Test.YtlpgegglobhclaaW5
set_option linter.unusedVariables false
set_option linter.unusedSimpArgs false
namespace Go.Proofs.Ytlpgegglobhclaa
open Go
attribute [local irreducible] SW SL SQ SH SA SS Pu Fin CutF HandF

structure OpN where
  kind : Int
  at_ : Int
  n : Int
  vb : Value
  b : List UInt8
  vp : Value
  pk : List UInt8
def opc (o : OpN) : List Value := [.int .i64 o.kind, .int .i64 o.at_, .int .i64 o.n, o.vb, o.vp]
def i64 (x : Int) : Prop := -9223372036854775808 ≤ x ∧ x ≤ 9223372036854775807
/-- What a call's bytes are. -/
structure OpR (K : List Nat) (w : World) (o : OpN) : Prop where
  b : Rd K w 1 o.vb (o.b.map bv)
  p : Rd K w 1 o.vp (o.pk.map bv)
structure OpN.Ok (o : OpN) : Prop where
  k : i64 o.kind
  a : i64 o.at_
  n : i64 o.n
def cutV (m : Nat) : Value → Value
  | .slice a len cap => .slice a (min m len) cap
  | v => v
def cutO (o : OpN) : OpN := { o with vb := cutV 150 o.vb, b := o.b.take 150, vp := cutV 12 o.vp, pk := o.pk.take 12 }
theorem Rd.cut {K : List Nat} {w : World} {v : Value} {ys : List Value} (m : Nat) (h : Rd K w 1 v ys) : Rd K w 1 (cutV m v) (ys.take m) := by
  obtain ⟨a, len, cap, rfl, hl, hc, hb⟩ := h
  refine ⟨a, min m len, cap, rfl, by rw [List.length_take, hl]; omega, by omega, ?_⟩
  rcases hb with h0 | ⟨b, o, l, T, fz, ha, hb, hk, hy⟩
  · left; omega
  · right
    refine ⟨b, o, l, T, fz, ha, hb, hk, ?_⟩
    rw [← hy, List.take_take]
    congr 1; omega
theorem OpR.cut {K : List Nat} {w : World} {o : OpN} (h : OpR K w o) : OpR K w (cutO o) :=
  ⟨by have := h.b.cut 150; simpa [cutO, List.map_take] using this, by have := h.p.cut 12; simpa [cutO, List.map_take] using this⟩
theorem OpR.ro {K : List Nat} {w0 w : World} {H Hc r : Hp} {o : OpN} (h : OpR K w0 o) (hs : St K w0 H w) [hp : Part H Hc r] : OpR (Hc.map Prod.fst) w o := ⟨h.b.ro hs, h.p.ro hs⟩
theorem Rd.one {K : List Nat} {w : World} {n : Nat} {v : Value} {ys : List Value} (h : Rd K w n v ys) : One v := by
  obtain ⟨a, len, cap, rfl, -⟩ := h; exact ⟨rfl⟩
theorem OpR.oc {K : List Nat} {w : World} {o : OpN} (h : OpR K w o) : OC (opc o) := by
  have := h.b.one
  have := h.p.one
  unfold opc; infer_instance
theorem F.c1 {P : Program} {C : Ctx} {ρ : Fr} {H : Hp} {fn : Func} {R : Value → Hp → Prop} {e : Exit} {t ty n b : Nat} {l : List Value} {T : TypeId} (l2 : List Value) (hl : l = l2) (hR : R (.agg l2.toArray) []) (he : e = .ret ∨ e = .normal := by first | exact .inl rfl | exact .inr rfl) (hrs : fn.results = #[.cell t ty] := by exact rfl) (ht : lk ρ t = some (.pointer (some ⟨b, 0, none⟩)) := by exact rfl) (hat : At H b (cl l T) := by infer_instance) (iR : RowTy P ty n := by infer_instance) (hn : l.length = n := by first | assumption | exact rfl) : Fin P C fn R e ρ H := by
  subst hl
  exact Fin.c1 (Hc := []) he hrs ht hn hR
theorem cut_p (o : OpN) : Tri Try.prog 32 [.agg (opc o).toArray] [] (fun w => OpR [] w o) (fun v H => v = .agg (opc (cutO o)).toArray ∧ H = []) := by
  refine Tri.mk Try.func32 rfl Try.ntmps32 rfl fun w hw => ?_
  have h1 := hw.b.one
  have h2 := hw.p.one
  have hc := hw.oc
  obtain ⟨a1, l1, c1, e1, -, hc1, hr1⟩ := hw.b.get
  obtain ⟨a2, l2, c2, e2, -, hc2, hr2⟩ := hw.p.get
  obtain ⟨ok, oa, on, ovb, ob, ovp, opk⟩ := o
  dsimp only at e1 e2 h1 h2 hc hr1 hr2
  subst e1 e2
  by_cases g1 : 150 < l1
  · obtain ⟨b1, o1, -, -, -, rfl, -⟩ := hr1 (by omega)
    have e150 : min 150 l1 = 150 := by omega
    by_cases g2 : 12 < l2
    · obtain ⟨b2, o2, -, -, -, rfl, -⟩ := hr2 (by omega)
      have e12 : min 12 l2 = 12 := by omega
      (repeat' (first | refine W.mv ?_ | refine W.ls ?_ | refine W.fa ?_ | refine W.nl ?_ | refine W.as ?_ | refine W.ct ?_ | refine W.cf ?_ | refine W.ad ?_ | refine W.sb ?_ | refine W.ml ?_ | refine W.st ?_ | refine SL.nilB ?_ | refine SL.nil ?_ | refine W.ln ?_ | refine W.ix ?_ | refine W.lw ?_ | refine W.la ?_ | refine W.al fun b_ => ?_ | refine W.bx fun b_ => ?_ | refine W.bxa fun b_ => ?_ | refine W.sw ?_ | refine W.sa ?_ | refine W.pkt ?_ | refine W.pkf ?_ | refine W.ua ?_ | refine W.en ?_ | refine W.nn ?_ | refine W.es ?_ | refine W.ns ?_ | refine W.nt ?_ | refine W.fs ?_ | refine W.fg ?_ | refine W.bd ?_ | refine W.bda ?_ | refine W.mf ?_ | refine W.mx ?_ | refine W.mn ?_ | refine W.qu ?_ | refine W.rm ?_ | refine W.lr ?_ | refine W.lt ?_ | refine W.cp ?_ | refine W.ixa ?_ | refine W.sk ?_ | refine W.lsR (by assumption) ?_ | refine W.laR (by assumption) ?_ | refine W.eb ?_ | refine W.nb ?_ | refine W.ci ?_ | refine W.cv ?_ | refine W.s01 ?_ | refine W.s10 ?_ | refine W.s11 ?_ | refine W.s10e ?_ | refine W.sar ?_ | refine W.bs0 fun b_ => ?_ | refine W.ma fun b_ => ?_ | refine W.ex ?_ | refine W.bsl fun b_ => ?_ | refine W.mk ?_ | refine W.ett ?_ | refine W.est ?_ | refine W.nst ?_ | refine SW.seq ?_ | refine SW.region ?_ | refine SW.block ?_ | refine SW.cond_t rfl ?_ | refine SW.cond_f rfl ?_ | refine SW.exit ?_ | refine SW.ret ?_ | refine SW.skip ?_))
      refine F.c1 (opc (cutO ⟨ok, oa, on, .slice (some ⟨b1, o1, none⟩) l1 c1, ob, .slice (some ⟨b2, o2, none⟩) l2 c2, opk⟩)) ?_ ?_
      · simp [cutO, cutV, opc, e150, e12]
      · exact ⟨rfl, rfl⟩
    · have e12 : min 12 l2 = l2 := by omega
      (repeat' (first | refine W.mv ?_ | refine W.ls ?_ | refine W.fa ?_ | refine W.nl ?_ | refine W.as ?_ | refine W.ct ?_ | refine W.cf ?_ | refine W.ad ?_ | refine W.sb ?_ | refine W.ml ?_ | refine W.st ?_ | refine SL.nilB ?_ | refine SL.nil ?_ | refine W.ln ?_ | refine W.ix ?_ | refine W.lw ?_ | refine W.la ?_ | refine W.al fun b_ => ?_ | refine W.bx fun b_ => ?_ | refine W.bxa fun b_ => ?_ | refine W.sw ?_ | refine W.sa ?_ | refine W.pkt ?_ | refine W.pkf ?_ | refine W.ua ?_ | refine W.en ?_ | refine W.nn ?_ | refine W.es ?_ | refine W.ns ?_ | refine W.nt ?_ | refine W.fs ?_ | refine W.fg ?_ | refine W.bd ?_ | refine W.bda ?_ | refine W.mf ?_ | refine W.mx ?_ | refine W.mn ?_ | refine W.qu ?_ | refine W.rm ?_ | refine W.lr ?_ | refine W.lt ?_ | refine W.cp ?_ | refine W.ixa ?_ | refine W.sk ?_ | refine W.lsR (by assumption) ?_ | refine W.laR (by assumption) ?_ | refine W.eb ?_ | refine W.nb ?_ | refine W.ci ?_ | refine W.cv ?_ | refine W.s01 ?_ | refine W.s10 ?_ | refine W.s11 ?_ | refine W.s10e ?_ | refine W.sar ?_ | refine W.bs0 fun b_ => ?_ | refine W.ma fun b_ => ?_ | refine W.ex ?_ | refine W.bsl fun b_ => ?_ | refine W.mk ?_ | refine W.ett ?_ | refine W.est ?_ | refine W.nst ?_ | refine SW.seq ?_ | refine SW.region ?_ | refine SW.block ?_ | refine SW.cond_t rfl ?_ | refine SW.cond_f rfl ?_ | refine SW.exit ?_ | refine SW.ret ?_ | refine SW.skip ?_))
      refine F.c1 (opc (cutO ⟨ok, oa, on, .slice (some ⟨b1, o1, none⟩) l1 c1, ob, .slice a2 l2 c2, opk⟩)) ?_ ?_
      · simp [cutO, cutV, opc, e150, e12]
      · exact ⟨rfl, rfl⟩
  · have e150 : min 150 l1 = l1 := by omega
    by_cases g2 : 12 < l2
    · obtain ⟨b2, o2, -, -, -, rfl, -⟩ := hr2 (by omega)
      have e12 : min 12 l2 = 12 := by omega
      (repeat' (first | refine W.mv ?_ | refine W.ls ?_ | refine W.fa ?_ | refine W.nl ?_ | refine W.as ?_ | refine W.ct ?_ | refine W.cf ?_ | refine W.ad ?_ | refine W.sb ?_ | refine W.ml ?_ | refine W.st ?_ | refine SL.nilB ?_ | refine SL.nil ?_ | refine W.ln ?_ | refine W.ix ?_ | refine W.lw ?_ | refine W.la ?_ | refine W.al fun b_ => ?_ | refine W.bx fun b_ => ?_ | refine W.bxa fun b_ => ?_ | refine W.sw ?_ | refine W.sa ?_ | refine W.pkt ?_ | refine W.pkf ?_ | refine W.ua ?_ | refine W.en ?_ | refine W.nn ?_ | refine W.es ?_ | refine W.ns ?_ | refine W.nt ?_ | refine W.fs ?_ | refine W.fg ?_ | refine W.bd ?_ | refine W.bda ?_ | refine W.mf ?_ | refine W.mx ?_ | refine W.mn ?_ | refine W.qu ?_ | refine W.rm ?_ | refine W.lr ?_ | refine W.lt ?_ | refine W.cp ?_ | refine W.ixa ?_ | refine W.sk ?_ | refine W.lsR (by assumption) ?_ | refine W.laR (by assumption) ?_ | refine W.eb ?_ | refine W.nb ?_ | refine W.ci ?_ | refine W.cv ?_ | refine W.s01 ?_ | refine W.s10 ?_ | refine W.s11 ?_ | refine W.s10e ?_ | refine W.sar ?_ | refine W.bs0 fun b_ => ?_ | refine W.ma fun b_ => ?_ | refine W.ex ?_ | refine W.bsl fun b_ => ?_ | refine W.mk ?_ | refine W.ett ?_ | refine W.est ?_ | refine W.nst ?_ | refine SW.seq ?_ | refine SW.region ?_ | refine SW.block ?_ | refine SW.cond_t rfl ?_ | refine SW.cond_f rfl ?_ | refine SW.exit ?_ | refine SW.ret ?_ | refine SW.skip ?_))
      refine F.c1 (opc (cutO ⟨ok, oa, on, .slice a1 l1 c1, ob, .slice (some ⟨b2, o2, none⟩) l2 c2, opk⟩)) ?_ ?_
      · simp [cutO, cutV, opc, e150, e12]
      · exact ⟨rfl, rfl⟩
    · have e12 : min 12 l2 = l2 := by omega
      (repeat' (first | refine W.mv ?_ | refine W.ls ?_ | refine W.fa ?_ | refine W.nl ?_ | refine W.as ?_ | refine W.ct ?_ | refine W.cf ?_ | refine W.ad ?_ | refine W.sb ?_ | refine W.ml ?_ | refine W.st ?_ | refine SL.nilB ?_ | refine SL.nil ?_ | refine W.ln ?_ | refine W.ix ?_ | refine W.lw ?_ | refine W.la ?_ | refine W.al fun b_ => ?_ | refine W.bx fun b_ => ?_ | refine W.bxa fun b_ => ?_ | refine W.sw ?_ | refine W.sa ?_ | refine W.pkt ?_ | refine W.pkf ?_ | refine W.ua ?_ | refine W.en ?_ | refine W.nn ?_ | refine W.es ?_ | refine W.ns ?_ | refine W.nt ?_ | refine W.fs ?_ | refine W.fg ?_ | refine W.bd ?_ | refine W.bda ?_ | refine W.mf ?_ | refine W.mx ?_ | refine W.mn ?_ | refine W.qu ?_ | refine W.rm ?_ | refine W.lr ?_ | refine W.lt ?_ | refine W.cp ?_ | refine W.ixa ?_ | refine W.sk ?_ | refine W.lsR (by assumption) ?_ | refine W.laR (by assumption) ?_ | refine W.eb ?_ | refine W.nb ?_ | refine W.ci ?_ | refine W.cv ?_ | refine W.s01 ?_ | refine W.s10 ?_ | refine W.s11 ?_ | refine W.s10e ?_ | refine W.sar ?_ | refine W.bs0 fun b_ => ?_ | refine W.ma fun b_ => ?_ | refine W.ex ?_ | refine W.bsl fun b_ => ?_ | refine W.mk ?_ | refine W.ett ?_ | refine W.est ?_ | refine W.nst ?_ | refine SW.seq ?_ | refine SW.region ?_ | refine SW.block ?_ | refine SW.cond_t rfl ?_ | refine SW.cond_f rfl ?_ | refine SW.exit ?_ | refine SW.ret ?_ | refine SW.skip ?_))
      refine F.c1 (opc (cutO ⟨ok, oa, on, .slice a1 l1 c1, ob, .slice a2 l2 c2, opk⟩)) ?_ ?_
      · simp [cutO, cutV, opc, e150, e12]
      · exact ⟨rfl, rfl⟩
end Go.Proofs.Ytlpgegglobhclaa
