/- A book that is not there sums nothing. -/
import Derived.Test.YtpdokachnmlhlaaB3
set_option linter.unusedVariables false
set_option linter.unusedSimpArgs false
namespace Go.Proofs.Ytpdokachnmlhlaa
open Go
attribute [local irreducible] SW SL SQ SH SA SS Pu Fin CutF HandF

/-- A text that is handed in. -/
structure Tx where
  k : UInt8
  a : Option Addr
  la : Nat
  ca : Nat
  b : Option Addr
  lb : Nat
  cb : Nat
  x : List UInt8
  y : List UInt8
def Tx.cells (t : Tx) : List Value := txc (t.k.toNat : Int) t.a t.la t.ca t.b t.lb t.cb
def TxR (K : List Nat) (w : World) (t : Tx) : Prop := Rd K w 1 (.slice t.a t.la t.ca) (cbs t.x) ∧ Rd K w 1 (.slice t.b t.lb t.cb) (cbs t.y)
theorem rd_some {K : List Nat} {w : World} {a : Option Addr} {len cap : Nat} {bs : List UInt8} (h : Rd K w 1 (.slice a len cap) (cbs bs)) (n : Nat) : len ≤ cap ∧ bs.length = len ∧ (n < len → ∃ x o, a = some ⟨x, o, none⟩) := by
  obtain ⟨h1, h2⟩ := h.len1
  obtain ⟨a', len', cap', he, -, -, h3⟩ := h
  cases he
  refine ⟨h2, h1, fun hn => ?_⟩
  obtain ⟨b, o, l, T, fz, rfl, -⟩ := h3.resolve_left (by omega)
  exact ⟨b, o, rfl⟩
/-- The two parts, shortened. -/
def Tx.parts (t : Tx) : List (List UInt8) := [t.x.take 60, t.y.take 60]
theorem Tx.parts_len (t : Tx) : t.parts.flatten.length ≤ 120 := by
  simp [Tx.parts]; omega
theorem txparts_p {w0 : World} (t : Tx) (h : TxR [] w0 t) : Tri Try.prog 32 [.agg t.cells.toArray] [] (fun _ => True) (fun v H => ∃ r, v = .slice (some ⟨r, 0, none⟩) 2 2 ∧ H = [(r, cl [.slice t.a (min 60 t.la) t.ca, .slice t.b (min 60 t.lb) t.cb] 33)]) := by
  obtain ⟨h1, -, h2⟩ := rd_some h.1 60
  obtain ⟨h3, -, h4⟩ := rd_some h.2 60
  exact parts_p _ _ _ _ _ _ _ h1 h3 h2 h4
theorem bnil_law (t : Tx) : Tri Try.prog 13 [.agg t.cells.toArray] [] (fun w => TxR [] w t) (fun v _ => v = .bool true) := by
  refine Tri.mk Try.func13 rfl Try.ntmps13 rfl fun w hw => ?_
  have hp := txparts_p t hw
  have hk : t.cells[0]? = some (.int .u8 (t.k.toNat : Int)) := rfl
  have hl : t.cells.length = 3 := rfl
  generalize t.cells = Z at hp hk hl ⊢
  have h32 : (List.replicate 32 (0 : UInt8)).length = 32 := rfl
  (repeat' (first | refine W.mv ?_ | refine W.ls ?_ | refine W.fa ?_ | refine W.nl ?_ | refine W.as ?_ | refine W.ct ?_ | refine W.cf ?_ | refine W.ad ?_ | refine W.sb ?_ | refine W.ml ?_ | refine W.st ?_ | refine SL.nilB ?_ | refine SL.nil ?_ | refine W.ln ?_ | refine W.ix ?_ | refine W.lw ?_ | refine W.la ?_ | refine W.al fun b_ => ?_ | refine W.bx fun b_ => ?_ | refine W.bxa fun b_ => ?_ | refine W.sw ?_ | refine W.sa ?_ | refine W.pkt ?_ | refine W.pkf ?_ | refine W.ua ?_ | refine W.en ?_ | refine W.nn ?_ | refine W.es ?_ | refine W.ns ?_ | refine W.nt ?_ | refine W.fs ?_ | refine W.fg ?_ | refine W.bd ?_ | refine W.bda ?_ | refine W.mf ?_ | refine W.mx ?_ | refine W.mn ?_ | refine W.qu ?_ | refine W.rm ?_ | refine W.lr ?_ | refine W.lt ?_ | refine W.cp ?_ | refine W.ixa ?_ | refine W.sk ?_ | refine W.lsR (by assumption) ?_ | refine W.laR (by assumption) ?_ | refine W.eb ?_ | refine W.nb ?_ | refine W.ci ?_ | refine W.cv ?_ | refine W.s01 ?_ | refine W.s10 ?_ | refine W.s11 ?_ | refine W.s10e ?_ | refine W.sar ?_ | refine W.bs0 fun b_ => ?_ | refine W.ma fun b_ => ?_ | refine W.ex ?_ | refine W.bsl fun b_ => ?_ | refine W.mk ?_ | refine W.ett ?_ | refine W.est ?_ | refine W.nst ?_ | refine W.shl ?_ | refine W.shr ?_ | refine W.bnot ?_ | refine W.ng ?_ | refine W.ai ?_ | refine SW.seq ?_ | refine SW.region ?_ | refine SW.block ?_ | refine SW.cond_t rfl ?_ | refine SW.cond_f rfl ?_ | refine SW.exit ?_ | refine SW.ret ?_ | refine SW.skip ?_))
  refine W.call Clash_nil ?_
  rintro _ _ ⟨rfl, rfl⟩
  (repeat' (first | refine W.mv ?_ | refine W.ls ?_ | refine W.fa ?_ | refine W.nl ?_ | refine W.as ?_ | refine W.ct ?_ | refine W.cf ?_ | refine W.ad ?_ | refine W.sb ?_ | refine W.ml ?_ | refine W.st ?_ | refine SL.nilB ?_ | refine SL.nil ?_ | refine W.ln ?_ | refine W.ix ?_ | refine W.lw ?_ | refine W.la ?_ | refine W.al fun b_ => ?_ | refine W.bx fun b_ => ?_ | refine W.bxa fun b_ => ?_ | refine W.sw ?_ | refine W.sa ?_ | refine W.pkt ?_ | refine W.pkf ?_ | refine W.ua ?_ | refine W.en ?_ | refine W.nn ?_ | refine W.es ?_ | refine W.ns ?_ | refine W.nt ?_ | refine W.fs ?_ | refine W.fg ?_ | refine W.bd ?_ | refine W.bda ?_ | refine W.mf ?_ | refine W.mx ?_ | refine W.mn ?_ | refine W.qu ?_ | refine W.rm ?_ | refine W.lr ?_ | refine W.lt ?_ | refine W.cp ?_ | refine W.ixa ?_ | refine W.sk ?_ | refine W.lsR (by assumption) ?_ | refine W.laR (by assumption) ?_ | refine W.eb ?_ | refine W.nb ?_ | refine W.ci ?_ | refine W.cv ?_ | refine W.s01 ?_ | refine W.s10 ?_ | refine W.s11 ?_ | refine W.s10e ?_ | refine W.sar ?_ | refine W.bs0 fun b_ => ?_ | refine W.ma fun b_ => ?_ | refine W.ex ?_ | refine W.bsl fun b_ => ?_ | refine W.mk ?_ | refine W.ett ?_ | refine W.est ?_ | refine W.nst ?_ | refine W.shl ?_ | refine W.shr ?_ | refine W.bnot ?_ | refine W.ng ?_ | refine W.ai ?_ | refine SW.seq ?_ | refine SW.region ?_ | refine SW.block ?_ | refine SW.cond_t rfl ?_ | refine SW.cond_f rfl ?_ | refine SW.exit ?_ | refine SW.ret ?_ | refine SW.skip ?_))
  rw [show List.replicate 32 (Value.int .u8 0) = cbs (List.replicate 32 0) from rfl]
  (refine SW.regionS [10, 18, 22] ?_ (by kernel_rfl); refine SS.tw 0 rfl (p_move rfl rfl) ?_; refine SS.tw 1 rfl (p_fieldAddr rfl rfl OfN.ok) ?_; (first | refine SS.ls 2 [5, 8, 10, 13, 17, 18, 21, 22] rfl ?_ | refine SS.tw 2 rfl (p_load_sR rfl rfl (by assumption) (by assumption) (by assumption)) ?_); (first | refine SS.lw 3 [4, 5, 8, 10, 13, 17, 18, 21, 22] rfl ?_ | refine SS.la 3 [4, 5, 8, 10, 13, 17, 18, 21, 22] rfl ?_ | refine SS.tw 3 rfl (p_load_aR rfl rfl (by assumption) (by assumption) (by assumption) (by assumption)) ?_); (first | refine SS.lw 6 [7, 8, 10, 13, 17, 18, 21, 22] rfl ?_ | refine SS.la 6 [7, 8, 10, 13, 17, 18, 21, 22] rfl ?_ | refine SS.tw 6 rfl (p_load_aR rfl rfl (by assumption) (by assumption) (by assumption) (by assumption)) ?_); refine SS.effK 4 ?_ rfl (by kernel_rfl))
  refine W.call hp ?_
  rintro _ _ ⟨r, rfl, rfl⟩
  (refine SL.nilB ?_; refine SS.effK 5 ?_ rfl (by kernel_rfl))
  refine W.call (BSum_nil _ _) ?_
  rintro _ _ ⟨rfl, rfl⟩
  (refine SL.nilB ?_; refine SS.tw 7 rfl (p_eqA_t rfl rfl rfl rfl rfl) ?_; refine SS.tw 8 rfl (p_move rfl rfl) ?_; (first | refine SS.sk 9 rfl ?_ | refine SS.tw 9 rfl (p_move rfl rfl) ?_); (first | refine SS.sk 10 rfl ?_; (first | refine SS.sk 11 rfl ?_ | refine SS.tw 11 rfl (Pu.t (p_cmp rfl rfl rfl rfl) (by dsimp only [cmpP]; first | done | omega)) ?_ | refine SS.tw 11 rfl (Pu.f (p_cmp rfl rfl rfl rfl) (by dsimp only [cmpP]; first | done | omega)) ?_ | refine SS.tw 11 rfl (p_cmp rfl rfl rfl rfl) ?_ | refine SS.tw 11 rfl (p_eqb rfl rfl rfl) ?_); (first | refine SS.tw 12 rfl (p_pick_t rfl rfl rfl) ?_ | refine SS.tw 12 rfl (p_pick_f rfl rfl rfl) ?_); refine SS.tw 13 rfl (p_move rfl rfl) ?_; (first | refine SS.sk 14 rfl ?_ | refine SS.tw 14 rfl (p_move rfl rfl) ?_); (first | refine SS.sk 15 rfl ?_ | refine SS.tw 15 rfl (p_not rfl rfl) ?_); (first | refine SS.tw 16 rfl (p_pick_t rfl rfl rfl) ?_ | refine SS.tw 16 rfl (p_pick_f rfl rfl rfl) ?_); refine SS.tw 17 rfl (p_move rfl rfl) ?_; (first | refine SS.sk 18 rfl ?_; (first | refine SS.sk 19 rfl ?_ | refine SS.tw 19 rfl (p_eqnil rfl rfl rfl) ?_); (first | refine SS.tw 20 rfl (p_pick_t rfl rfl rfl) ?_ | refine SS.tw 20 rfl (p_pick_f rfl rfl rfl) ?_); refine SS.tw 21 rfl (p_move rfl rfl) ?_; (first | refine SS.sk 22 rfl ?_; (first | refine SS.tw 23 rfl (p_pick_t rfl rfl rfl) ?_ | refine SS.tw 23 rfl (p_pick_f rfl rfl rfl) ?_); refine SS.tw 24 rfl (p_assign rfl rfl) ?_; refine SS.done ?_ (by kernel_rfl) | refine SS.effB 22 ?_ rfl (by kernel_rfl)) | refine SS.effB 18 ?_ rfl (by kernel_rfl)) | refine SS.effB 10 ?_ rfl (by kernel_rfl)))
  refine W.call BLen_nil ?_
  rintro _ _ ⟨rfl, rfl⟩
  (refine SL.nilB ?_; (first | refine SS.sk 11 rfl ?_ | refine SS.tw 11 rfl (Pu.t (p_cmp rfl rfl rfl rfl) (by dsimp only [cmpP]; first | done | omega)) ?_ | refine SS.tw 11 rfl (Pu.f (p_cmp rfl rfl rfl rfl) (by dsimp only [cmpP]; first | done | omega)) ?_ | refine SS.tw 11 rfl (p_cmp rfl rfl rfl rfl) ?_ | refine SS.tw 11 rfl (p_eqb rfl rfl rfl) ?_); (first | refine SS.tw 12 rfl (p_pick_t rfl rfl rfl) ?_ | refine SS.tw 12 rfl (p_pick_f rfl rfl rfl) ?_); refine SS.tw 13 rfl (p_move rfl rfl) ?_; (first | refine SS.sk 14 rfl ?_ | refine SS.tw 14 rfl (p_move rfl rfl) ?_); (first | refine SS.sk 15 rfl ?_ | refine SS.tw 15 rfl (p_not rfl rfl) ?_); (first | refine SS.tw 16 rfl (p_pick_t rfl rfl rfl) ?_ | refine SS.tw 16 rfl (p_pick_f rfl rfl rfl) ?_); refine SS.tw 17 rfl (p_move rfl rfl) ?_; (first | refine SS.sk 18 rfl ?_; (first | refine SS.sk 19 rfl ?_ | refine SS.tw 19 rfl (p_eqnil rfl rfl rfl) ?_); (first | refine SS.tw 20 rfl (p_pick_t rfl rfl rfl) ?_ | refine SS.tw 20 rfl (p_pick_f rfl rfl rfl) ?_); refine SS.tw 21 rfl (p_move rfl rfl) ?_; (first | refine SS.sk 22 rfl ?_; (first | refine SS.tw 23 rfl (p_pick_t rfl rfl rfl) ?_ | refine SS.tw 23 rfl (p_pick_f rfl rfl rfl) ?_); refine SS.tw 24 rfl (p_assign rfl rfl) ?_; refine SS.done ?_ (by kernel_rfl) | refine SS.effB 22 ?_ rfl (by kernel_rfl)) | refine SS.effB 18 ?_ rfl (by kernel_rfl)))
  refine W.call BNew_nil ?_
  rintro _ _ ⟨rfl, rfl⟩
  (refine SL.nilB ?_; (first | refine SS.sk 19 rfl ?_ | refine SS.tw 19 rfl (p_eqnil rfl rfl rfl) ?_); (first | refine SS.tw 20 rfl (p_pick_t rfl rfl rfl) ?_ | refine SS.tw 20 rfl (p_pick_f rfl rfl rfl) ?_); refine SS.tw 21 rfl (p_move rfl rfl) ?_; (first | refine SS.sk 22 rfl ?_; (first | refine SS.tw 23 rfl (p_pick_t rfl rfl rfl) ?_ | refine SS.tw 23 rfl (p_pick_f rfl rfl rfl) ?_); refine SS.tw 24 rfl (p_assign rfl rfl) ?_; refine SS.done ?_ (by kernel_rfl) | refine SS.effB 22 ?_ rfl (by kernel_rfl)))
  refine W.call awake4_p ?_
  rintro _ _ ⟨rfl, rfl⟩
  (refine SL.nilB ?_; (first | refine SS.tw 23 rfl (p_pick_t rfl rfl rfl) ?_ | refine SS.tw 23 rfl (p_pick_f rfl rfl rfl) ?_); refine SS.tw 24 rfl (p_assign rfl rfl) ?_; refine SS.done ?_ (by kernel_rfl))
  (repeat' (first | refine W.mv ?_ | refine W.ls ?_ | refine W.fa ?_ | refine W.nl ?_ | refine W.as ?_ | refine W.ct ?_ | refine W.cf ?_ | refine W.ad ?_ | refine W.sb ?_ | refine W.ml ?_ | refine W.st ?_ | refine SL.nilB ?_ | refine SL.nil ?_ | refine W.ln ?_ | refine W.ix ?_ | refine W.lw ?_ | refine W.la ?_ | refine W.al fun b_ => ?_ | refine W.bx fun b_ => ?_ | refine W.bxa fun b_ => ?_ | refine W.sw ?_ | refine W.sa ?_ | refine W.pkt ?_ | refine W.pkf ?_ | refine W.ua ?_ | refine W.en ?_ | refine W.nn ?_ | refine W.es ?_ | refine W.ns ?_ | refine W.nt ?_ | refine W.fs ?_ | refine W.fg ?_ | refine W.bd ?_ | refine W.bda ?_ | refine W.mf ?_ | refine W.mx ?_ | refine W.mn ?_ | refine W.qu ?_ | refine W.rm ?_ | refine W.lr ?_ | refine W.lt ?_ | refine W.cp ?_ | refine W.ixa ?_ | refine W.sk ?_ | refine W.lsR (by assumption) ?_ | refine W.laR (by assumption) ?_ | refine W.eb ?_ | refine W.nb ?_ | refine W.ci ?_ | refine W.cv ?_ | refine W.s01 ?_ | refine W.s10 ?_ | refine W.s11 ?_ | refine W.s10e ?_ | refine W.sar ?_ | refine W.bs0 fun b_ => ?_ | refine W.ma fun b_ => ?_ | refine W.ex ?_ | refine W.bsl fun b_ => ?_ | refine W.mk ?_ | refine W.ett ?_ | refine W.est ?_ | refine W.nst ?_ | refine W.shl ?_ | refine W.shr ?_ | refine W.bnot ?_ | refine W.ng ?_ | refine W.ai ?_ | refine SW.seq ?_ | refine SW.region ?_ | refine SW.block ?_ | refine SW.cond_t rfl ?_ | refine SW.cond_f rfl ?_ | refine SW.exit ?_ | refine SW.ret ?_ | refine SW.skip ?_))
  refine Fin.to [] ?_
  exact F.f1 rfl
end Go.Proofs.Ytpdokachnmlhlaa
