/- A device's tree; bases that are unlike. -/
import Derived.Test.YtieamijnajbcnaaGreatKb
import Derived.Test.YtieamijnajbcnaaGreatD5
set_option linter.unusedVariables false
set_option linter.unusedSimpArgs false
namespace Go.Proofs.YtieamijnajbcnaaGreat
open Go
attribute [local irreducible] SW SL SQ SH SA SS Pu Fin CutF HandF

theorem Plant_nil : Tri Tryz.prog 8 [.agg #[.pointer none, .pointer none, .pointer none, .pointer none, .int .i64 0, .int .i64 0]] [] (fun _ => True) (fun v H => v = .tuple #[.pointer none, .int .i64 2] ∧ H = []) := by
  refine Tri.mk Tryz.func8 rfl Tryz.ntmps8 rfl fun w hw => ?_
  (repeat' (first | refine W.mv ?_ | refine W.zl ?_ | refine W.fa ?_ | refine W.nl ?_ | refine W.as ?_ | refine W.zb ?_ | refine W.za ?_ | refine W.zi ?_ | refine W.zc ?_ | refine W.zp ?_ | refine W.st ?_ | refine SL.nilB ?_ | refine SL.nil ?_ | refine W.al fun b_ => ?_ | refine W.bx fun b_ => ?_ | refine W.bxa fun b_ => ?_ | refine W.sw ?_ | refine W.sa ?_ | refine W.sk ?_ | refine W.bs0 fun b_ => ?_ | refine W.ma fun b_ => ?_ | refine W.bsl fun b_ => ?_ | refine W.zu ?_ | refine W.zf ?_ | refine W.zd ?_ | refine W.zs ?_ | refine W.zv ?_ | refine W.zx ?_ | refine W.ex ?_ | refine W.mf ?_ | refine W.mk ?_ | refine SW.seq ?_ | refine SW.region ?_ | refine SW.block ?_ | refine SW.cond_t rfl ?_ | refine SW.cond_f rfl ?_ | refine SW.exit ?_ | refine SW.ret ?_ | refine SW.skip ?_))
  refine Fin.to [] ?_
  exact F.f2 ⟨rfl, rfl⟩
theorem Bring_nil : Tri Tryz.prog 9 [.agg #[.pointer none, .pointer none, .pointer none, .pointer none, .int .i64 0, .int .i64 0], .agg #[.pointer none, .pointer none, .pointer none, .pointer none, .int .i64 0, .int .i64 0]] [] (fun _ => True) (fun v H => v = .tuple #[.slice none 0 0, .int .i64 2] ∧ H = []) := by
  refine Tri.mk Tryz.func9 rfl Tryz.ntmps9 rfl fun w hw => ?_
  (repeat' (first | refine W.mv ?_ | refine W.zl ?_ | refine W.fa ?_ | refine W.nl ?_ | refine W.as ?_ | refine W.zb ?_ | refine W.za ?_ | refine W.zi ?_ | refine W.zc ?_ | refine W.zp ?_ | refine W.st ?_ | refine SL.nilB ?_ | refine SL.nil ?_ | refine W.al fun b_ => ?_ | refine W.bx fun b_ => ?_ | refine W.bxa fun b_ => ?_ | refine W.sw ?_ | refine W.sa ?_ | refine W.sk ?_ | refine W.bs0 fun b_ => ?_ | refine W.ma fun b_ => ?_ | refine W.bsl fun b_ => ?_ | refine W.zu ?_ | refine W.zf ?_ | refine W.zd ?_ | refine W.zs ?_ | refine W.zv ?_ | refine W.zx ?_ | refine W.ex ?_ | refine W.mf ?_ | refine W.mk ?_ | refine SW.seq ?_ | refine SW.region ?_ | refine SW.block ?_ | refine SW.cond_t rfl ?_ | refine SW.cond_f rfl ?_ | refine SW.exit ?_ | refine SW.ret ?_ | refine SW.skip ?_))
  refine W.call Plant_nil ?_
  rintro _ _ ⟨rfl, rfl⟩
  (repeat' (first | refine W.mv ?_ | refine W.zl ?_ | refine W.fa ?_ | refine W.nl ?_ | refine W.as ?_ | refine W.zb ?_ | refine W.za ?_ | refine W.zi ?_ | refine W.zc ?_ | refine W.zp ?_ | refine W.st ?_ | refine SL.nilB ?_ | refine SL.nil ?_ | refine W.al fun b_ => ?_ | refine W.bx fun b_ => ?_ | refine W.bxa fun b_ => ?_ | refine W.sw ?_ | refine W.sa ?_ | refine W.sk ?_ | refine W.bs0 fun b_ => ?_ | refine W.ma fun b_ => ?_ | refine W.bsl fun b_ => ?_ | refine W.zu ?_ | refine W.zf ?_ | refine W.zd ?_ | refine W.zs ?_ | refine W.zv ?_ | refine W.zx ?_ | refine W.ex ?_ | refine W.mf ?_ | refine W.mk ?_ | refine SW.seq ?_ | refine SW.region ?_ | refine SW.block ?_ | refine SW.cond_t rfl ?_ | refine SW.cond_f rfl ?_ | refine SW.exit ?_ | refine SW.ret ?_ | refine SW.skip ?_))
  refine Fin.to [] ?_
  exact F.f2 ⟨rfl, rfl⟩

/-- A base: its parts. -/
abbrev baseV (d tr s bk p t : Nat) : Value := .agg #[ptv d, ptv tr, ptv s, ptv bk, .int .i64 (p : Int), .int .i64 (t : Int)]
/-- The bytes of block k, as they are read. -/
def Dv.blk (σ : Dv) (k : Nat) : List UInt8 := σ.loadB (256 * k : Nat) 256
/-- The leaves of the first n blocks, and the texts that are summed for them. -/
def Dv.leafTs (σ : Dv) (n : Nat) : List (List UInt8) := (List.range n).map fun k => leafT k (σ.blk k)
def Dv.leaves (σ : Dv) (n : Nat) : List (List UInt8) := (List.range n).map fun k => Sha.sum (leafT k (σ.blk k))
theorem Dv.blk_len (σ : Dv) (k : Nat) : (σ.blk k).length ≤ 256 := by
  unfold Dv.blk Dv.loadB
  split
  · rw [List.length_take]; exact Nat.min_le_left ..
  · exact Nat.zero_le _
theorem Dv.leaves_succ (σ : Dv) (n : Nat) : σ.leaves (n + 1) = σ.leaves n ++ [Sha.sum (leafT n (σ.blk n))] := by unfold Dv.leaves; rw [List.range_succ, List.map_append]; rfl
theorem Dv.leafTs_succ (σ : Dv) (n : Nat) : σ.leafTs (n + 1) = σ.leafTs n ++ [leafT n (σ.blk n)] := by unfold Dv.leafTs; rw [List.range_succ, List.map_append]; rfl
theorem Dv.leaves_32 (σ : Dv) (n : Nat) : D32 (σ.leaves n) := fun x hx => by
  obtain ⟨k, -, rfl⟩ := List.mem_map.1 hx
  exact Sha.sum_len _
theorem Dv.leaves_len (σ : Dv) (n : Nat) : (σ.leaves n).length = n := by unfold Dv.leaves; simp
theorem Plant_p {d tr s bk tb p t : Nat} (h : Gm.Ok p t) {σ : Dv} {Hd Hb : Hp} {β : Bk} (hD : DevP d σ Hd) (hB : BookP bk tb β Hb) (hdn : σ.down = false) (hlen : σ.len = ((256 * Gm.total p t : Nat) : Int)) :
    Tri Tryz.prog 8 [baseV d tr s bk p t] (Hd ++ Hb) (fun _ => True) (fun v H => ∃ tp Ht Hb', v = .tuple #[ptv tp, .int .i64 0] ∧ H = Hd ++ (Hb' ++ Ht) ∧
      TreeP tp bk (Gm.leaves p) (rowsV (σ.leaves (Gm.leaves p)) (dep (Gm.leaves p)) (dep (Gm.leaves p) + 1)) Ht ∧ BookP bk tb ((β.adds (σ.leafTs (Gm.leaves p))).adds (textsV (σ.leaves (Gm.leaves p)) (dep (Gm.leaves p)))) Hb') := by
  refine Tri.mk Tryz.func8 rfl Tryz.ntmps8 rfl fun w hw => ?_
  have hck := gcheck_p h
  have hln := len_p hD
  have htt := gtotal_p h
  have htl := Gm.total_le2 h
  have hby := gbytes_p (k := Gm.total p t) (by omega)
  have hlv := gleaves_p h
  have hlt : Gm.leaves p ≤ Gm.total p t := by unfold Gm.total; omega
  have hl1 : 1 ≤ Gm.leaves p := by unfold Gm.leaves; omega
  rw [hlen] at hln
  generalize hn : Gm.leaves p = n at *
  generalize hm : Gm.total p t = m at *
  (repeat' (first | refine W.mv ?_ | refine W.zl ?_ | refine W.fa ?_ | refine W.nl ?_ | refine W.as ?_ | refine W.zb ?_ | refine W.za ?_ | refine W.zi ?_ | refine W.zc ?_ | refine W.zp ?_ | refine W.st ?_ | refine SL.nilB ?_ | refine SL.nil ?_ | refine W.al fun b_ => ?_ | refine W.bx fun b_ => ?_ | refine W.bxa fun b_ => ?_ | refine W.sw ?_ | refine W.sa ?_ | refine W.sk ?_ | refine W.bs0 fun b_ => ?_ | refine W.ma fun b_ => ?_ | refine W.bsl fun b_ => ?_ | refine W.zu ?_ | refine W.zf ?_ | refine W.zd ?_ | refine W.zs ?_ | refine W.zv ?_ | refine W.zx ?_ | refine W.ex ?_ | refine W.mf ?_ | refine W.mk ?_ | refine SW.seq ?_ | refine SW.region ?_ | refine SW.block ?_ | refine SW.cond_t rfl ?_ | refine SW.cond_f rfl ?_ | refine SW.exit ?_ | refine SW.ret ?_ | refine SW.skip ?_))
  (refine SW.regionS [2, 10, 11] ?_ (by kernel_rfl); refine SS.tw 0 rfl (p_fieldAddr rfl rfl OfN.ok) ?_; (first | refine SS.lw 1 [2, 4, 10, 11] rfl ?_ | refine SS.la 1 [2, 4, 10, 11] rfl ?_ | refine SS.tw 1 rfl (p_load_aR rfl rfl (by assumption) (by assumption) (by assumption) (by assumption)) ?_); refine SS.effB 2 ?_ rfl (by kernel_rfl))
  refine W.call hck ?_
  rintro _ _ ⟨rfl, rfl⟩
  (refine SL.nilB ?_; (first | refine SS.tw 3 rfl (Pu.t (p_cmp rfl rfl rfl rfl) (by dsimp only [cmpP]; first | done | omega)) ?_; refine SS.tw 4 rfl (p_move rfl rfl) ?_; (first | refine SS.sk 5 rfl ?_ | refine SS.tw 5 rfl (p_fieldAddr rfl rfl OfN.ok) ?_); (first | refine SS.sk 6 rfl ?_ | refine SS.ls 6 [7, 10, 11] rfl ?_ | refine SS.tw 6 rfl (p_load_sR rfl rfl (by assumption) (by assumption) (by assumption)) ?_); (first | refine SS.sk 8 rfl ?_ | refine SS.tw 8 rfl (p_fieldAddr rfl rfl OfN.ok) ?_); (first | refine SS.sk 9 rfl ?_ | refine SS.lw 9 [10, 11] rfl ?_ | refine SS.la 9 [10, 11] rfl ?_ | refine SS.tw 9 rfl (p_load_aR rfl rfl (by assumption) (by assumption) (by assumption) (by assumption)) ?_); (first | refine SS.sk 7 rfl ?_; (first | refine SS.sk 10 rfl ?_; (first | refine SS.sk 11 rfl ?_; (first | refine SS.sk 12 rfl ?_ | refine SS.tw 12 rfl (Pu.t (p_cmp rfl rfl rfl rfl) (by dsimp only [cmpP]; first | done | omega)) ?_ | refine SS.tw 12 rfl (Pu.f (p_cmp rfl rfl rfl rfl) (by dsimp only [cmpP]; first | done | omega)) ?_ | refine SS.tw 12 rfl (p_cmp rfl rfl rfl rfl) ?_ | refine SS.tw 12 rfl (p_neb rfl rfl rfl) ?_); (first | refine SS.tw 13 rfl (p_pick_t rfl rfl rfl) ?_ | refine SS.tw 13 rfl (p_pick_f rfl rfl rfl) ?_); refine SS.tw 14 rfl (p_assign rfl rfl) ?_; refine SS.done ?_ (by kernel_rfl) | refine SS.effB 11 ?_ rfl (by kernel_rfl)) | refine SS.effB 10 ?_ rfl (by kernel_rfl)) | refine SS.effK 7 ?_ rfl (by kernel_rfl)) | refine SS.tw 3 rfl (Pu.f (p_cmp rfl rfl rfl rfl) (by dsimp only [cmpP]; first | done | omega)) ?_; refine SS.tw 4 rfl (p_move rfl rfl) ?_; (first | refine SS.sk 5 rfl ?_ | refine SS.tw 5 rfl (p_fieldAddr rfl rfl OfN.ok) ?_); (first | refine SS.sk 6 rfl ?_ | refine SS.ls 6 [7, 10, 11] rfl ?_ | refine SS.tw 6 rfl (p_load_sR rfl rfl (by assumption) (by assumption) (by assumption)) ?_); (first | refine SS.sk 8 rfl ?_ | refine SS.tw 8 rfl (p_fieldAddr rfl rfl OfN.ok) ?_); (first | refine SS.sk 9 rfl ?_ | refine SS.lw 9 [10, 11] rfl ?_ | refine SS.la 9 [10, 11] rfl ?_ | refine SS.tw 9 rfl (p_load_aR rfl rfl (by assumption) (by assumption) (by assumption) (by assumption)) ?_); (first | refine SS.sk 7 rfl ?_; (first | refine SS.sk 10 rfl ?_; (first | refine SS.sk 11 rfl ?_; (first | refine SS.sk 12 rfl ?_ | refine SS.tw 12 rfl (Pu.t (p_cmp rfl rfl rfl rfl) (by dsimp only [cmpP]; first | done | omega)) ?_ | refine SS.tw 12 rfl (Pu.f (p_cmp rfl rfl rfl rfl) (by dsimp only [cmpP]; first | done | omega)) ?_ | refine SS.tw 12 rfl (p_cmp rfl rfl rfl rfl) ?_ | refine SS.tw 12 rfl (p_neb rfl rfl rfl) ?_); (first | refine SS.tw 13 rfl (p_pick_t rfl rfl rfl) ?_ | refine SS.tw 13 rfl (p_pick_f rfl rfl rfl) ?_); refine SS.tw 14 rfl (p_assign rfl rfl) ?_; refine SS.done ?_ (by kernel_rfl) | refine SS.effB 11 ?_ rfl (by kernel_rfl)) | refine SS.effB 10 ?_ rfl (by kernel_rfl)) | refine SS.effK 7 ?_ rfl (by kernel_rfl)) | (refine SS.cs 3 rfl (p_cmp rfl rfl rfl rfl) (fun h_ => ?_) (fun h_ => ?_) <;> dsimp only [cmpP] at h_ <;> (refine SS.tw 4 rfl (p_move rfl rfl) ?_; (first | refine SS.sk 5 rfl ?_ | refine SS.tw 5 rfl (p_fieldAddr rfl rfl OfN.ok) ?_); (first | refine SS.sk 6 rfl ?_ | refine SS.ls 6 [7, 10, 11] rfl ?_ | refine SS.tw 6 rfl (p_load_sR rfl rfl (by assumption) (by assumption) (by assumption)) ?_); (first | refine SS.sk 8 rfl ?_ | refine SS.tw 8 rfl (p_fieldAddr rfl rfl OfN.ok) ?_); (first | refine SS.sk 9 rfl ?_ | refine SS.lw 9 [10, 11] rfl ?_ | refine SS.la 9 [10, 11] rfl ?_ | refine SS.tw 9 rfl (p_load_aR rfl rfl (by assumption) (by assumption) (by assumption) (by assumption)) ?_); (first | refine SS.sk 7 rfl ?_; (first | refine SS.sk 10 rfl ?_; (first | refine SS.sk 11 rfl ?_; (first | refine SS.sk 12 rfl ?_ | refine SS.tw 12 rfl (Pu.t (p_cmp rfl rfl rfl rfl) (by dsimp only [cmpP]; first | done | omega)) ?_ | refine SS.tw 12 rfl (Pu.f (p_cmp rfl rfl rfl rfl) (by dsimp only [cmpP]; first | done | omega)) ?_ | refine SS.tw 12 rfl (p_cmp rfl rfl rfl rfl) ?_ | refine SS.tw 12 rfl (p_neb rfl rfl rfl) ?_); (first | refine SS.tw 13 rfl (p_pick_t rfl rfl rfl) ?_ | refine SS.tw 13 rfl (p_pick_f rfl rfl rfl) ?_); refine SS.tw 14 rfl (p_assign rfl rfl) ?_; refine SS.done ?_ (by kernel_rfl) | refine SS.effB 11 ?_ rfl (by kernel_rfl)) | refine SS.effB 10 ?_ rfl (by kernel_rfl)) | refine SS.effK 7 ?_ rfl (by kernel_rfl))))))
  refine W.call hln ?_
  rintro _ Hx ⟨rfl, rfl⟩
  (refine SL.nilB ?_; (first | refine SS.sk 10 rfl ?_; (first | refine SS.sk 11 rfl ?_; (first | refine SS.sk 12 rfl ?_ | refine SS.tw 12 rfl (Pu.t (p_cmp rfl rfl rfl rfl) (by dsimp only [cmpP]; first | done | omega)) ?_ | refine SS.tw 12 rfl (Pu.f (p_cmp rfl rfl rfl rfl) (by dsimp only [cmpP]; first | done | omega)) ?_ | refine SS.tw 12 rfl (p_cmp rfl rfl rfl rfl) ?_ | refine SS.tw 12 rfl (p_neb rfl rfl rfl) ?_); (first | refine SS.tw 13 rfl (p_pick_t rfl rfl rfl) ?_ | refine SS.tw 13 rfl (p_pick_f rfl rfl rfl) ?_); refine SS.tw 14 rfl (p_assign rfl rfl) ?_; refine SS.done ?_ (by kernel_rfl) | refine SS.effB 11 ?_ rfl (by kernel_rfl)) | refine SS.effB 10 ?_ rfl (by kernel_rfl)))
  refine W.call htt ?_
  rintro _ _ ⟨rfl, rfl⟩
  (refine SL.nilB ?_; (first | refine SS.sk 11 rfl ?_; (first | refine SS.sk 12 rfl ?_ | refine SS.tw 12 rfl (Pu.t (p_cmp rfl rfl rfl rfl) (by dsimp only [cmpP]; first | done | omega)) ?_ | refine SS.tw 12 rfl (Pu.f (p_cmp rfl rfl rfl rfl) (by dsimp only [cmpP]; first | done | omega)) ?_ | refine SS.tw 12 rfl (p_cmp rfl rfl rfl rfl) ?_ | refine SS.tw 12 rfl (p_neb rfl rfl rfl) ?_); (first | refine SS.tw 13 rfl (p_pick_t rfl rfl rfl) ?_ | refine SS.tw 13 rfl (p_pick_f rfl rfl rfl) ?_); refine SS.tw 14 rfl (p_assign rfl rfl) ?_; refine SS.done ?_ (by kernel_rfl) | refine SS.effB 11 ?_ rfl (by kernel_rfl)))
  refine W.call hby ?_
  rintro _ _ ⟨rfl, rfl⟩
  (refine SL.nilB ?_; (first | refine SS.sk 12 rfl ?_ | refine SS.tw 12 rfl (Pu.t (p_cmp rfl rfl rfl rfl) (by dsimp only [cmpP]; first | done | omega)) ?_ | refine SS.tw 12 rfl (Pu.f (p_cmp rfl rfl rfl rfl) (by dsimp only [cmpP]; first | done | omega)) ?_ | refine SS.tw 12 rfl (p_cmp rfl rfl rfl rfl) ?_ | refine SS.tw 12 rfl (p_neb rfl rfl rfl) ?_); (first | refine SS.tw 13 rfl (p_pick_t rfl rfl rfl) ?_ | refine SS.tw 13 rfl (p_pick_f rfl rfl rfl) ?_); refine SS.tw 14 rfl (p_assign rfl rfl) ?_; refine SS.done ?_ (by kernel_rfl))
  (repeat' (first | refine W.mv ?_ | refine W.zl ?_ | refine W.fa ?_ | refine W.nl ?_ | refine W.as ?_ | refine W.zb ?_ | refine W.za ?_ | refine W.zi ?_ | refine W.zc ?_ | refine W.zp ?_ | refine W.st ?_ | refine SL.nilB ?_ | refine SL.nil ?_ | refine W.al fun b_ => ?_ | refine W.bx fun b_ => ?_ | refine W.bxa fun b_ => ?_ | refine W.sw ?_ | refine W.sa ?_ | refine W.sk ?_ | refine W.bs0 fun b_ => ?_ | refine W.ma fun b_ => ?_ | refine W.bsl fun b_ => ?_ | refine W.zu ?_ | refine W.zf ?_ | refine W.zd ?_ | refine W.zs ?_ | refine W.zv ?_ | refine W.zx ?_ | refine W.ex ?_ | refine W.mf ?_ | refine W.mk ?_ | refine SW.seq ?_ | refine SW.region ?_ | refine SW.block ?_ | refine SW.cond_t rfl ?_ | refine SW.cond_f rfl ?_ | refine SW.exit ?_ | refine SW.ret ?_ | refine SW.skip ?_))
  refine W.call hlv ?_
  rintro _ _ ⟨rfl, rfl⟩
  (repeat' (first | refine W.mv ?_ | refine W.zl ?_ | refine W.fa ?_ | refine W.nl ?_ | refine W.as ?_ | refine W.zb ?_ | refine W.za ?_ | refine W.zi ?_ | refine W.zc ?_ | refine W.zp ?_ | refine W.st ?_ | refine SL.nilB ?_ | refine SL.nil ?_ | refine W.al fun b_ => ?_ | refine W.bx fun b_ => ?_ | refine W.bxa fun b_ => ?_ | refine W.sw ?_ | refine W.sa ?_ | refine W.sk ?_ | refine W.bs0 fun b_ => ?_ | refine W.ma fun b_ => ?_ | refine W.bsl fun b_ => ?_ | refine W.zu ?_ | refine W.zf ?_ | refine W.zd ?_ | refine W.zs ?_ | refine W.zv ?_ | refine W.zx ?_ | refine W.ex ?_ | refine W.mf ?_ | refine W.mk ?_ | refine SW.seq ?_ | refine SW.region ?_ | refine SW.cond_t rfl ?_ | refine SW.cond_f rfl ?_ | refine SW.exit ?_ | refine SW.ret ?_ | refine SW.skip ?_))
  refine SW.cutH [1] Hb (fun x : Value × Hp × Hp => [(4, x.1)]) (fun x => x.2.1 ++ x.2.2) (fun x => Sl 72 32 x.1 (cbs (σ.leaves n).flatten) x.2.2 ∧ BookP bk tb (β.adds (σ.leafTs n)) x.2.1) ?_ ?_
  · (repeat' (first | refine W.mv ?_ | refine W.zl ?_ | refine W.fa ?_ | refine W.nl ?_ | refine W.as ?_ | refine W.zb ?_ | refine W.za ?_ | refine W.zi ?_ | refine W.zc ?_ | refine W.zp ?_ | refine W.st ?_ | refine SL.nilB ?_ | refine SL.nil ?_ | refine W.al fun b_ => ?_ | refine W.bx fun b_ => ?_ | refine W.bxa fun b_ => ?_ | refine W.sw ?_ | refine W.sa ?_ | refine W.sk ?_ | refine W.bs0 fun b_ => ?_ | refine W.ma fun b_ => ?_ | refine W.bsl fun b_ => ?_ | refine W.zu ?_ | refine W.zf ?_ | refine W.zd ?_ | refine W.zs ?_ | refine W.zv ?_ | refine W.zx ?_ | refine W.ex ?_ | refine W.mf ?_ | refine W.mk ?_ | refine SW.seq ?_ | refine SW.region ?_ | refine SW.block ?_ | refine SW.cond_t rfl ?_ | refine SW.cond_f rfl ?_ | refine SW.exit ?_ | refine SW.ret ?_ | refine SW.skip ?_))
    refine SW.loopF [1, 44] (fun x : Nat × Value × Hp × Hp => [(4, x.2.1), (45, .int .i64 (x.1 : Int))]) (fun x => (b_, cl [ptv d, ptv tr, ptv s, ptv bk, .int .i64 (p : Int), .int .i64 (t : Int)] 41) :: (Hx ++ (x.2.2.1 ++ x.2.2.2))) (fun x => n - x.1)
      (fun x => x.1 ≤ n ∧ Sl 72 32 x.2.1 (cbs (σ.leaves x.1).flatten) x.2.2.2 ∧ BookP bk tb (β.adds (σ.leafTs x.1)) x.2.2.1) (0, .slice none 0 0, Hb, []) ⟨Nat.zero_le _, Sl.nil _ _, hB⟩ ?_
    rintro ⟨k, v2, Hb2, Hl2⟩ ⟨hk, hS, hB2⟩
    dsimp only at hk hS hB2 ⊢
    have hS1 := hS.isOne
    by_cases hkn : k < n
    · have hbk := gbytes_p (k := k) (by omega)
      have hld := load_p hD ((256 * k : Nat) : Int) 256
      have hr0 : σ.rdy ((256 * k : Nat) : Int) 256 = 0 := by
        unfold Dv.rdy
        rw [hdn, hlen]
        simp only [Bool.false_eq_true, if_false]
        rw [if_neg (by omega)]
      rw [hr0] at hld
      (repeat' (first | refine W.mv ?_ | refine W.zl ?_ | refine W.fa ?_ | refine W.nl ?_ | refine W.as ?_ | refine W.zb ?_ | refine W.za ?_ | refine W.zi ?_ | refine W.zc ?_ | refine W.zp ?_ | refine W.st ?_ | refine SL.nilB ?_ | refine SL.nil ?_ | refine W.al fun b_ => ?_ | refine W.bx fun b_ => ?_ | refine W.bxa fun b_ => ?_ | refine W.sw ?_ | refine W.sa ?_ | refine W.sk ?_ | refine W.bs0 fun b_ => ?_ | refine W.ma fun b_ => ?_ | refine W.bsl fun b_ => ?_ | refine W.zu ?_ | refine W.zf ?_ | refine W.zd ?_ | refine W.zs ?_ | refine W.zv ?_ | refine W.zx ?_ | refine W.ex ?_ | refine W.mf ?_ | refine W.mk ?_ | refine SW.seq ?_ | refine SW.region ?_ | refine SW.block ?_ | refine SW.cond_t rfl ?_ | refine SW.cond_f rfl ?_ | refine SW.exit ?_ | refine SW.ret ?_ | refine SW.skip ?_))
      (refine SW.regionS [4] ?_ (by kernel_rfl); refine SS.tw 0 rfl (p_fieldAddr rfl rfl OfN.ok) ?_; (first | refine SS.ls 1 [4] rfl ?_ | refine SS.tw 1 rfl (p_load_sR rfl rfl (by assumption) (by assumption) (by assumption)) ?_); refine SS.tw 2 rfl (p_move rfl rfl) ?_; refine SS.effK 3 ?_ rfl (by kernel_rfl))
      refine W.call hbk ?_
      rintro _ _ ⟨rfl, rfl⟩
      (refine SL.nilB ?_; refine SS.effB 4 ?_ rfl (by kernel_rfl))
      refine W.call hld ?_
      rintro _ _ ⟨sv, Hs, rfl, hsv, rfl⟩
      have hsv1 := hsv.isOne
      (refine SL.nilB ?_; refine SS.tw 5 rfl (p_move rfl rfl) ?_; refine SS.tw 6 rfl (p_ext rfl rfl rfl) ?_; refine SS.tw 7 rfl (p_ext rfl rfl rfl) ?_; refine SS.tw 8 rfl (p_assign rfl rfl) ?_; refine SS.tw 9 rfl (p_assign rfl rfl) ?_; refine SS.done ?_ (by kernel_rfl))
      (repeat' (first | refine W.mv ?_ | refine W.zl ?_ | refine W.fa ?_ | refine W.nl ?_ | refine W.as ?_ | refine W.zb ?_ | refine W.za ?_ | refine W.zi ?_ | refine W.zc ?_ | refine W.zp ?_ | refine W.st ?_ | refine SL.nilB ?_ | refine SL.nil ?_ | refine W.al fun b_ => ?_ | refine W.bx fun b_ => ?_ | refine W.bxa fun b_ => ?_ | refine W.sw ?_ | refine W.sa ?_ | refine W.sk ?_ | refine W.bs0 fun b_ => ?_ | refine W.ma fun b_ => ?_ | refine W.bsl fun b_ => ?_ | refine W.zu ?_ | refine W.zf ?_ | refine W.zd ?_ | refine W.zs ?_ | refine W.zv ?_ | refine W.zx ?_ | refine W.ex ?_ | refine W.mf ?_ | refine W.mk ?_ | refine SW.seq ?_ | refine SW.region ?_ | refine SW.block ?_ | refine SW.cond_t rfl ?_ | refine SW.cond_f rfl ?_ | refine SW.exit ?_ | refine SW.ret ?_ | refine SW.skip ?_))
      have hbl := σ.blk_len k
      refine W.call (leaf_p hB2 k sv (σ.blk k) (by omega)) ?_ (hpre := fun w2 hs => Rd.own (e := 5) (Hc := Hb2) hsv hs inferInstance)
      rintro _ Hb3 ⟨rfl, hB3⟩
      rw [Bk.adds_one, ← Dv.leafTs_succ] at hB3
      have h32 : (Sha.sum (leafT k (σ.blk k))).length = 32 := Sha.sum_len _
      have hls := σ.leaves_succ k
      generalize Sha.sum (leafT k (σ.blk k)) = y at *
      have hb1 := b1d h32
      have hc := cl32 h32
      have hfl := flatN_len (L := σ.leaves k) (σ.leaves_32 k)
      rw [σ.leaves_len] at hfl
      (repeat' (first | refine W.mv ?_ | refine W.zl ?_ | refine W.fa ?_ | refine W.nl ?_ | refine W.as ?_ | refine W.zb ?_ | refine W.za ?_ | refine W.zi ?_ | refine W.zc ?_ | refine W.zp ?_ | refine W.st ?_ | refine SL.nilB ?_ | refine SL.nil ?_ | refine W.al fun b_ => ?_ | refine W.bx fun b_ => ?_ | refine W.bxa fun b_ => ?_ | refine W.sw ?_ | refine W.sa ?_ | refine W.sk ?_ | refine W.bs0 fun b_ => ?_ | refine W.ma fun b_ => ?_ | refine W.bsl fun b_ => ?_ | refine W.zu ?_ | refine W.zf ?_ | refine W.zd ?_ | refine W.zs ?_ | refine W.zv ?_ | refine W.zx ?_ | refine W.ex ?_ | refine W.mf ?_ | refine W.mk ?_ | refine SW.seq ?_ | refine SW.region ?_ | refine SW.block ?_ | refine SW.cond_t rfl ?_ | refine SW.cond_f rfl ?_ | refine SW.exit ?_ | refine SW.ret ?_ | refine SW.skip ?_))
      refine W.ap (ys := cbs y) (mm := 1) hS (fun w2 hs => (Sl.own 72 32 b_ (xs := cbs y) hc).srcAt hs inferInstance) (fun v3 H3 h3 => ?_) (hys := hc) (hbytes := by rw [hc, cbs_len, hfl]; omega)
      have h31 := h3.isOne
      rw [show cbs (σ.leaves k).flatten ++ cbs y = cbs (σ.leaves k ++ [y]).flatten by simp, ← hls] at h3
      (repeat' (first | refine W.mv ?_ | refine W.zl ?_ | refine W.fa ?_ | refine W.nl ?_ | refine W.as ?_ | refine W.zb ?_ | refine W.za ?_ | refine W.zi ?_ | refine W.zc ?_ | refine W.zp ?_ | refine W.st ?_ | refine SL.nilB ?_ | refine SL.nil ?_ | refine W.al fun b_ => ?_ | refine W.bx fun b_ => ?_ | refine W.bxa fun b_ => ?_ | refine W.sw ?_ | refine W.sa ?_ | refine W.sk ?_ | refine W.bs0 fun b_ => ?_ | refine W.ma fun b_ => ?_ | refine W.bsl fun b_ => ?_ | refine W.zu ?_ | refine W.zf ?_ | refine W.zd ?_ | refine W.zs ?_ | refine W.zv ?_ | refine W.zx ?_ | refine W.ex ?_ | refine W.mf ?_ | refine W.mk ?_ | refine SW.seq ?_ | refine SW.region ?_ | refine SW.block ?_ | refine SW.cond_t rfl ?_ | refine SW.cond_f rfl ?_ | refine SW.exit ?_ | refine SW.ret ?_ | refine SW.skip ?_))
      refine HandF.mk (k + 1, v3, Hb3, H3) ?_
      exact ⟨hkn, h3, hB3⟩
    · have hkn2 : k = n := by omega
      subst hkn2
      (repeat' (first | refine W.mv ?_ | refine W.zl ?_ | refine W.fa ?_ | refine W.nl ?_ | refine W.as ?_ | refine W.zb ?_ | refine W.za ?_ | refine W.zi ?_ | refine W.zc ?_ | refine W.zp ?_ | refine W.st ?_ | refine SL.nilB ?_ | refine SL.nil ?_ | refine W.al fun b_ => ?_ | refine W.bx fun b_ => ?_ | refine W.bxa fun b_ => ?_ | refine W.sw ?_ | refine W.sa ?_ | refine W.sk ?_ | refine W.bs0 fun b_ => ?_ | refine W.ma fun b_ => ?_ | refine W.bsl fun b_ => ?_ | refine W.zu ?_ | refine W.zf ?_ | refine W.zd ?_ | refine W.zs ?_ | refine W.zv ?_ | refine W.zx ?_ | refine W.ex ?_ | refine W.mf ?_ | refine W.mk ?_ | refine SW.seq ?_ | refine SW.region ?_ | refine SW.block ?_ | refine SW.cond_t rfl ?_ | refine SW.cond_f rfl ?_ | refine SW.exit ?_ | refine SW.ret ?_ | refine SW.skip ?_))
      refine CutF.mk (v2, Hb2, Hl2) ?_
      exact ⟨hS, hB2⟩
  rintro ⟨v2, Hb2, Hl2⟩ ⟨hS, hB2⟩
  dsimp only at hS hB2 ⊢
  have hS1 := hS.isOne
  (repeat' (first | refine W.mv ?_ | refine W.zl ?_ | refine W.fa ?_ | refine W.nl ?_ | refine W.as ?_ | refine W.zb ?_ | refine W.za ?_ | refine W.zi ?_ | refine W.zc ?_ | refine W.zp ?_ | refine W.st ?_ | refine SL.nilB ?_ | refine SL.nil ?_ | refine W.al fun b_ => ?_ | refine W.bx fun b_ => ?_ | refine W.bxa fun b_ => ?_ | refine W.sw ?_ | refine W.sa ?_ | refine W.sk ?_ | refine W.bs0 fun b_ => ?_ | refine W.ma fun b_ => ?_ | refine W.bsl fun b_ => ?_ | refine W.zu ?_ | refine W.zf ?_ | refine W.zd ?_ | refine W.zs ?_ | refine W.zv ?_ | refine W.zx ?_ | refine W.ex ?_ | refine W.mf ?_ | refine W.mk ?_ | refine SW.seq ?_ | refine SW.region ?_ | refine SW.block ?_ | refine SW.cond_t rfl ?_ | refine SW.cond_f rfl ?_ | refine SW.exit ?_ | refine SW.ret ?_ | refine SW.skip ?_))
  refine W.call (new_p hB2 v2 (σ.leaves n) (σ.leaves_32 n) (by rw [σ.leaves_len]; exact hl1) (by rw [σ.leaves_len]; omega)) ?_ (hpre := fun w2 hs => Rd.own (Hc := Hb2) hS hs inferInstance)
  rintro _ _ ⟨tp, Ht, Hb3, rfl, rfl, hT, hB3⟩
  rw [σ.leaves_len] at hT hB3
  (repeat' (first | refine W.mv ?_ | refine W.zl ?_ | refine W.fa ?_ | refine W.nl ?_ | refine W.as ?_ | refine W.zb ?_ | refine W.za ?_ | refine W.zi ?_ | refine W.zc ?_ | refine W.zp ?_ | refine W.st ?_ | refine SL.nilB ?_ | refine SL.nil ?_ | refine W.al fun b_ => ?_ | refine W.bx fun b_ => ?_ | refine W.bxa fun b_ => ?_ | refine W.sw ?_ | refine W.sa ?_ | refine W.sk ?_ | refine W.bs0 fun b_ => ?_ | refine W.ma fun b_ => ?_ | refine W.bsl fun b_ => ?_ | refine W.zu ?_ | refine W.zf ?_ | refine W.zd ?_ | refine W.zs ?_ | refine W.zv ?_ | refine W.zx ?_ | refine W.ex ?_ | refine W.mf ?_ | refine W.mk ?_ | refine SW.seq ?_ | refine SW.region ?_ | refine SW.block ?_ | refine SW.cond_t rfl ?_ | refine SW.cond_f rfl ?_ | refine SW.exit ?_ | refine SW.ret ?_ | refine SW.skip ?_))
  refine Fin.to (Hx ++ (Hb3 ++ Ht)) ?_
  exact F.f2 ⟨tp, Ht, Hb3, rfl, rfl, hT, hB3⟩
end Go.Proofs.YtieamijnajbcnaaGreat
