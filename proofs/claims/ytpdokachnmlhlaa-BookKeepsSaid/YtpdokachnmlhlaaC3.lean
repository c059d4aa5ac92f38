/- Whatever was summed ahead. -/
import Derived.Test.YtpdokachnmlhlaaC1
set_option linter.unusedVariables false
set_option linter.unusedSimpArgs false
namespace Go.Proofs.Ytpdokachnmlhlaa
open Go
attribute [local irreducible] SW SL SQ SH SA SS Pu Fin CutF HandF

/-- A part of what is read, whatever it is. -/
theorem Rd.subG {K : List Nat} {w : World} {a : Option Addr} {len cap : Nat} {bs : List UInt8} (l h : Nat) (hr : Rd K w 1 (.slice a len cap) (cbs bs)) (h1 : l ≤ h) (h2 : h ≤ len) : Rd K w 1 (.slice (sadr a cap l 1) (h - l) (cap - l)) (cbs ((bs.drop l).take (h - l))) := by
  by_cases h0 : h - l = 0
  · rw [h0, List.take_zero]
    exact Rd.empty _ _ _ _ _
  · obtain ⟨-, hlc⟩ := hr.len1
    have hr2 := hr
    obtain ⟨a', len', cap', he, -, -, h3⟩ := hr
    cases he
    obtain ⟨b, o, l', T, fz, rfl, -⟩ := h3.resolve_left (by omega)
    unfold sadr
    rw [if_neg (by omega)]
    have e1 : Option.map (fun x : Addr => x.add (l * 1)) (some ⟨b, o, none⟩) = some ⟨b, o + l, none⟩ := by
      simp only [Option.map_some, add_mid, Nat.mul_one]
    rw [e1]
    exact hr2.sub l h (cap - l) h1 h2 (by omega)
/-- Texts that are handed in. -/
structure TxsR (w : World) (a : Option Addr) (len cap : Nat) (ys : List Value) : Prop where
  rd : Rd [] w 3 (.slice a len cap) ys
  le : len ≤ maxLen
  at_ : ∀ i, i < len → ∃ t : Tx, TxR [] w t ∧ (ys.drop (i * 3)).take 3 = t.cells
theorem TxsR.get {w : World} {a : Option Addr} {len cap : Nat} {ys : List Value} (h : TxsR w a len cap ys) {i : Nat} (hi : i < len) : ∃ (b o : Nat) (l : List Value) (T : TypeId) (fz : Nat × Nat) (t : Tx), a = some ⟨b, o, none⟩ ∧ w.heap[b]? = some (.cells l.toArray T fz) ∧ TxR [] w t ∧ (l.drop (o + i * 3)).take 3 = t.cells := by
  obtain ⟨a', len', cap', e, hl, hc, hr⟩ := h.rd
  cases e
  obtain ⟨b, o, l, T, fz, rfl, hb, -, hy⟩ := hr.resolve_left (by omega)
  obtain ⟨t, ht, hc⟩ := h.at_ i hi
  refine ⟨b, o, l, T, fz, t, rfl, hb, ht, ?_⟩
  rw [← hc, ← hy, List.drop_take, List.take_take, List.drop_drop, Nat.min_eq_left (by omega)]
theorem sums_law (a : Option Addr) (len cap : Nat) (ys : List Value) : Tri Try.prog 10 [.slice a len cap] [] (fun w => TxsR w a len cap ys) (fun v _ => v = .bool true) := by
  refine Tri.mk Try.func10 rfl Try.ntmps10 rfl fun w hw => ?_
  have hmax : len ≤ 9223372036854775807 := Nat.le_trans hw.le (by decide)
  (repeat' (first | refine W.mv ?_ | refine W.ls ?_ | refine W.fa ?_ | refine W.nl ?_ | refine W.as ?_ | refine W.ct ?_ | refine W.cf ?_ | refine W.ad ?_ | refine W.sb ?_ | refine W.ml ?_ | refine W.st ?_ | refine SL.nilB ?_ | refine SL.nil ?_ | refine W.ln ?_ | refine W.ix ?_ | refine W.lw ?_ | refine W.la ?_ | refine W.al fun b_ => ?_ | refine W.bx fun b_ => ?_ | refine W.bxa fun b_ => ?_ | refine W.sw ?_ | refine W.sa ?_ | refine W.pkt ?_ | refine W.pkf ?_ | refine W.ua ?_ | refine W.en ?_ | refine W.nn ?_ | refine W.es ?_ | refine W.ns ?_ | refine W.nt ?_ | refine W.fs ?_ | refine W.fg ?_ | refine W.bd ?_ | refine W.bda ?_ | refine W.mf ?_ | refine W.mx ?_ | refine W.mn ?_ | refine W.qu ?_ | refine W.rm ?_ | refine W.lr ?_ | refine W.lt ?_ | refine W.cp ?_ | refine W.ixa ?_ | refine W.sk ?_ | refine W.lsR (by assumption) ?_ | refine W.laR (by assumption) ?_ | refine W.eb ?_ | refine W.nb ?_ | refine W.ci ?_ | refine W.cv ?_ | refine W.s01 ?_ | refine W.s10 ?_ | refine W.s11 ?_ | refine W.s10e ?_ | refine W.sar ?_ | refine W.bs0 fun b_ => ?_ | refine W.ma fun b_ => ?_ | refine W.ex ?_ | refine W.bsl fun b_ => ?_ | refine W.mk ?_ | refine W.ett ?_ | refine W.est ?_ | refine W.nst ?_ | refine W.shl ?_ | refine W.shr ?_ | refine W.bnot ?_ | refine W.ng ?_ | refine W.ai ?_ | refine SW.seq ?_ | refine SW.region ?_ | refine SW.cond_t rfl ?_ | refine SW.cond_f rfl ?_ | refine SW.exit ?_ | refine SW.ret ?_ | refine SW.skip ?_))
  refine W.call make_p ?_
  rintro _ _ ⟨tp, rfl, rfl⟩
  (repeat' (first | refine W.mv ?_ | refine W.ls ?_ | refine W.fa ?_ | refine W.nl ?_ | refine W.as ?_ | refine W.ct ?_ | refine W.cf ?_ | refine W.ad ?_ | refine W.sb ?_ | refine W.ml ?_ | refine W.st ?_ | refine SL.nilB ?_ | refine SL.nil ?_ | refine W.ln ?_ | refine W.ix ?_ | refine W.lw ?_ | refine W.la ?_ | refine W.al fun b_ => ?_ | refine W.bx fun b_ => ?_ | refine W.bxa fun b_ => ?_ | refine W.sw ?_ | refine W.sa ?_ | refine W.pkt ?_ | refine W.pkf ?_ | refine W.ua ?_ | refine W.en ?_ | refine W.nn ?_ | refine W.es ?_ | refine W.ns ?_ | refine W.nt ?_ | refine W.fs ?_ | refine W.fg ?_ | refine W.bd ?_ | refine W.bda ?_ | refine W.mf ?_ | refine W.mx ?_ | refine W.mn ?_ | refine W.qu ?_ | refine W.rm ?_ | refine W.lr ?_ | refine W.lt ?_ | refine W.cp ?_ | refine W.ixa ?_ | refine W.sk ?_ | refine W.lsR (by assumption) ?_ | refine W.laR (by assumption) ?_ | refine W.eb ?_ | refine W.nb ?_ | refine W.ci ?_ | refine W.cv ?_ | refine W.s01 ?_ | refine W.s10 ?_ | refine W.s11 ?_ | refine W.s10e ?_ | refine W.sar ?_ | refine W.bs0 fun b_ => ?_ | refine W.ma fun b_ => ?_ | refine W.ex ?_ | refine W.bsl fun b_ => ?_ | refine W.mk ?_ | refine W.ett ?_ | refine W.est ?_ | refine W.nst ?_ | refine W.shl ?_ | refine W.shr ?_ | refine W.bnot ?_ | refine W.ng ?_ | refine W.ai ?_ | refine SW.seq ?_ | refine SW.region ?_ | refine SW.cond_t rfl ?_ | refine SW.cond_f rfl ?_ | refine SW.exit ?_ | refine SW.ret ?_ | refine SW.skip ?_))
  refine W.call (BNew_p tp) ?_
  rintro _ B0 ⟨b, rfl, hB0⟩
  (repeat' (first | refine W.mv ?_ | refine W.ls ?_ | refine W.fa ?_ | refine W.nl ?_ | refine W.as ?_ | refine W.ct ?_ | refine W.cf ?_ | refine W.ad ?_ | refine W.sb ?_ | refine W.ml ?_ | refine W.st ?_ | refine SL.nilB ?_ | refine SL.nil ?_ | refine W.ln ?_ | refine W.ix ?_ | refine W.lw ?_ | refine W.la ?_ | refine W.al fun b_ => ?_ | refine W.bx fun b_ => ?_ | refine W.bxa fun b_ => ?_ | refine W.sw ?_ | refine W.sa ?_ | refine W.pkt ?_ | refine W.pkf ?_ | refine W.ua ?_ | refine W.en ?_ | refine W.nn ?_ | refine W.es ?_ | refine W.ns ?_ | refine W.nt ?_ | refine W.fs ?_ | refine W.fg ?_ | refine W.bd ?_ | refine W.bda ?_ | refine W.mf ?_ | refine W.mx ?_ | refine W.mn ?_ | refine W.qu ?_ | refine W.rm ?_ | refine W.lr ?_ | refine W.lt ?_ | refine W.cp ?_ | refine W.ixa ?_ | refine W.sk ?_ | refine W.lsR (by assumption) ?_ | refine W.laR (by assumption) ?_ | refine W.eb ?_ | refine W.nb ?_ | refine W.ci ?_ | refine W.cv ?_ | refine W.s01 ?_ | refine W.s10 ?_ | refine W.s11 ?_ | refine W.s10e ?_ | refine W.sar ?_ | refine W.bs0 fun b_ => ?_ | refine W.ma fun b_ => ?_ | refine W.ex ?_ | refine W.bsl fun b_ => ?_ | refine W.mk ?_ | refine W.ett ?_ | refine W.est ?_ | refine W.nst ?_ | refine W.shl ?_ | refine W.shr ?_ | refine W.bnot ?_ | refine W.ng ?_ | refine W.ai ?_ | refine SW.seq ?_ | refine SW.region ?_ | refine SW.cond_t rfl ?_ | refine SW.cond_f rfl ?_ | refine SW.exit ?_ | refine SW.ret ?_ | refine SW.skip ?_))
  refine SW.cutH [] B0 (fun _ : Unit => []) (fun _ => []) (fun _ => True) ?_ ?_
  · (repeat' (first | refine W.mv ?_ | refine W.ls ?_ | refine W.fa ?_ | refine W.nl ?_ | refine W.as ?_ | refine W.ct ?_ | refine W.cf ?_ | refine W.ad ?_ | refine W.sb ?_ | refine W.ml ?_ | refine W.st ?_ | refine SL.nilB ?_ | refine SL.nil ?_ | refine W.ln ?_ | refine W.ix ?_ | refine W.lw ?_ | refine W.la ?_ | refine W.al fun b_ => ?_ | refine W.bx fun b_ => ?_ | refine W.bxa fun b_ => ?_ | refine W.sw ?_ | refine W.sa ?_ | refine W.pkt ?_ | refine W.pkf ?_ | refine W.ua ?_ | refine W.en ?_ | refine W.nn ?_ | refine W.es ?_ | refine W.ns ?_ | refine W.nt ?_ | refine W.fs ?_ | refine W.fg ?_ | refine W.bd ?_ | refine W.bda ?_ | refine W.mf ?_ | refine W.mx ?_ | refine W.mn ?_ | refine W.qu ?_ | refine W.rm ?_ | refine W.lr ?_ | refine W.lt ?_ | refine W.cp ?_ | refine W.ixa ?_ | refine W.sk ?_ | refine W.lsR (by assumption) ?_ | refine W.laR (by assumption) ?_ | refine W.eb ?_ | refine W.nb ?_ | refine W.ci ?_ | refine W.cv ?_ | refine W.s01 ?_ | refine W.s10 ?_ | refine W.s11 ?_ | refine W.s10e ?_ | refine W.sar ?_ | refine W.bs0 fun b_ => ?_ | refine W.ma fun b_ => ?_ | refine W.ex ?_ | refine W.bsl fun b_ => ?_ | refine W.mk ?_ | refine W.ett ?_ | refine W.est ?_ | refine W.nst ?_ | refine W.shl ?_ | refine W.shr ?_ | refine W.bnot ?_ | refine W.ng ?_ | refine W.ai ?_ | refine SW.seq ?_ | refine SW.region ?_ | refine SW.block ?_ | refine SW.cond_t rfl ?_ | refine SW.cond_f rfl ?_ | refine SW.exit ?_ | refine SW.ret ?_ | refine SW.skip ?_))
    refine SW.loopF [3, 9, 10] (fun x : Nat × Bk × Hp => [(11, .int .i64 (x.1 : Int))]) (fun x => x.2.2) (fun x => 12 - x.1) (fun x => x.1 ≤ 12 ∧ x.1 ≤ len ∧ BookP b tp x.2.1 x.2.2) (0, Bk.new, B0) ⟨by omega, by omega, hB0⟩ ?_
    rintro ⟨i, s, B⟩ ⟨hi, hil, hB⟩
    dsimp only at hi hil hB ⊢
    by_cases hlt : i < len
    · obtain ⟨pb, po, l, T, fz, t, rfl, hpb, ht, hcs⟩ := hw.get hlt
      have hpp := txparts_p t ht
      have hk : t.cells[0]? = some (.int .u8 (t.k.toNat : Int)) := rfl
      have hl : t.cells.length = 3 := rfl
      have hO : OC t.cells := by unfold Tx.cells; infer_instance
      have hpk : pb ∉ ([] : List Nat) := by simp
      by_cases h12 : i < 12
      · have hra := ht.1.pre 60
        have hrb := ht.2.pre 60
        obtain ⟨-, hla⟩ := hra.len1
        generalize t.x.take 60 = X at hra
        generalize t.y.take 60 = Y at hrb
        have ha6 := Nat.min_le_left 60 t.la
        have hb6 := Nat.min_le_left 60 t.lb
        generalize min 60 t.la = la at hpp hra hla ha6
        generalize min 60 t.lb = lb at hpp hrb hb6
        obtain ⟨hXl, -⟩ := hra.len1
        obtain ⟨hYl, -⟩ := hrb.len1
        have hXY : [X, Y].flatten = X ++ Y := by simp
        have hlen : (X ++ Y).length ≤ 1099511626000 := by rw [List.length_append]; omega
        obtain ⟨D, hD⟩ : ∃ D, D = Sha.sum (t.k :: (X ++ Y)) := ⟨_, rfl⟩
        have h32 : D.length = 32 := by rw [hD]; exact Sha.sum_len _
        generalize t.cells = Z at hpp hk hl hO hcs ⊢
        (repeat' (first | refine W.mv ?_ | refine W.ls ?_ | refine W.fa ?_ | refine W.nl ?_ | refine W.as ?_ | refine W.ct ?_ | refine W.cf ?_ | refine W.ad ?_ | refine W.sb ?_ | refine W.ml ?_ | refine W.st ?_ | refine SL.nilB ?_ | refine SL.nil ?_ | refine W.ln ?_ | refine W.ix ?_ | refine W.lw ?_ | refine W.la ?_ | refine W.al fun b_ => ?_ | refine W.bx fun b_ => ?_ | refine W.bxa fun b_ => ?_ | refine W.sw ?_ | refine W.sa ?_ | refine W.pkt ?_ | refine W.pkf ?_ | refine W.ua ?_ | refine W.en ?_ | refine W.nn ?_ | refine W.es ?_ | refine W.ns ?_ | refine W.nt ?_ | refine W.fs ?_ | refine W.fg ?_ | refine W.bd ?_ | refine W.bda ?_ | refine W.mf ?_ | refine W.mx ?_ | refine W.mn ?_ | refine W.qu ?_ | refine W.rm ?_ | refine W.lr ?_ | refine W.lt ?_ | refine W.cp ?_ | refine W.ixa ?_ | refine W.sk ?_ | refine W.lsR (by assumption) ?_ | refine W.laR (by assumption) ?_ | refine W.eb ?_ | refine W.nb ?_ | refine W.ci ?_ | refine W.cv ?_ | refine W.s01 ?_ | refine W.s10 ?_ | refine W.s11 ?_ | refine W.s10e ?_ | refine W.sar ?_ | refine W.bs0 fun b_ => ?_ | refine W.ma fun b_ => ?_ | refine W.ex ?_ | refine W.bsl fun b_ => ?_ | refine W.mk ?_ | refine W.ett ?_ | refine W.est ?_ | refine W.nst ?_ | refine W.shl ?_ | refine W.shr ?_ | refine W.bnot ?_ | refine W.ng ?_ | refine W.ai ?_ | refine SW.seq ?_ | refine SW.region ?_ | refine SW.block ?_ | refine SW.cond_t rfl ?_ | refine SW.cond_f rfl ?_ | refine SW.exit ?_ | refine SW.ret ?_ | refine SW.skip ?_))
        refine W.call hpp ?_
        rintro _ _ ⟨r, rfl, rfl⟩
        (repeat' (first | refine W.mv ?_ | refine W.ls ?_ | refine W.fa ?_ | refine W.nl ?_ | refine W.as ?_ | refine W.ct ?_ | refine W.cf ?_ | refine W.ad ?_ | refine W.sb ?_ | refine W.ml ?_ | refine W.st ?_ | refine SL.nilB ?_ | refine SL.nil ?_ | refine W.ln ?_ | refine W.ix ?_ | refine W.lw ?_ | refine W.la ?_ | refine W.al fun b_ => ?_ | refine W.bx fun b_ => ?_ | refine W.bxa fun b_ => ?_ | refine W.sw ?_ | refine W.sa ?_ | refine W.pkt ?_ | refine W.pkf ?_ | refine W.ua ?_ | refine W.en ?_ | refine W.nn ?_ | refine W.es ?_ | refine W.ns ?_ | refine W.nt ?_ | refine W.fs ?_ | refine W.fg ?_ | refine W.bd ?_ | refine W.bda ?_ | refine W.mf ?_ | refine W.mx ?_ | refine W.mn ?_ | refine W.qu ?_ | refine W.rm ?_ | refine W.lr ?_ | refine W.lt ?_ | refine W.cp ?_ | refine W.ixa ?_ | refine W.sk ?_ | refine W.lsR (by assumption) ?_ | refine W.laR (by assumption) ?_ | refine W.eb ?_ | refine W.nb ?_ | refine W.ci ?_ | refine W.cv ?_ | refine W.s01 ?_ | refine W.s10 ?_ | refine W.s11 ?_ | refine W.s10e ?_ | refine W.sar ?_ | refine W.bs0 fun b_ => ?_ | refine W.ma fun b_ => ?_ | refine W.ex ?_ | refine W.bsl fun b_ => ?_ | refine W.mk ?_ | refine W.ett ?_ | refine W.est ?_ | refine W.nst ?_ | refine W.shl ?_ | refine W.shr ?_ | refine W.bnot ?_ | refine W.ng ?_ | refine W.ai ?_ | refine SW.seq ?_ | refine SW.region ?_ | refine SW.block ?_ | refine SW.cond_t rfl ?_ | refine SW.cond_f rfl ?_ | refine SW.exit ?_ | refine SW.ret ?_ | refine SW.skip ?_))
        (refine SW.regionS [8, 24] ?_ (by kernel_rfl); refine SS.tw 0 rfl (p_move rfl rfl) ?_; refine SS.tw 1 rfl (p_fieldAddr rfl rfl OfN.ok) ?_; (first | refine SS.ls 2 [4, 8, 10, 24] rfl ?_ | refine SS.tw 2 rfl (p_load_sR rfl rfl (by assumption) (by assumption) (by assumption)) ?_); refine SS.tw 3 rfl (p_move rfl rfl) ?_; refine SS.tw 5 rfl (p_fieldAddr rfl rfl OfN.ok) ?_; (first | refine SS.ls 6 [8, 10, 24] rfl ?_ | refine SS.tw 6 rfl (p_load_sR rfl rfl (by assumption) (by assumption) (by assumption)) ?_); refine SS.tw 7 rfl (p_move rfl rfl) ?_; refine SS.effK 4 ?_ rfl (by kernel_rfl))
        refine W.call (BSum_p hB t.k (.slice (some ⟨r, 0, none⟩) 2 2) [X, Y] (by rw [hXY]; exact hlen) (by simp)) ?_ (hpre := fun w2 hs => ?_)
        rotate_left
        · exact RdS.at (T := 33) (fz := (0, 0)) (Hc := B) (vs := [.slice t.a la t.ca, .slice t.b lb t.cb]) (bss := [X, Y]) hs rfl (Nat.le_refl _) rfl (two_at rfl (hra.ro (Hc := B) hs) (hrb.ro (Hc := B) hs))
        rw [hXY]
        rintro _ B1 ⟨rfl, hB1⟩
        rw [← hD]
        (refine SL.nilB ?_; refine SS.effB 8 ?_ rfl (by kernel_rfl))
        refine W.call (RSum4_p t.k (.slice (some ⟨r, 0, none⟩) 2 2) [X, Y] (by rw [hXY]; exact hlen) (by simp)) ?_ (hpre := fun w2 hs => ?_)
        rotate_left
        · exact RdS.at (T := 33) (fz := (0, 0)) (Hc := []) (vs := [.slice t.a la t.ca, .slice t.b lb t.cb]) (bss := [X, Y]) hs rfl (Nat.le_refl _) rfl (two_at rfl (hra.ro (Hc := []) hs) (hrb.ro (Hc := []) hs))
        rw [hXY, ← hD]
        rintro _ _ ⟨rfl, rfl⟩
        (refine SL.nilB ?_; refine SS.tw 9 rfl (p_neA_f rfl rfl rfl h32 rfl) ?_; refine SS.tw 10 rfl (p_move rfl rfl) ?_; (first | refine SS.sk 11 rfl ?_ | refine SS.tw 11 rfl (p_move rfl rfl) ?_); (first | refine SS.sk 12 rfl ?_ | refine SS.tw 12 rfl (p_fieldAddr rfl rfl OfN.ok) ?_); (first | refine SS.sk 13 rfl ?_ | refine SS.ls 13 [20, 24] rfl ?_ | refine SS.tw 13 rfl (p_load_sR rfl rfl (by assumption) (by assumption) (by assumption)) ?_); (first | refine SS.sk 14 rfl ?_ | refine SS.tw 14 rfl (p_fieldAddr rfl rfl OfN.ok) ?_); (first | refine SS.sk 15 rfl ?_ | refine SS.ls 15 [17, 20, 24] rfl ?_ | refine SS.tw 15 rfl (p_load_sR rfl rfl (by assumption) (by assumption) (by assumption)) ?_); (first | refine SS.sk 16 rfl ?_ | refine SS.tw 16 rfl (p_move rfl rfl) ?_); (first | refine SS.sk 21 rfl ?_ | refine SS.tw 21 rfl (p_fieldAddr rfl rfl OfN.ok) ?_); (first | refine SS.sk 22 rfl ?_ | refine SS.ls 22 [24] rfl ?_ | refine SS.tw 22 rfl (p_load_sR rfl rfl (by assumption) (by assumption) (by assumption)) ?_); (first | refine SS.sk 23 rfl ?_ | refine SS.tw 23 rfl (p_move rfl rfl) ?_); (first | refine SS.sk 17 rfl ?_; (first | refine SS.sk 18 rfl ?_ | refine SS.tw 18 rfl (p_sl10 rfl rfl rfl (by omega) (by omega) (by omega)) ?_); (first | refine SS.sk 19 rfl ?_; (first | refine SS.sk 20 rfl ?_; (first | refine SS.sk 24 rfl ?_; (first | refine SS.sk 25 rfl ?_ | refine SS.tw 25 rfl (p_neS_t rfl rfl rfl (by assumption) (by assumption) (by assumption)) ?_ | refine SS.tw 25 rfl (p_neS_f rfl rfl rfl (by assumption) (by assumption) (by first | assumption | rfl)) ?_); (first | refine SS.tw 26 rfl (p_pick_t rfl rfl rfl) ?_ | refine SS.tw 26 rfl (p_pick_f rfl rfl rfl) ?_); refine SS.done ?_ (by kernel_rfl) | refine SS.effB 24 ?_ rfl (by kernel_rfl)) | refine SS.effK 20 ?_ rfl (by kernel_rfl)) | refine SS.effK 19 ?_ rfl (by kernel_rfl)) | refine SS.effK 17 ?_ rfl (by kernel_rfl)))
        refine W.call (RText_p t.k (.slice (some ⟨r, 0, none⟩) 2 2) [X, Y] (by rw [hXY]; exact hlen) (by simp)) ?_ (hpre := fun w2 hs => ?_)
        rotate_left
        · exact RdS.at (T := 33) (fz := (0, 0)) (Hc := []) (vs := [.slice t.a la t.ca, .slice t.b lb t.cb]) (bss := [X, Y]) hs rfl (Nat.le_refl _) rfl (two_at rfl (hra.ro (Hc := []) hs) (hrb.ro (Hc := []) hs))
        rw [hXY]
        intro v1 V1 hv1
        have hv11 := hv1.isOne
        obtain ⟨va, vl, vc, rfl, hvl⟩ := hv1.form
        obtain ⟨-, hvc, -⟩ := hv1.lens
        rw [cbs_len, List.length_cons, Nat.mul_one] at hvl
        have hsub : ((t.k :: (X ++ Y)).drop 1).take (vl - 1) = X ++ Y := by rw [List.drop_one, List.tail_cons, List.take_of_length_le (by omega)]
        (refine SL.nilB ?_; (first | refine SS.sk 18 rfl ?_ | refine SS.tw 18 rfl (p_s10g rfl rfl rfl (by omega) (by omega)) ?_); (first | refine SS.sk 19 rfl ?_; (first | refine SS.sk 20 rfl ?_; (first | refine SS.sk 24 rfl ?_; (first | refine SS.sk 25 rfl ?_ | refine SS.tw 25 rfl (p_neS_t rfl rfl rfl (by assumption) (by assumption) (by assumption)) ?_ | refine SS.tw 25 rfl (p_neS_f rfl rfl rfl (by assumption) (by assumption) (by first | assumption | rfl)) ?_); (first | refine SS.tw 26 rfl (p_pick_t rfl rfl rfl) ?_ | refine SS.tw 26 rfl (p_pick_f rfl rfl rfl) ?_); refine SS.done ?_ (by kernel_rfl) | refine SS.effB 24 ?_ rfl (by kernel_rfl)) | refine SS.effK 20 ?_ rfl (by kernel_rfl)) | refine SS.effK 19 ?_ rfl (by kernel_rfl)))
        refine W.bsl (rv := [.slice (sadr va vc 1 1) (vl - 1) (vc - 1)]) (fun b6 => ?_) (hr := rfl)
        (refine SL.nilB ?_; (first | refine SS.sk 20 rfl ?_; (first | refine SS.sk 24 rfl ?_; (first | refine SS.sk 25 rfl ?_ | refine SS.tw 25 rfl (p_neS_t rfl rfl rfl (by assumption) (by assumption) (by assumption)) ?_ | refine SS.tw 25 rfl (p_neS_f rfl rfl rfl (by assumption) (by assumption) (by first | assumption | rfl)) ?_); (first | refine SS.tw 26 rfl (p_pick_t rfl rfl rfl) ?_ | refine SS.tw 26 rfl (p_pick_f rfl rfl rfl) ?_); refine SS.done ?_ (by kernel_rfl) | refine SS.effB 24 ?_ rfl (by kernel_rfl)) | refine SS.effK 20 ?_ rfl (by kernel_rfl)))
        have hone : [X ++ Y].flatten = X ++ Y := by simp
        refine W.call (BSum_p hB1 t.k (.slice (some ⟨b6, 0, none⟩) 1 1) [X ++ Y] (by rw [hone]; exact hlen) (by simp)) ?_ (hpre := fun w2 hs => ?_)
        rotate_left
        · have hrs := (Rd.own (Hc := B1) hv1 hs inferInstance).subG 1 vl (by omega) (Nat.le_refl _)
          rw [hsub] at hrs
          exact RdS.at (T := 33) (fz := (0, 0)) (Hc := B1) (vs := [.slice (sadr va vc 1 1) (vl - 1) (vc - 1)]) (bss := [X ++ Y]) hs rfl (Nat.le_refl _) rfl (one_at rfl hrs)
        rw [hone, ← hD]
        rintro _ B2 ⟨rfl, hB2⟩
        (refine SL.nilB ?_; (first | refine SS.sk 24 rfl ?_; (first | refine SS.sk 25 rfl ?_ | refine SS.tw 25 rfl (p_neS_t rfl rfl rfl (by assumption) (by assumption) (by assumption)) ?_ | refine SS.tw 25 rfl (p_neS_f rfl rfl rfl (by assumption) (by assumption) (by first | assumption | rfl)) ?_); (first | refine SS.tw 26 rfl (p_pick_t rfl rfl rfl) ?_ | refine SS.tw 26 rfl (p_pick_f rfl rfl rfl) ?_); refine SS.done ?_ (by kernel_rfl) | refine SS.effB 24 ?_ rfl (by kernel_rfl)))
        refine W.call (RSum4_p t.k (.slice (some ⟨r, 0, none⟩) 2 2) [X, Y] (by rw [hXY]; exact hlen) (by simp)) ?_ (hpre := fun w2 hs => ?_)
        rotate_left
        · exact RdS.at (T := 33) (fz := (0, 0)) (Hc := []) (vs := [.slice t.a la t.ca, .slice t.b lb t.cb]) (bss := [X, Y]) hs rfl (Nat.le_refl _) rfl (two_at rfl (hra.ro (Hc := []) hs) (hrb.ro (Hc := []) hs))
        rw [hXY, ← hD]
        rintro _ _ ⟨rfl, rfl⟩
        (refine SL.nilB ?_; (first | refine SS.sk 25 rfl ?_ | refine SS.tw 25 rfl (p_neA_f rfl rfl rfl h32 rfl) ?_); (first | refine SS.tw 26 rfl (p_pick_t rfl rfl rfl) ?_ | refine SS.tw 26 rfl (p_pick_f rfl rfl rfl) ?_); refine SS.done ?_ (by kernel_rfl))
        (repeat' (first | refine W.mv ?_ | refine W.ls ?_ | refine W.fa ?_ | refine W.nl ?_ | refine W.as ?_ | refine W.ct ?_ | refine W.cf ?_ | refine W.ad ?_ | refine W.sb ?_ | refine W.ml ?_ | refine W.st ?_ | refine SL.nilB ?_ | refine SL.nil ?_ | refine W.ln ?_ | refine W.ix ?_ | refine W.lw ?_ | refine W.la ?_ | refine W.al fun b_ => ?_ | refine W.bx fun b_ => ?_ | refine W.bxa fun b_ => ?_ | refine W.sw ?_ | refine W.sa ?_ | refine W.pkt ?_ | refine W.pkf ?_ | refine W.ua ?_ | refine W.en ?_ | refine W.nn ?_ | refine W.es ?_ | refine W.ns ?_ | refine W.nt ?_ | refine W.fs ?_ | refine W.fg ?_ | refine W.bd ?_ | refine W.bda ?_ | refine W.mf ?_ | refine W.mx ?_ | refine W.mn ?_ | refine W.qu ?_ | refine W.rm ?_ | refine W.lr ?_ | refine W.lt ?_ | refine W.cp ?_ | refine W.ixa ?_ | refine W.sk ?_ | refine W.lsR (by assumption) ?_ | refine W.laR (by assumption) ?_ | refine W.eb ?_ | refine W.nb ?_ | refine W.ci ?_ | refine W.cv ?_ | refine W.s01 ?_ | refine W.s10 ?_ | refine W.s11 ?_ | refine W.s10e ?_ | refine W.sar ?_ | refine W.bs0 fun b_ => ?_ | refine W.ma fun b_ => ?_ | refine W.ex ?_ | refine W.bsl fun b_ => ?_ | refine W.mk ?_ | refine W.ett ?_ | refine W.est ?_ | refine W.nst ?_ | refine W.shl ?_ | refine W.shr ?_ | refine W.bnot ?_ | refine W.ng ?_ | refine W.ai ?_ | refine SW.seq ?_ | refine SW.region ?_ | refine SW.block ?_ | refine SW.cond_t rfl ?_ | refine SW.cond_f rfl ?_ | refine SW.exit ?_ | refine SW.ret ?_ | refine SW.skip ?_))
        refine HandF.mk (i + 1, (s.add (t.k :: (X ++ Y))).add (t.k :: (X ++ Y)), B2) ?_
        exact ⟨by omega, by omega, hB2⟩
      · generalize t.cells = Z at hpp hk hl hO hcs ⊢
        (repeat' (first | refine W.mv ?_ | refine W.ls ?_ | refine W.fa ?_ | refine W.nl ?_ | refine W.as ?_ | refine W.ct ?_ | refine W.cf ?_ | refine W.ad ?_ | refine W.sb ?_ | refine W.ml ?_ | refine W.st ?_ | refine SL.nilB ?_ | refine SL.nil ?_ | refine W.ln ?_ | refine W.ix ?_ | refine W.lw ?_ | refine W.la ?_ | refine W.al fun b_ => ?_ | refine W.bx fun b_ => ?_ | refine W.bxa fun b_ => ?_ | refine W.sw ?_ | refine W.sa ?_ | refine W.pkt ?_ | refine W.pkf ?_ | refine W.ua ?_ | refine W.en ?_ | refine W.nn ?_ | refine W.es ?_ | refine W.ns ?_ | refine W.nt ?_ | refine W.fs ?_ | refine W.fg ?_ | refine W.bd ?_ | refine W.bda ?_ | refine W.mf ?_ | refine W.mx ?_ | refine W.mn ?_ | refine W.qu ?_ | refine W.rm ?_ | refine W.lr ?_ | refine W.lt ?_ | refine W.cp ?_ | refine W.ixa ?_ | refine W.sk ?_ | refine W.lsR (by assumption) ?_ | refine W.laR (by assumption) ?_ | refine W.eb ?_ | refine W.nb ?_ | refine W.ci ?_ | refine W.cv ?_ | refine W.s01 ?_ | refine W.s10 ?_ | refine W.s11 ?_ | refine W.s10e ?_ | refine W.sar ?_ | refine W.bs0 fun b_ => ?_ | refine W.ma fun b_ => ?_ | refine W.ex ?_ | refine W.bsl fun b_ => ?_ | refine W.mk ?_ | refine W.ett ?_ | refine W.est ?_ | refine W.nst ?_ | refine W.shl ?_ | refine W.shr ?_ | refine W.bnot ?_ | refine W.ng ?_ | refine W.ai ?_ | refine SW.seq ?_ | refine SW.region ?_ | refine SW.block ?_ | refine SW.cond_t rfl ?_ | refine SW.cond_f rfl ?_ | refine SW.exit ?_ | refine SW.ret ?_ | refine SW.skip ?_))
        refine CutF.mk () ?_
        trivial
    · have : i = len := by omega
      subst this
      (repeat' (first | refine W.mv ?_ | refine W.ls ?_ | refine W.fa ?_ | refine W.nl ?_ | refine W.as ?_ | refine W.ct ?_ | refine W.cf ?_ | refine W.ad ?_ | refine W.sb ?_ | refine W.ml ?_ | refine W.st ?_ | refine SL.nilB ?_ | refine SL.nil ?_ | refine W.ln ?_ | refine W.ix ?_ | refine W.lw ?_ | refine W.la ?_ | refine W.al fun b_ => ?_ | refine W.bx fun b_ => ?_ | refine W.bxa fun b_ => ?_ | refine W.sw ?_ | refine W.sa ?_ | refine W.pkt ?_ | refine W.pkf ?_ | refine W.ua ?_ | refine W.en ?_ | refine W.nn ?_ | refine W.es ?_ | refine W.ns ?_ | refine W.nt ?_ | refine W.fs ?_ | refine W.fg ?_ | refine W.bd ?_ | refine W.bda ?_ | refine W.mf ?_ | refine W.mx ?_ | refine W.mn ?_ | refine W.qu ?_ | refine W.rm ?_ | refine W.lr ?_ | refine W.lt ?_ | refine W.cp ?_ | refine W.ixa ?_ | refine W.sk ?_ | refine W.lsR (by assumption) ?_ | refine W.laR (by assumption) ?_ | refine W.eb ?_ | refine W.nb ?_ | refine W.ci ?_ | refine W.cv ?_ | refine W.s01 ?_ | refine W.s10 ?_ | refine W.s11 ?_ | refine W.s10e ?_ | refine W.sar ?_ | refine W.bs0 fun b_ => ?_ | refine W.ma fun b_ => ?_ | refine W.ex ?_ | refine W.bsl fun b_ => ?_ | refine W.mk ?_ | refine W.ett ?_ | refine W.est ?_ | refine W.nst ?_ | refine W.shl ?_ | refine W.shr ?_ | refine W.bnot ?_ | refine W.ng ?_ | refine W.ai ?_ | refine SW.seq ?_ | refine SW.region ?_ | refine SW.block ?_ | refine SW.cond_t rfl ?_ | refine SW.cond_f rfl ?_ | refine SW.exit ?_ | refine SW.ret ?_ | refine SW.skip ?_))
      refine CutF.mk () ?_
      trivial
  rintro _ -
  (repeat' (first | refine W.mv ?_ | refine W.ls ?_ | refine W.fa ?_ | refine W.nl ?_ | refine W.as ?_ | refine W.ct ?_ | refine W.cf ?_ | refine W.ad ?_ | refine W.sb ?_ | refine W.ml ?_ | refine W.st ?_ | refine SL.nilB ?_ | refine SL.nil ?_ | refine W.ln ?_ | refine W.ix ?_ | refine W.lw ?_ | refine W.la ?_ | refine W.al fun b_ => ?_ | refine W.bx fun b_ => ?_ | refine W.bxa fun b_ => ?_ | refine W.sw ?_ | refine W.sa ?_ | refine W.pkt ?_ | refine W.pkf ?_ | refine W.ua ?_ | refine W.en ?_ | refine W.nn ?_ | refine W.es ?_ | refine W.ns ?_ | refine W.nt ?_ | refine W.fs ?_ | refine W.fg ?_ | refine W.bd ?_ | refine W.bda ?_ | refine W.mf ?_ | refine W.mx ?_ | refine W.mn ?_ | refine W.qu ?_ | refine W.rm ?_ | refine W.lr ?_ | refine W.lt ?_ | refine W.cp ?_ | refine W.ixa ?_ | refine W.sk ?_ | refine W.lsR (by assumption) ?_ | refine W.laR (by assumption) ?_ | refine W.eb ?_ | refine W.nb ?_ | refine W.ci ?_ | refine W.cv ?_ | refine W.s01 ?_ | refine W.s10 ?_ | refine W.s11 ?_ | refine W.s10e ?_ | refine W.sar ?_ | refine W.bs0 fun b_ => ?_ | refine W.ma fun b_ => ?_ | refine W.ex ?_ | refine W.bsl fun b_ => ?_ | refine W.mk ?_ | refine W.ett ?_ | refine W.est ?_ | refine W.nst ?_ | refine W.shl ?_ | refine W.shr ?_ | refine W.bnot ?_ | refine W.ng ?_ | refine W.ai ?_ | refine SW.seq ?_ | refine SW.region ?_ | refine SW.block ?_ | refine SW.cond_t rfl ?_ | refine SW.cond_f rfl ?_ | refine SW.exit ?_ | refine SW.ret ?_ | refine SW.skip ?_))
  refine W.call awake4_p ?_
  rintro _ _ ⟨rfl, rfl⟩
  (repeat' (first | refine W.mv ?_ | refine W.ls ?_ | refine W.fa ?_ | refine W.nl ?_ | refine W.as ?_ | refine W.ct ?_ | refine W.cf ?_ | refine W.ad ?_ | refine W.sb ?_ | refine W.ml ?_ | refine W.st ?_ | refine SL.nilB ?_ | refine SL.nil ?_ | refine W.ln ?_ | refine W.ix ?_ | refine W.lw ?_ | refine W.la ?_ | refine W.al fun b_ => ?_ | refine W.bx fun b_ => ?_ | refine W.bxa fun b_ => ?_ | refine W.sw ?_ | refine W.sa ?_ | refine W.pkt ?_ | refine W.pkf ?_ | refine W.ua ?_ | refine W.en ?_ | refine W.nn ?_ | refine W.es ?_ | refine W.ns ?_ | refine W.nt ?_ | refine W.fs ?_ | refine W.fg ?_ | refine W.bd ?_ | refine W.bda ?_ | refine W.mf ?_ | refine W.mx ?_ | refine W.mn ?_ | refine W.qu ?_ | refine W.rm ?_ | refine W.lr ?_ | refine W.lt ?_ | refine W.cp ?_ | refine W.ixa ?_ | refine W.sk ?_ | refine W.lsR (by assumption) ?_ | refine W.laR (by assumption) ?_ | refine W.eb ?_ | refine W.nb ?_ | refine W.ci ?_ | refine W.cv ?_ | refine W.s01 ?_ | refine W.s10 ?_ | refine W.s11 ?_ | refine W.s10e ?_ | refine W.sar ?_ | refine W.bs0 fun b_ => ?_ | refine W.ma fun b_ => ?_ | refine W.ex ?_ | refine W.bsl fun b_ => ?_ | refine W.mk ?_ | refine W.ett ?_ | refine W.est ?_ | refine W.nst ?_ | refine W.shl ?_ | refine W.shr ?_ | refine W.bnot ?_ | refine W.ng ?_ | refine W.ai ?_ | refine SW.seq ?_ | refine SW.region ?_ | refine SW.block ?_ | refine SW.cond_t rfl ?_ | refine SW.cond_f rfl ?_ | refine SW.exit ?_ | refine SW.ret ?_ | refine SW.skip ?_))
  refine Fin.to [] ?_
  exact F.f1 rfl
end Go.Proofs.Ytpdokachnmlhlaa
