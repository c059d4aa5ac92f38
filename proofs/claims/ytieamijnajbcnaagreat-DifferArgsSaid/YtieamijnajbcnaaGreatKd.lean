/- Trees and bases that may not be compared are refused. -/
import Derived.Test.YtieamijnajbcnaaGreatKc
import Derived.Test.YtieamijnajbcnaaGreatX5
set_option linter.unusedVariables false
set_option linter.unusedSimpArgs false
namespace Go.Proofs.YtieamijnajbcnaaGreat
open Go
attribute [local irreducible] SW SL SQ SH SA SS Pu Fin CutF HandF

def geQ (l : List Value) : Prop := (∃ n, (l.drop 0).take 1 = [.int .i64 n]) ∧ (∃ n, (l.drop (0 + 1)).take 1 = [.int .i64 n]) ∧ l.length = 2
instance geEq : EqS Tryz.prog 39 geQ where
  under := by kernel_rfl
  held := by kernel_rfl
  guard := by kernel_rfl
  cov := by
    refine ⟨_, 1, 2, Tryz.underlying39, by decide, ?_⟩
    unfold geQ
    refine Cov.cons (n := 1) (D' := 1) (agg := false) (p := fun l => ∃ n, l = [.int .i64 n]) ?_ rfl ?_ ?_ ?_
    · decide
    · exact EqOk.int (t := 3) Tryz.underlying3
    · decide
    refine Cov.cons (n := 1) (D' := 1) (agg := false) (p := fun l => ∃ n, l = [.int .i64 n]) ?_ rfl ?_ ?_ ?_
    · decide
    · exact EqOk.int (t := 3) Tryz.underlying3
    · decide
    exact Cov.nil 2
theorem geQ_of (p t : Nat) : geQ (geoL p t) := ⟨⟨_, rfl⟩, ⟨_, rfl⟩, rfl⟩
theorem Trees_bad {ta tb b b' : Nat} {l m : List (List UInt8)} {Ha Hm : Hp} (hTa : TreeV ta b l Ha) (hTb : TreeV tb b' m Hm) (hlm : l.length ≠ m.length) :
    Tri Tryz.prog 6 [.pointer (some ⟨ta, 0, none⟩), .pointer (some ⟨tb, 0, none⟩)] (Ha ++ Hm) (fun _ => True) (fun r H' => r = .tuple #[.slice none 0 0, .int .i64 0, .int .i64 1] ∧ H' = []) := by
  refine Tri.mk Tryz.func6 rfl Tryz.ntmps6 rfl fun w hw => ?_
  have hLa := Len_p hTa
  have hLb := Len_p hTb
  have hne : ¬ ((l.length : Nat) : Int) = ((m.length : Nat) : Int) := by omega
  (repeat' (first | refine W.mv ?_ | refine W.zl ?_ | refine W.fa ?_ | refine W.nl ?_ | refine W.as ?_ | refine W.zb ?_ | refine W.za ?_ | refine W.zi ?_ | refine W.zc ?_ | refine W.zp ?_ | refine W.st ?_ | refine SL.nilB ?_ | refine SL.nil ?_ | refine W.al fun b_ => ?_ | refine W.bx fun b_ => ?_ | refine W.bxa fun b_ => ?_ | refine W.sw ?_ | refine W.sa ?_ | refine W.sk ?_ | refine W.bs0 fun b_ => ?_ | refine W.ma fun b_ => ?_ | refine W.bsl fun b_ => ?_ | refine W.zu ?_ | refine W.zf ?_ | refine W.zd ?_ | refine W.zs ?_ | refine W.zv ?_ | refine W.zx ?_ | refine W.ex ?_ | refine W.mf ?_ | refine W.mk ?_ | refine SW.seq ?_ | refine SW.region ?_ | refine SW.block ?_ | refine SW.cond_t rfl ?_ | refine SW.cond_f rfl ?_ | refine SW.exit ?_ | refine SW.ret ?_ | refine SW.skip ?_))
  refine W.call hLa ?_
  rintro _ Hx ⟨rfl, rfl⟩
  (repeat' (first | refine W.mv ?_ | refine W.zl ?_ | refine W.fa ?_ | refine W.nl ?_ | refine W.as ?_ | refine W.zb ?_ | refine W.za ?_ | refine W.zi ?_ | refine W.zc ?_ | refine W.zp ?_ | refine W.st ?_ | refine SL.nilB ?_ | refine SL.nil ?_ | refine W.al fun b_ => ?_ | refine W.bx fun b_ => ?_ | refine W.bxa fun b_ => ?_ | refine W.sw ?_ | refine W.sa ?_ | refine W.sk ?_ | refine W.bs0 fun b_ => ?_ | refine W.ma fun b_ => ?_ | refine W.bsl fun b_ => ?_ | refine W.zu ?_ | refine W.zf ?_ | refine W.zd ?_ | refine W.zs ?_ | refine W.zv ?_ | refine W.zx ?_ | refine W.ex ?_ | refine W.mf ?_ | refine W.mk ?_ | refine SW.seq ?_ | refine SW.region ?_ | refine SW.block ?_ | refine SW.cond_t rfl ?_ | refine SW.cond_f rfl ?_ | refine SW.exit ?_ | refine SW.ret ?_ | refine SW.skip ?_))
  refine W.call hLb ?_
  rintro _ Hy ⟨rfl, rfl⟩
  (repeat' (first | refine W.mv ?_ | refine W.zl ?_ | refine W.fa ?_ | refine W.nl ?_ | refine W.as ?_ | refine W.zb ?_ | refine W.za ?_ | refine W.zi ?_ | refine W.zc ?_ | refine W.zp ?_ | refine W.st ?_ | refine SL.nilB ?_ | refine SL.nil ?_ | refine W.al fun b_ => ?_ | refine W.bx fun b_ => ?_ | refine W.bxa fun b_ => ?_ | refine W.sw ?_ | refine W.sa ?_ | refine W.sk ?_ | refine W.bs0 fun b_ => ?_ | refine W.ma fun b_ => ?_ | refine W.bsl fun b_ => ?_ | refine W.zu ?_ | refine W.zf ?_ | refine W.zd ?_ | refine W.zs ?_ | refine W.zv ?_ | refine W.zx ?_ | refine W.ex ?_ | refine W.mf ?_ | refine W.mk ?_ | refine SW.seq ?_ | refine SW.region ?_ | refine SW.block ?_ | refine SW.cond_t rfl ?_ | refine SW.cond_f rfl ?_ | refine SW.exit ?_ | refine SW.ret ?_ | refine SW.skip ?_))
  refine Fin.to [] ?_
  exact F.f3 ⟨rfl, rfl⟩
theorem Bring_geo {d tr s bk tb p t : Nat} (h : Gm.Ok p t) {σ : Dv} {Hd Hb : Hp} {β : Bk} (hD : DevP d σ Hd) (hB : BookP bk tb β Hb) (hdn : σ.down = false) (hlen : σ.len = ((256 * Gm.total p t : Nat) : Int))
    {d' tr' s' bk' tb' p' t' : Nat} (h' : Gm.Ok p' t') {σ' : Dv} {Hd' Hb' : Hp} {β' : Bk} (hD' : DevP d' σ' Hd') (hB' : BookP bk' tb' β' Hb') (hdn' : σ'.down = false) (hlen' : σ'.len = ((256 * Gm.total p' t' : Nat) : Int)) (hne : p ≠ p') :
    Tri Tryz.prog 9 [baseV d tr s bk p t, baseV d' tr' s' bk' p' t'] ((Hd ++ Hb) ++ (Hd' ++ Hb')) (fun _ => True) (fun v H => v = .tuple #[.slice none 0 0, .int .i64 1] ∧ H = []) := by
  refine Tri.mk Tryz.func9 rfl Tryz.ntmps9 rfl fun w hw => ?_
  have hgne : geoL p t ≠ geoL p' t' := fun e => by
    injection e with e1 e2
    injection e1 with e3 e4
    omega
  (repeat' (first | refine W.mv ?_ | refine W.zl ?_ | refine W.fa ?_ | refine W.nl ?_ | refine W.as ?_ | refine W.zb ?_ | refine W.za ?_ | refine W.zi ?_ | refine W.zc ?_ | refine W.zp ?_ | refine W.st ?_ | refine SL.nilB ?_ | refine SL.nil ?_ | refine W.al fun b_ => ?_ | refine W.bx fun b_ => ?_ | refine W.bxa fun b_ => ?_ | refine W.sw ?_ | refine W.sa ?_ | refine W.sk ?_ | refine W.bs0 fun b_ => ?_ | refine W.ma fun b_ => ?_ | refine W.bsl fun b_ => ?_ | refine W.zu ?_ | refine W.zf ?_ | refine W.zd ?_ | refine W.zs ?_ | refine W.zv ?_ | refine W.zx ?_ | refine W.ex ?_ | refine W.mf ?_ | refine W.mk ?_ | refine SW.seq ?_ | refine SW.region ?_ | refine SW.block ?_ | refine SW.cond_t rfl ?_ | refine SW.cond_f rfl ?_ | refine SW.exit ?_ | refine SW.ret ?_ | refine SW.skip ?_))
  refine W.call (Plant_p h hD hB hdn hlen) ?_
  rintro _ _ ⟨tp, Ht, Hb2, rfl, rfl, hT, hB2⟩
  (repeat' (first | refine W.mv ?_ | refine W.zl ?_ | refine W.fa ?_ | refine W.nl ?_ | refine W.as ?_ | refine W.zb ?_ | refine W.za ?_ | refine W.zi ?_ | refine W.zc ?_ | refine W.zp ?_ | refine W.st ?_ | refine SL.nilB ?_ | refine SL.nil ?_ | refine W.al fun b_ => ?_ | refine W.bx fun b_ => ?_ | refine W.bxa fun b_ => ?_ | refine W.sw ?_ | refine W.sa ?_ | refine W.sk ?_ | refine W.bs0 fun b_ => ?_ | refine W.ma fun b_ => ?_ | refine W.bsl fun b_ => ?_ | refine W.zu ?_ | refine W.zf ?_ | refine W.zd ?_ | refine W.zs ?_ | refine W.zv ?_ | refine W.zx ?_ | refine W.ex ?_ | refine W.mf ?_ | refine W.mk ?_ | refine SW.seq ?_ | refine SW.region ?_ | refine SW.block ?_ | refine SW.cond_t rfl ?_ | refine SW.cond_f rfl ?_ | refine SW.exit ?_ | refine SW.ret ?_ | refine SW.skip ?_))
  refine W.call (Plant_p h' hD' hB' hdn' hlen') ?_
  rintro _ _ ⟨tp', Ht', Hb2', rfl, rfl, hT', hB2'⟩
  (repeat' (first | refine W.mv ?_ | refine W.zl ?_ | refine W.fa ?_ | refine W.nl ?_ | refine W.as ?_ | refine W.zb ?_ | refine W.za ?_ | refine W.zi ?_ | refine W.zc ?_ | refine W.zp ?_ | refine W.st ?_ | refine SL.nilB ?_ | refine SL.nil ?_ | refine W.al fun b_ => ?_ | refine W.bx fun b_ => ?_ | refine W.bxa fun b_ => ?_ | refine W.sw ?_ | refine W.sa ?_ | refine W.sk ?_ | refine W.bs0 fun b_ => ?_ | refine W.ma fun b_ => ?_ | refine W.bsl fun b_ => ?_ | refine W.zu ?_ | refine W.zf ?_ | refine W.zd ?_ | refine W.zs ?_ | refine W.zv ?_ | refine W.zx ?_ | refine W.ex ?_ | refine W.mf ?_ | refine W.mk ?_ | refine SW.seq ?_ | refine SW.region ?_ | refine SW.block ?_ | refine SW.cond_t rfl ?_ | refine SW.cond_f rfl ?_ | refine SW.exit ?_ | refine SW.ret ?_ | refine SW.skip ?_))
  refine SL.pu (p_neS_t (q := geQ) (l := geoL p t) (l' := geoL p' t') rfl rfl rfl (geQ_of p t) (geQ_of p' t') hgne) rfl rfl ?_
  (repeat' (first | refine W.mv ?_ | refine W.zl ?_ | refine W.fa ?_ | refine W.nl ?_ | refine W.as ?_ | refine W.zb ?_ | refine W.za ?_ | refine W.zi ?_ | refine W.zc ?_ | refine W.zp ?_ | refine W.st ?_ | refine SL.nilB ?_ | refine SL.nil ?_ | refine W.al fun b_ => ?_ | refine W.bx fun b_ => ?_ | refine W.bxa fun b_ => ?_ | refine W.sw ?_ | refine W.sa ?_ | refine W.sk ?_ | refine W.bs0 fun b_ => ?_ | refine W.ma fun b_ => ?_ | refine W.bsl fun b_ => ?_ | refine W.zu ?_ | refine W.zf ?_ | refine W.zd ?_ | refine W.zs ?_ | refine W.zv ?_ | refine W.zx ?_ | refine W.ex ?_ | refine W.mf ?_ | refine W.mk ?_ | refine SW.seq ?_ | refine SW.region ?_ | refine SW.block ?_ | refine SW.cond_t rfl ?_ | refine SW.cond_f rfl ?_ | refine SW.exit ?_ | refine SW.ret ?_ | refine SW.skip ?_))
  refine Fin.to [] ?_
  exact F.f2 ⟨rfl, rfl⟩
theorem Dv.new_len {n : Nat} (h : n ≤ 1024) : ((Dv.new (n : Int)).len : Int) = ((64 * n : Nat) : Int) := by
  have : (Dv.new (n : Int)).ws.length = 8 * n := by simp [Dv.new]; omega
  unfold Dv.len
  rw [this]
  omega
set_option maxHeartbeats 1000000 in
theorem differArgs_law (l : List (List UInt8)) (hl : D32 l) (v : Value) : Tri Tryz.prog 3 [v] [] (fun w => Rd [] w 32 v (cbs l.flatten)) (fun r H => r = .bool true) := by
  refine Tri.mk Tryz.func3 rfl Tryz.ntmps3 rfl fun w hw => ?_
  obtain ⟨a, cap, rfl, -, -⟩ := hw.row hl
  have hfew := few34_q l hl a cap
  obtain ⟨hL, hL20, hw2⟩ := hw.few hl
  generalize l.take 20 = L at hfew hL hL20 hw2
  have hbz : bfill (fun i => some (i * 1, 1)) (List.replicate 32 (.int .u8 0)) [] = some (cbs z32) := rfl
  have hbs : bfill (fun i => some (i * 32, 32)) (zs (List.replicate 32 (.int .u8 0)) 1) [(0, dgV z32)] = some (cbs z32) := b1d rfl
  have hz1 : (cbs z32).length = 1 * 32 := rfl
  have hzf : cbs [z32].flatten = cbs z32 := by rw [List.flatten_cons, List.flatten_nil, List.append_nil]
  have h1z : D32 [z32] := fun x hx => by rw [List.mem_singleton.1 hx]; rfl
  have hMz : D32 (z32 :: L) := fun x hx => by
    rcases List.mem_cons.1 hx with rfl | hx
    · rfl
    · exact hL x hx
  have hNz : D32 (z32 :: z32 :: L) := fun x hx => by
    rcases List.mem_cons.1 hx with rfl | hx
    · rfl
    · exact hMz x hx
  have hfl : (cbs L.flatten).length = L.length * 32 := by rw [cbs_len, flatN_len hL]
  (repeat' (first | refine W.mv ?_ | refine W.zl ?_ | refine W.fa ?_ | refine W.nl ?_ | refine W.as ?_ | refine W.zb ?_ | refine W.za ?_ | refine W.zi ?_ | refine W.zc ?_ | refine W.zp ?_ | refine W.st ?_ | refine SL.nilB ?_ | refine SL.nil ?_ | refine W.al fun b_ => ?_ | refine W.bx fun b_ => ?_ | refine W.bxa fun b_ => ?_ | refine W.sw ?_ | refine W.sa ?_ | refine W.sk ?_ | refine W.bs0 fun b_ => ?_ | refine W.ma fun b_ => ?_ | refine W.bsl fun b_ => ?_ | refine W.zu ?_ | refine W.zf ?_ | refine W.zd ?_ | refine W.zs ?_ | refine W.zv ?_ | refine W.zx ?_ | refine W.ex ?_ | refine W.mf ?_ | refine W.mk ?_ | refine SW.seq ?_ | refine SW.region ?_ | refine SW.block ?_ | refine SW.cond_t rfl ?_ | refine SW.cond_f rfl ?_ | refine SW.exit ?_ | refine SW.ret ?_ | refine SW.skip ?_))
  refine W.call hfew ?_ rfl (fun w2 hs => hw.ro (Hc := []) hs)
  rintro _ _ ⟨rfl, rfl⟩
  (repeat' (first | refine W.mv ?_ | refine W.zl ?_ | refine W.fa ?_ | refine W.nl ?_ | refine W.as ?_ | refine W.zb ?_ | refine W.za ?_ | refine W.zi ?_ | refine W.zc ?_ | refine W.zp ?_ | refine W.st ?_ | refine SL.nilB ?_ | refine SL.nil ?_ | refine W.al fun b_ => ?_ | refine W.bx fun b_ => ?_ | refine W.bxa fun b_ => ?_ | refine W.sw ?_ | refine W.sa ?_ | refine W.sk ?_ | refine W.bs0 fun b_ => ?_ | refine W.ma fun b_ => ?_ | refine W.bsl fun b_ => ?_ | refine W.zu ?_ | refine W.zf ?_ | refine W.zd ?_ | refine W.zs ?_ | refine W.zv ?_ | refine W.zx ?_ | refine W.ex ?_ | refine W.mf ?_ | refine W.mk ?_ | refine SW.seq ?_ | refine SW.region ?_ | refine SW.block ?_ | refine SW.cond_t rfl ?_ | refine SW.cond_f rfl ?_ | refine SW.exit ?_ | refine SW.ret ?_ | refine SW.skip ?_))
  refine W.call Book_p ?_
  rintro _ B0 ⟨b, tp, rfl, hB⟩
  generalize z32 = Z at *
  have o1 := fun bx => Sl.own 32 32 bx (len := 1) (xs := cbs Z) hz1
  (repeat' (first | refine W.mv ?_ | refine W.zl ?_ | refine W.fa ?_ | refine W.nl ?_ | refine W.as ?_ | refine W.zb ?_ | refine W.za ?_ | refine W.zi ?_ | refine W.zc ?_ | refine W.zp ?_ | refine W.st ?_ | refine SL.nilB ?_ | refine SL.nil ?_ | refine W.al fun b_ => ?_ | refine W.bx fun b_ => ?_ | refine W.bxa fun b_ => ?_ | refine W.sw ?_ | refine W.sa ?_ | refine W.sk ?_ | refine W.bs0 fun b_ => ?_ | refine W.ma fun b_ => ?_ | refine W.bsl fun b_ => ?_ | refine W.zu ?_ | refine W.zf ?_ | refine W.zd ?_ | refine W.zs ?_ | refine W.zv ?_ | refine W.zx ?_ | refine W.ex ?_ | refine W.mf ?_ | refine W.mk ?_ | refine SW.seq ?_ | refine SW.region ?_ | refine SW.block ?_ | refine SW.cond_t rfl ?_ | refine SW.cond_f rfl ?_ | refine SW.exit ?_ | refine SW.ret ?_ | refine SW.skip ?_))
  refine W.call (planted_p hB [Z] h1z (by simp) (by simp) _) ?_ rfl (fun w2 hs => by rw [hzf]; exact Rd.own (Hc := B0) (o1 b_) hs inferInstance)
  rintro _ _ ⟨t1, T1, B1, rfl, rfl, -, hB1⟩
  (repeat' (first | refine W.mv ?_ | refine W.zl ?_ | refine W.fa ?_ | refine W.nl ?_ | refine W.as ?_ | refine W.zb ?_ | refine W.za ?_ | refine W.zi ?_ | refine W.zc ?_ | refine W.zp ?_ | refine W.st ?_ | refine SL.nilB ?_ | refine SL.nil ?_ | refine W.al fun b_ => ?_ | refine W.bx fun b_ => ?_ | refine W.bxa fun b_ => ?_ | refine W.sw ?_ | refine W.sa ?_ | refine W.sk ?_ | refine W.bs0 fun b_ => ?_ | refine W.ma fun b_ => ?_ | refine W.bsl fun b_ => ?_ | refine W.zu ?_ | refine W.zf ?_ | refine W.zd ?_ | refine W.zs ?_ | refine W.zv ?_ | refine W.zx ?_ | refine W.ex ?_ | refine W.mf ?_ | refine W.mk ?_ | refine SW.seq ?_ | refine SW.region ?_ | refine SW.block ?_ | refine SW.cond_t rfl ?_ | refine SW.cond_f rfl ?_ | refine SW.exit ?_ | refine SW.ret ?_ | refine SW.skip ?_))
  refine W.call (Trees_nil _) ?_
  rintro _ _ ⟨rfl, rfl⟩
  (repeat' (first | refine W.mv ?_ | refine W.zl ?_ | refine W.fa ?_ | refine W.nl ?_ | refine W.as ?_ | refine W.zb ?_ | refine W.za ?_ | refine W.zi ?_ | refine W.zc ?_ | refine W.zp ?_ | refine W.st ?_ | refine SL.nilB ?_ | refine SL.nil ?_ | refine W.al fun b_ => ?_ | refine W.bx fun b_ => ?_ | refine W.bxa fun b_ => ?_ | refine W.sw ?_ | refine W.sa ?_ | refine W.sk ?_ | refine W.bs0 fun b_ => ?_ | refine W.ma fun b_ => ?_ | refine W.bsl fun b_ => ?_ | refine W.zu ?_ | refine W.zf ?_ | refine W.zd ?_ | refine W.zs ?_ | refine W.zv ?_ | refine W.zx ?_ | refine W.ex ?_ | refine W.mf ?_ | refine W.mk ?_ | refine SW.seq ?_ | refine SW.region ?_ | refine SW.block ?_ | refine SW.cond_t rfl ?_ | refine SW.cond_f rfl ?_ | refine SW.exit ?_ | refine SW.ret ?_ | refine SW.skip ?_))
  refine W.ap (ys := cbs L.flatten) (mm := L.length) (o1 _) (fun w2 hs => hw2.srcAt hs) (fun mv MH hmv => ?_) (hys := hfl) (hbytes := by rw [hz1, hfl]; omega)
  rw [show cbs Z ++ cbs L.flatten = cbs (Z :: L).flatten by simp] at hmv
  have hmv1 := hmv.isOne
  have hflM : (cbs (Z :: L).flatten).length = (L.length + 1) * 32 := by rw [cbs_len, flatN_len hMz, List.length_cons]
  obtain ⟨ma, ml, mc, rfl, hml⟩ := hmv.form
  obtain rfl : ml = L.length + 1 := by omega
  (repeat' (first | refine W.mv ?_ | refine W.zl ?_ | refine W.fa ?_ | refine W.nl ?_ | refine W.as ?_ | refine W.zb ?_ | refine W.za ?_ | refine W.zi ?_ | refine W.zc ?_ | refine W.zp ?_ | refine W.st ?_ | refine SL.nilB ?_ | refine SL.nil ?_ | refine W.al fun b_ => ?_ | refine W.bx fun b_ => ?_ | refine W.bxa fun b_ => ?_ | refine W.sw ?_ | refine W.sa ?_ | refine W.sk ?_ | refine W.bs0 fun b_ => ?_ | refine W.ma fun b_ => ?_ | refine W.bsl fun b_ => ?_ | refine W.zu ?_ | refine W.zf ?_ | refine W.zd ?_ | refine W.zs ?_ | refine W.zv ?_ | refine W.zx ?_ | refine W.ex ?_ | refine W.mf ?_ | refine W.mk ?_ | refine SW.seq ?_ | refine SW.region ?_ | refine SW.block ?_ | refine SW.cond_t rfl ?_ | refine SW.cond_f rfl ?_ | refine SW.exit ?_ | refine SW.ret ?_ | refine SW.skip ?_))
  refine W.ap (ys := cbs (Z :: L).flatten) (mm := L.length + 1) (o1 _) (fun w2 hs => hmv.srcAt hs inferInstance) (fun nv NH hnv => ?_) (hys := hflM) (hbytes := by rw [hz1, hflM]; omega)
  rw [show cbs Z ++ cbs (Z :: L).flatten = cbs (Z :: Z :: L).flatten by simp] at hnv
  have hnv1 := hnv.isOne
  (repeat' (first | refine W.mv ?_ | refine W.zl ?_ | refine W.fa ?_ | refine W.nl ?_ | refine W.as ?_ | refine W.zb ?_ | refine W.za ?_ | refine W.zi ?_ | refine W.zc ?_ | refine W.zp ?_ | refine W.st ?_ | refine SL.nilB ?_ | refine SL.nil ?_ | refine W.al fun b_ => ?_ | refine W.bx fun b_ => ?_ | refine W.bxa fun b_ => ?_ | refine W.sw ?_ | refine W.sa ?_ | refine W.sk ?_ | refine W.bs0 fun b_ => ?_ | refine W.ma fun b_ => ?_ | refine W.bsl fun b_ => ?_ | refine W.zu ?_ | refine W.zf ?_ | refine W.zd ?_ | refine W.zs ?_ | refine W.zv ?_ | refine W.zx ?_ | refine W.ex ?_ | refine W.mf ?_ | refine W.mk ?_ | refine SW.seq ?_ | refine SW.region ?_ | refine SW.block ?_ | refine SW.cond_t rfl ?_ | refine SW.cond_f rfl ?_ | refine SW.exit ?_ | refine SW.ret ?_ | refine SW.skip ?_))
  refine W.call (planted_p hB1 (Z :: L) hMz (by simp) (by simp; omega) _) ?_ rfl (fun w2 hs => Rd.own (Hc := B1) hmv hs inferInstance)
  rintro _ _ ⟨ta, Ha, B2, rfl, rfl, hTa, hB2⟩
  (repeat' (first | refine W.mv ?_ | refine W.zl ?_ | refine W.fa ?_ | refine W.nl ?_ | refine W.as ?_ | refine W.zb ?_ | refine W.za ?_ | refine W.zi ?_ | refine W.zc ?_ | refine W.zp ?_ | refine W.st ?_ | refine SL.nilB ?_ | refine SL.nil ?_ | refine W.al fun b_ => ?_ | refine W.bx fun b_ => ?_ | refine W.bxa fun b_ => ?_ | refine W.sw ?_ | refine W.sa ?_ | refine W.sk ?_ | refine W.bs0 fun b_ => ?_ | refine W.ma fun b_ => ?_ | refine W.bsl fun b_ => ?_ | refine W.zu ?_ | refine W.zf ?_ | refine W.zd ?_ | refine W.zs ?_ | refine W.zv ?_ | refine W.zx ?_ | refine W.ex ?_ | refine W.mf ?_ | refine W.mk ?_ | refine SW.seq ?_ | refine SW.region ?_ | refine SW.block ?_ | refine SW.cond_t rfl ?_ | refine SW.cond_f rfl ?_ | refine SW.exit ?_ | refine SW.ret ?_ | refine SW.skip ?_))
  refine W.call (planted_p hB2 (Z :: Z :: L) hNz (by simp) (by simp; omega) _) ?_ rfl (fun w2 hs => Rd.own (Hc := B2) hnv hs inferInstance)
  rintro _ _ ⟨tb, Hm, B3, rfl, rfl, hTb, hB3⟩
  (repeat' (first | refine W.mv ?_ | refine W.zl ?_ | refine W.fa ?_ | refine W.nl ?_ | refine W.as ?_ | refine W.zb ?_ | refine W.za ?_ | refine W.zi ?_ | refine W.zc ?_ | refine W.zp ?_ | refine W.st ?_ | refine SL.nilB ?_ | refine SL.nil ?_ | refine W.al fun b_ => ?_ | refine W.bx fun b_ => ?_ | refine W.bxa fun b_ => ?_ | refine W.sw ?_ | refine W.sa ?_ | refine W.sk ?_ | refine W.bs0 fun b_ => ?_ | refine W.ma fun b_ => ?_ | refine W.bsl fun b_ => ?_ | refine W.zu ?_ | refine W.zf ?_ | refine W.zd ?_ | refine W.zs ?_ | refine W.zv ?_ | refine W.zx ?_ | refine W.ex ?_ | refine W.mf ?_ | refine W.mk ?_ | refine SW.seq ?_ | refine SW.region ?_ | refine SW.block ?_ | refine SW.cond_t rfl ?_ | refine SW.cond_f rfl ?_ | refine SW.exit ?_ | refine SW.ret ?_ | refine SW.skip ?_))
  refine W.call (Trees_bad hTa hTb (by simp)) ?_
  rintro _ _ ⟨rfl, rfl⟩
  (repeat' (first | refine W.mv ?_ | refine W.zl ?_ | refine W.fa ?_ | refine W.nl ?_ | refine W.as ?_ | refine W.zb ?_ | refine W.za ?_ | refine W.zi ?_ | refine W.zc ?_ | refine W.zp ?_ | refine W.st ?_ | refine SL.nilB ?_ | refine SL.nil ?_ | refine W.al fun b_ => ?_ | refine W.bx fun b_ => ?_ | refine W.bxa fun b_ => ?_ | refine W.sw ?_ | refine W.sa ?_ | refine W.sk ?_ | refine W.bs0 fun b_ => ?_ | refine W.ma fun b_ => ?_ | refine W.bsl fun b_ => ?_ | refine W.zu ?_ | refine W.zf ?_ | refine W.zd ?_ | refine W.zs ?_ | refine W.zv ?_ | refine W.zx ?_ | refine W.ex ?_ | refine W.mf ?_ | refine W.mk ?_ | refine SW.seq ?_ | refine SW.region ?_ | refine SW.block ?_ | refine SW.cond_t rfl ?_ | refine SW.cond_f rfl ?_ | refine SW.exit ?_ | refine SW.ret ?_ | refine SW.skip ?_))
  refine W.call Plant_nil ?_
  rintro _ _ ⟨rfl, rfl⟩
  (repeat' (first | refine W.mv ?_ | refine W.zl ?_ | refine W.fa ?_ | refine W.nl ?_ | refine W.as ?_ | refine W.zb ?_ | refine W.za ?_ | refine W.zi ?_ | refine W.zc ?_ | refine W.zp ?_ | refine W.st ?_ | refine SL.nilB ?_ | refine SL.nil ?_ | refine W.al fun b_ => ?_ | refine W.bx fun b_ => ?_ | refine W.bxa fun b_ => ?_ | refine W.sw ?_ | refine W.sa ?_ | refine W.sk ?_ | refine W.bs0 fun b_ => ?_ | refine W.ma fun b_ => ?_ | refine W.bsl fun b_ => ?_ | refine W.zu ?_ | refine W.zf ?_ | refine W.zd ?_ | refine W.zs ?_ | refine W.zv ?_ | refine W.zx ?_ | refine W.ex ?_ | refine W.mf ?_ | refine W.mk ?_ | refine SW.seq ?_ | refine SW.region ?_ | refine SW.block ?_ | refine SW.cond_t rfl ?_ | refine SW.cond_f rfl ?_ | refine SW.exit ?_ | refine SW.ret ?_ | refine SW.skip ?_))
  refine W.call Bring_nil ?_
  rintro _ _ ⟨rfl, rfl⟩
  (repeat' (first | refine W.mv ?_ | refine W.zl ?_ | refine W.fa ?_ | refine W.nl ?_ | refine W.as ?_ | refine W.zb ?_ | refine W.za ?_ | refine W.zi ?_ | refine W.zc ?_ | refine W.zp ?_ | refine W.st ?_ | refine SL.nilB ?_ | refine SL.nil ?_ | refine W.al fun b_ => ?_ | refine W.bx fun b_ => ?_ | refine W.bxa fun b_ => ?_ | refine W.sw ?_ | refine W.sa ?_ | refine W.sk ?_ | refine W.bs0 fun b_ => ?_ | refine W.ma fun b_ => ?_ | refine W.bsl fun b_ => ?_ | refine W.zu ?_ | refine W.zf ?_ | refine W.zd ?_ | refine W.zs ?_ | refine W.zv ?_ | refine W.zx ?_ | refine W.ex ?_ | refine W.mf ?_ | refine W.mk ?_ | refine SW.seq ?_ | refine SW.region ?_ | refine SW.block ?_ | refine SW.cond_t rfl ?_ | refine SW.cond_f rfl ?_ | refine SW.exit ?_ | refine SW.ret ?_ | refine SW.skip ?_))
  have hk16 : (List.replicate 16 (0 : UInt8)).length = 16 := rfl
  have ok3 : Gm.Ok 3 4 := ⟨by decide, by decide, by decide, by decide⟩
  have ok4 : Gm.Ok 4 4 := ⟨by decide, by decide, by decide, by decide⟩
  refine W.call (begin_p ok3 (List.replicate 16 0) hk16 (cnt := 0) (by decide) (by decide)) ?_
  rintro _ H3 ⟨pp, rfl, hP⟩
  (repeat' (first | refine W.mv ?_ | refine W.zl ?_ | refine W.fa ?_ | refine W.nl ?_ | refine W.as ?_ | refine W.zb ?_ | refine W.za ?_ | refine W.zi ?_ | refine W.zc ?_ | refine W.zp ?_ | refine W.st ?_ | refine SL.nilB ?_ | refine SL.nil ?_ | refine W.al fun b_ => ?_ | refine W.bx fun b_ => ?_ | refine W.bxa fun b_ => ?_ | refine W.sw ?_ | refine W.sa ?_ | refine W.sk ?_ | refine W.bs0 fun b_ => ?_ | refine W.ma fun b_ => ?_ | refine W.bsl fun b_ => ?_ | refine W.zu ?_ | refine W.zf ?_ | refine W.zd ?_ | refine W.zs ?_ | refine W.zv ?_ | refine W.zx ?_ | refine W.ex ?_ | refine W.mf ?_ | refine W.mk ?_ | refine SW.seq ?_ | refine SW.region ?_ | refine SW.block ?_ | refine SW.cond_t rfl ?_ | refine SW.cond_f rfl ?_ | refine SW.exit ?_ | refine SW.ret ?_ | refine SW.skip ?_))
  refine W.call (begin_p ok4 (List.replicate 16 0) hk16 (cnt := 0) (by decide) (by decide)) ?_
  rintro _ H4 ⟨qp, rfl, hQ⟩
  (repeat' (first | refine W.mv ?_ | refine W.zl ?_ | refine W.fa ?_ | refine W.nl ?_ | refine W.as ?_ | refine W.zb ?_ | refine W.za ?_ | refine W.zi ?_ | refine W.zc ?_ | refine W.zp ?_ | refine W.st ?_ | refine SL.nilB ?_ | refine SL.nil ?_ | refine W.al fun b_ => ?_ | refine W.bx fun b_ => ?_ | refine W.bxa fun b_ => ?_ | refine W.sw ?_ | refine W.sa ?_ | refine W.sk ?_ | refine W.bs0 fun b_ => ?_ | refine W.ma fun b_ => ?_ | refine W.bsl fun b_ => ?_ | refine W.zu ?_ | refine W.zf ?_ | refine W.zd ?_ | refine W.zs ?_ | refine W.zv ?_ | refine W.zx ?_ | refine W.ex ?_ | refine W.mf ?_ | refine W.mk ?_ | refine SW.seq ?_ | refine SW.region ?_ | refine SW.block ?_ | refine SW.cond_t rfl ?_ | refine SW.cond_f rfl ?_ | refine SW.exit ?_ | refine SW.ret ?_ | refine SW.skip ?_))
  obtain ⟨d, tr, s, m, bk, tk, c, bx, rd, rtr, rs, rc, Hd, Hb, Hc, HD, HR, hD, hBk, -, -, -, rfl⟩ := hP
  obtain ⟨d', tr', s', m', bk', tk', c', bx', rd', rtr', rs', rc', Hd', Hb', Hc', HD', HR', hD', hBk', -, -, -, rfl⟩ := hQ
  have hb3 := Bring_geo (tr := tr) (s := s) (tr' := tr') (s' := s') ok3 hD hBk rfl (Dv.new_len (by decide)) ok4 hD' hBk' rfl (Dv.new_len (by decide)) (by decide)
  (refine SW.regionS [8] ?_ (by kernel_rfl); refine SS.tw 0 rfl (p_move rfl rfl) ?_; refine SS.tw 1 rfl (p_nil rfl rfl) ?_; refine SS.tw 2 rfl (p_fieldAddr rfl rfl OfN.ok) ?_; (first | refine SS.lw 3 [8] rfl ?_ | refine SS.la 3 [8] rfl ?_ | refine SS.tw 3 rfl (p_load_aR rfl rfl (by assumption) (by assumption) (by assumption) (by assumption)) ?_); refine SS.tw 4 rfl (p_move rfl rfl) ?_; refine SS.tw 5 rfl (p_nil rfl rfl) ?_; refine SS.tw 6 rfl (p_fieldAddr rfl rfl OfN.ok) ?_; (first | refine SS.lw 7 [8] rfl ?_ | refine SS.la 7 [8] rfl ?_ | refine SS.tw 7 rfl (p_load_aR rfl rfl (by assumption) (by assumption) (by assumption) (by assumption)) ?_); refine SS.effB 8 ?_ rfl (by kernel_rfl))
  refine W.call hb3 ?_
  rintro _ _ ⟨rfl, rfl⟩
  (refine SL.nilB ?_; refine SS.tw 9 rfl (p_move rfl rfl) ?_; refine SS.tw 10 rfl (p_ext rfl rfl rfl) ?_; refine SS.tw 11 rfl (p_ext rfl rfl rfl) ?_; refine SS.tw 12 rfl (p_assign rfl rfl) ?_; refine SS.tw 13 rfl (p_assign rfl rfl) ?_; refine SS.done ?_ (by kernel_rfl))
  (repeat' (first | refine W.mv ?_ | refine W.zl ?_ | refine W.fa ?_ | refine W.nl ?_ | refine W.as ?_ | refine W.zb ?_ | refine W.za ?_ | refine W.zi ?_ | refine W.zc ?_ | refine W.zp ?_ | refine W.st ?_ | refine SL.nilB ?_ | refine SL.nil ?_ | refine W.al fun b_ => ?_ | refine W.bx fun b_ => ?_ | refine W.bxa fun b_ => ?_ | refine W.sw ?_ | refine W.sa ?_ | refine W.sk ?_ | refine W.bs0 fun b_ => ?_ | refine W.ma fun b_ => ?_ | refine W.bsl fun b_ => ?_ | refine W.zu ?_ | refine W.zf ?_ | refine W.zd ?_ | refine W.zs ?_ | refine W.zv ?_ | refine W.zx ?_ | refine W.ex ?_ | refine W.mf ?_ | refine W.mk ?_ | refine SW.seq ?_ | refine SW.region ?_ | refine SW.block ?_ | refine SW.cond_t rfl ?_ | refine SW.cond_f rfl ?_ | refine SW.exit ?_ | refine SW.ret ?_ | refine SW.skip ?_))
  refine W.call awake34_p ?_
  rintro _ _ ⟨rfl, rfl⟩
  (repeat' (first | refine W.mv ?_ | refine W.zl ?_ | refine W.fa ?_ | refine W.nl ?_ | refine W.as ?_ | refine W.zb ?_ | refine W.za ?_ | refine W.zi ?_ | refine W.zc ?_ | refine W.zp ?_ | refine W.st ?_ | refine SL.nilB ?_ | refine SL.nil ?_ | refine W.al fun b_ => ?_ | refine W.bx fun b_ => ?_ | refine W.bxa fun b_ => ?_ | refine W.sw ?_ | refine W.sa ?_ | refine W.sk ?_ | refine W.bs0 fun b_ => ?_ | refine W.ma fun b_ => ?_ | refine W.bsl fun b_ => ?_ | refine W.zu ?_ | refine W.zf ?_ | refine W.zd ?_ | refine W.zs ?_ | refine W.zv ?_ | refine W.zx ?_ | refine W.ex ?_ | refine W.mf ?_ | refine W.mk ?_ | refine SW.seq ?_ | refine SW.region ?_ | refine SW.block ?_ | refine SW.cond_t rfl ?_ | refine SW.cond_f rfl ?_ | refine SW.exit ?_ | refine SW.ret ?_ | refine SW.skip ?_))
  refine Fin.to [] ?_
  exact F.f1 rfl
end Go.Proofs.YtieamijnajbcnaaGreat
