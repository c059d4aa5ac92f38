/- What stands beside a leaf's way up is as the chapter says, and leads to the root. -/
import Derived.Test.YtieamijnajbcnaaE3
set_option linter.unusedVariables false
set_option linter.unusedSimpArgs false
namespace Go.Proofs.Ytieamijnajbcnaa
open Go
attribute [local irreducible] SW SL SQ SH SA SS Pu Fin CutF HandF

/-- A row of sums of one's own. -/
theorem Sl.row {e : Nat} {v : Value} {L : List (List UInt8)} {Hs : Hp} (h : Sl e 32 v (cbs L.flatten) Hs) (hL : D32 L) : (L = [] ∧ v = .slice none 0 0 ∧ Hs = []) ∨ ∃ (b cap : Nat) (junk : List Value), v = .slice (some ⟨b, 0, none⟩) L.length cap ∧ L.length ≤ cap ∧ Hs = [(b, cl (cbs L.flatten ++ junk) e)] := by
  rcases h with ⟨rfl, h2, rfl⟩ | ⟨b, len, cap, junk, rfl, hx, hj, hlc, rfl⟩
  · left
    refine ⟨?_, rfl, rfl⟩
    have h3 := congrArg List.length h2
    rw [cbs_len, flatN_len hL, List.length_nil] at h3
    exact List.eq_nil_of_length_eq_zero (by omega)
  · right
    obtain rfl : len = L.length := by rw [cbs_len, flatN_len hL] at hx; omega
    exact ⟨b, cap, junk, rfl, hlc, rfl⟩
theorem path_law (l : List (List UInt8)) (hl : D32 l) (v : Value) (k : Int) : Tri Try.prog 8 [v, .int .i64 k] [] (fun w => Rd [] w 32 v (cbs l.flatten)) (fun r _ => r = .bool true) := by
  refine Tri.mk Try.func8 rfl Try.ntmps8 rfl fun w hw => ?_
  obtain ⟨a, cap, rfl, -, -⟩ := hw.row hl
  have hfew := few_q l hl a cap
  obtain ⟨hL, hL20, hw2⟩ := hw.few hl
  generalize l.take 20 = L at hfew hL hL20 hw2
  (repeat' (first | refine W.mv ?_ | refine W.zl ?_ | refine W.fa ?_ | refine W.nl ?_ | refine W.as ?_ | refine W.zb ?_ | refine W.za ?_ | refine W.zi ?_ | refine W.zc ?_ | refine W.zp ?_ | refine W.st ?_ | refine SL.nilB ?_ | refine SL.nil ?_ | refine W.al fun b_ => ?_ | refine W.bx fun b_ => ?_ | refine W.bxa fun b_ => ?_ | refine W.sw ?_ | refine W.sa ?_ | refine W.sk ?_ | refine W.bs0 fun b_ => ?_ | refine W.ma fun b_ => ?_ | refine W.bsl fun b_ => ?_ | refine W.zu ?_ | refine W.zf ?_ | refine W.zd ?_ | refine W.zs ?_ | refine W.zv ?_ | refine W.zx ?_ | refine W.ex ?_ | refine W.mf ?_ | refine W.mk ?_ | refine SW.seq ?_ | refine SW.region ?_ | refine SW.block ?_ | refine SW.cond_t rfl ?_ | refine SW.cond_f rfl ?_ | refine SW.exit ?_ | refine SW.ret ?_ | refine SW.skip ?_))
  refine W.call hfew ?_ rfl (fun w2 hs => hw.ro (Hc := []) hs)
  rintro _ _ ⟨rfl, rfl⟩
  (repeat' (first | refine W.mv ?_ | refine W.zl ?_ | refine W.fa ?_ | refine W.nl ?_ | refine W.as ?_ | refine W.zb ?_ | refine W.za ?_ | refine W.zi ?_ | refine W.zc ?_ | refine W.zp ?_ | refine W.st ?_ | refine SL.nilB ?_ | refine SL.nil ?_ | refine W.al fun b_ => ?_ | refine W.bx fun b_ => ?_ | refine W.bxa fun b_ => ?_ | refine W.sw ?_ | refine W.sa ?_ | refine W.sk ?_ | refine W.bs0 fun b_ => ?_ | refine W.ma fun b_ => ?_ | refine W.bsl fun b_ => ?_ | refine W.zu ?_ | refine W.zf ?_ | refine W.zd ?_ | refine W.zs ?_ | refine W.zv ?_ | refine W.zx ?_ | refine W.ex ?_ | refine W.mf ?_ | refine W.mk ?_ | refine SW.seq ?_ | refine SW.region ?_ | refine SW.block ?_ | refine SW.cond_t rfl ?_ | refine SW.cond_f rfl ?_ | refine SW.exit ?_ | refine SW.ret ?_ | refine SW.skip ?_))
  refine W.call Book_p ?_
  rintro _ B0 ⟨b, tp, rfl, hB⟩
  (repeat' (first | refine W.mv ?_ | refine W.zl ?_ | refine W.fa ?_ | refine W.nl ?_ | refine W.as ?_ | refine W.zb ?_ | refine W.za ?_ | refine W.zi ?_ | refine W.zc ?_ | refine W.zp ?_ | refine W.st ?_ | refine SL.nilB ?_ | refine SL.nil ?_ | refine W.al fun b_ => ?_ | refine W.bx fun b_ => ?_ | refine W.bxa fun b_ => ?_ | refine W.sw ?_ | refine W.sa ?_ | refine W.sk ?_ | refine W.bs0 fun b_ => ?_ | refine W.ma fun b_ => ?_ | refine W.bsl fun b_ => ?_ | refine W.zu ?_ | refine W.zf ?_ | refine W.zd ?_ | refine W.zs ?_ | refine W.zv ?_ | refine W.zx ?_ | refine W.ex ?_ | refine W.mf ?_ | refine W.mk ?_ | refine SW.seq ?_ | refine SW.region ?_ | refine SW.block ?_ | refine SW.cond_t rfl ?_ | refine SW.cond_f rfl ?_ | refine SW.exit ?_ | refine SW.ret ?_ | refine SW.skip ?_))
  refine W.call (digests_p L hL _ (by omega)) ?_ rfl (fun w2 hs => hw2.ro (Hc := []) hs)
  intro dv Hd hdv
  have hd1 := hdv.isOne
  obtain ⟨da, dl, dc, rfl, hdl⟩ := hdv.form
  obtain rfl : dl = L.length := by rw [cbs_len, flatN_len hL] at hdl; omega
  (repeat' (first | refine W.mv ?_ | refine W.zl ?_ | refine W.fa ?_ | refine W.nl ?_ | refine W.as ?_ | refine W.zb ?_ | refine W.za ?_ | refine W.zi ?_ | refine W.zc ?_ | refine W.zp ?_ | refine W.st ?_ | refine SL.nilB ?_ | refine SL.nil ?_ | refine W.al fun b_ => ?_ | refine W.bx fun b_ => ?_ | refine W.bxa fun b_ => ?_ | refine W.sw ?_ | refine W.sa ?_ | refine W.sk ?_ | refine W.bs0 fun b_ => ?_ | refine W.ma fun b_ => ?_ | refine W.bsl fun b_ => ?_ | refine W.zu ?_ | refine W.zf ?_ | refine W.zd ?_ | refine W.zs ?_ | refine W.zv ?_ | refine W.zx ?_ | refine W.ex ?_ | refine W.mf ?_ | refine W.mk ?_ | refine SW.seq ?_ | refine SW.region ?_ | refine SW.block ?_ | refine SW.cond_t rfl ?_ | refine SW.cond_f rfl ?_ | refine SW.exit ?_ | refine SW.ret ?_ | refine SW.skip ?_))
  by_cases h0 : L.length = 0
  · rw [h0]
    refine W.call (new_none b da dc) ?_
    rintro _ _ ⟨rfl, rfl⟩
    (repeat' (first | refine W.mv ?_ | refine W.zl ?_ | refine W.fa ?_ | refine W.nl ?_ | refine W.as ?_ | refine W.zb ?_ | refine W.za ?_ | refine W.zi ?_ | refine W.zc ?_ | refine W.zp ?_ | refine W.st ?_ | refine SL.nilB ?_ | refine SL.nil ?_ | refine W.al fun b_ => ?_ | refine W.bx fun b_ => ?_ | refine W.bxa fun b_ => ?_ | refine W.sw ?_ | refine W.sa ?_ | refine W.sk ?_ | refine W.bs0 fun b_ => ?_ | refine W.ma fun b_ => ?_ | refine W.bsl fun b_ => ?_ | refine W.zu ?_ | refine W.zf ?_ | refine W.zd ?_ | refine W.zs ?_ | refine W.zv ?_ | refine W.zx ?_ | refine W.ex ?_ | refine W.mf ?_ | refine W.mk ?_ | refine SW.seq ?_ | refine SW.region ?_ | refine SW.block ?_ | refine SW.cond_t rfl ?_ | refine SW.cond_f rfl ?_ | refine SW.exit ?_ | refine SW.ret ?_ | refine SW.skip ?_))
    refine W.call (Path_nil k) ?_
    rintro _ _ ⟨rfl, rfl⟩
    (repeat' (first | refine W.mv ?_ | refine W.zl ?_ | refine W.fa ?_ | refine W.nl ?_ | refine W.as ?_ | refine W.zb ?_ | refine W.za ?_ | refine W.zi ?_ | refine W.zc ?_ | refine W.zp ?_ | refine W.st ?_ | refine SL.nilB ?_ | refine SL.nil ?_ | refine W.al fun b_ => ?_ | refine W.bx fun b_ => ?_ | refine W.bxa fun b_ => ?_ | refine W.sw ?_ | refine W.sa ?_ | refine W.sk ?_ | refine W.bs0 fun b_ => ?_ | refine W.ma fun b_ => ?_ | refine W.bsl fun b_ => ?_ | refine W.zu ?_ | refine W.zf ?_ | refine W.zd ?_ | refine W.zs ?_ | refine W.zv ?_ | refine W.zx ?_ | refine W.ex ?_ | refine W.mf ?_ | refine W.mk ?_ | refine SW.seq ?_ | refine SW.region ?_ | refine SW.block ?_ | refine SW.cond_t rfl ?_ | refine SW.cond_f rfl ?_ | refine SW.exit ?_ | refine SW.ret ?_ | refine SW.skip ?_))
    refine W.call awake12_p ?_
    rintro _ _ ⟨rfl, rfl⟩
    (repeat' (first | refine W.mv ?_ | refine W.zl ?_ | refine W.fa ?_ | refine W.nl ?_ | refine W.as ?_ | refine W.zb ?_ | refine W.za ?_ | refine W.zi ?_ | refine W.zc ?_ | refine W.zp ?_ | refine W.st ?_ | refine SL.nilB ?_ | refine SL.nil ?_ | refine W.al fun b_ => ?_ | refine W.bx fun b_ => ?_ | refine W.bxa fun b_ => ?_ | refine W.sw ?_ | refine W.sa ?_ | refine W.sk ?_ | refine W.bs0 fun b_ => ?_ | refine W.ma fun b_ => ?_ | refine W.bsl fun b_ => ?_ | refine W.zu ?_ | refine W.zf ?_ | refine W.zd ?_ | refine W.zs ?_ | refine W.zv ?_ | refine W.zx ?_ | refine W.ex ?_ | refine W.mf ?_ | refine W.mk ?_ | refine SW.seq ?_ | refine SW.region ?_ | refine SW.block ?_ | refine SW.cond_t rfl ?_ | refine SW.cond_f rfl ?_ | refine SW.exit ?_ | refine SW.ret ?_ | refine SW.skip ?_))
    refine Fin.to [] ?_
    exact F.f1 rfl
  · refine W.call (new_p hB (.slice da L.length dc) L hL (by omega) (by omega)) ?_ rfl (fun w2 hs => Rd.own (Hc := B0) hdv hs inferInstance)
    rintro _ _ ⟨t, Ht, B1, rfl, rfl, hT, hB1⟩
    (repeat' (first | refine W.mv ?_ | refine W.zl ?_ | refine W.fa ?_ | refine W.nl ?_ | refine W.as ?_ | refine W.zb ?_ | refine W.za ?_ | refine W.zi ?_ | refine W.zc ?_ | refine W.zp ?_ | refine W.st ?_ | refine SL.nilB ?_ | refine SL.nil ?_ | refine W.al fun b_ => ?_ | refine W.bx fun b_ => ?_ | refine W.bxa fun b_ => ?_ | refine W.sw ?_ | refine W.sa ?_ | refine W.sk ?_ | refine W.bs0 fun b_ => ?_ | refine W.ma fun b_ => ?_ | refine W.bsl fun b_ => ?_ | refine W.zu ?_ | refine W.zf ?_ | refine W.zd ?_ | refine W.zs ?_ | refine W.zv ?_ | refine W.zx ?_ | refine W.ex ?_ | refine W.mf ?_ | refine W.mk ?_ | refine SW.seq ?_ | refine SW.region ?_ | refine SW.block ?_ | refine SW.cond_t rfl ?_ | refine SW.cond_f rfl ?_ | refine SW.exit ?_ | refine SW.ret ?_ | refine SW.skip ?_))
    refine W.call (Path_p hT k hL (by omega)) ?_
    rintro pv _ ⟨Hp, rfl, hpv⟩
    have hp1 := hpv.isOne
    by_cases hk : 0 ≤ k ∧ k < (L.length : Int)
    · obtain ⟨hk1, hk2⟩ := hk
      obtain ⟨j, rfl⟩ : ∃ j : Nat, k = (j : Int) := ⟨k.toNat, by omega⟩
      have hpo : pathOf L (j : Int) = pathV L j (dep L.length) := by unfold pathOf; rw [if_pos ⟨hk1, hk2⟩, Int.toNat_natCast]
      rw [hpo] at hpv
      have hpr := pathV_32 hL j (dep L.length)
      have hplen := pathV_len L j (dep L.length)
      obtain ⟨pa, pl, pc, rfl, hpl⟩ := hpv.form
      obtain rfl : pl = dep L.length := by rw [cbs_len, flatN_len hpr, hplen] at hpl; omega
      (repeat' (first | refine W.mv ?_ | refine W.zl ?_ | refine W.fa ?_ | refine W.nl ?_ | refine W.as ?_ | refine W.zb ?_ | refine W.za ?_ | refine W.zi ?_ | refine W.zc ?_ | refine W.zp ?_ | refine W.st ?_ | refine SL.nilB ?_ | refine SL.nil ?_ | refine W.al fun b_ => ?_ | refine W.bx fun b_ => ?_ | refine W.bxa fun b_ => ?_ | refine W.sw ?_ | refine W.sa ?_ | refine W.sk ?_ | refine W.bs0 fun b_ => ?_ | refine W.ma fun b_ => ?_ | refine W.bsl fun b_ => ?_ | refine W.zu ?_ | refine W.zf ?_ | refine W.zd ?_ | refine W.zs ?_ | refine W.zv ?_ | refine W.zx ?_ | refine W.ex ?_ | refine W.mf ?_ | refine W.mk ?_ | refine SW.seq ?_ | refine SW.region ?_ | refine SW.block ?_ | refine SW.cond_t rfl ?_ | refine SW.cond_f rfl ?_ | refine SW.exit ?_ | refine SW.ret ?_ | refine SW.skip ?_))
      refine W.call (rpath_p L hL _ j (by omega) (by omega)) ?_ rfl (fun w2 hs => hw2.ro (Hc := []) hs)
      intro qv Hq hqv
      have hq1 := hqv.isOne
      obtain ⟨qa, ql, qc, rfl, hql⟩ := hqv.form
      obtain rfl : ql = dep L.length := by rw [cbs_len, flatN_len hpr, hplen] at hql; omega
      have hx : leafV L (j : Int) = atV L 0 j := by unfold leafV; rw [if_pos ⟨hk1, hk2⟩, Int.toNat_natCast]; rfl
      have hx32 := atV_len hL 0 j
      have hle := dep_le L.length
      have hd5 := dep_max (n := L.length) (k := 5) (by show L.length ≤ 32; omega)
      have hup : upV L.length j (atV L 0 j) (pathV L j (dep L.length)) = rootV L := by
        unfold upV
        rw [hplen, upTo_path L j (dep L.length) (dep L.length) (Nat.le_refl _), Nat.div_eq_of_lt (by omega)]
        rfl
      have hAt := AtT_p hT (j : Int) (by omega)
      rw [hx] at hAt
      have hUp := Up_p hB1 L.length j (atV L 0 j) (.slice pa (dep L.length) pc) (pathV L j (dep L.length)) hx32 hpr ⟨by omega, by omega, by omega, by omega, by rw [hplen, Int.toNat_natCast]⟩
      rw [hup] at hUp
      have hRoot := fun s' B' (h : BookP b tp s' B') => Root_p hT h (by omega)
      have hr : (rootV L).length = 32 := Sha.sum_len _
      have hcr := cl32 hr
      have hz : (List.replicate 32 (Value.int .u8 0)).length = 32 := rfl
      generalize hPe : pathV L j (dep L.length) = P at *
      generalize dep L.length = D at *
      (repeat' (first | refine W.mv ?_ | refine W.zl ?_ | refine W.fa ?_ | refine W.nl ?_ | refine W.as ?_ | refine W.zb ?_ | refine W.za ?_ | refine W.zi ?_ | refine W.zc ?_ | refine W.zp ?_ | refine W.st ?_ | refine SL.nilB ?_ | refine SL.nil ?_ | refine W.al fun b_ => ?_ | refine W.bx fun b_ => ?_ | refine W.bxa fun b_ => ?_ | refine W.sw ?_ | refine W.sa ?_ | refine W.sk ?_ | refine W.bs0 fun b_ => ?_ | refine W.ma fun b_ => ?_ | refine W.bsl fun b_ => ?_ | refine W.zu ?_ | refine W.zf ?_ | refine W.zd ?_ | refine W.zs ?_ | refine W.zv ?_ | refine W.zx ?_ | refine W.ex ?_ | refine W.mf ?_ | refine W.mk ?_ | refine SW.seq ?_ | refine SW.region ?_ | refine SW.cond_t rfl ?_ | refine SW.cond_f rfl ?_ | refine SW.exit ?_ | refine SW.ret ?_ | refine SW.skip ?_))
      refine SW.cut [0, 1, 5, 6, 8] [] (fun _ : Unit => []) (fun _ => []) (fun _ => True) ?_ ?_
      · rcases hpv.row hpr with ⟨h1, h2, h3⟩ | ⟨pb, pcc, pj, h1, h2, h3⟩
        · have hD0 : D = 0 := by rw [← hplen, h1]; rfl
          subst hD0
          (repeat' (first | refine W.mv ?_ | refine W.zl ?_ | refine W.fa ?_ | refine W.nl ?_ | refine W.as ?_ | refine W.zb ?_ | refine W.za ?_ | refine W.zi ?_ | refine W.zc ?_ | refine W.zp ?_ | refine W.st ?_ | refine SL.nilB ?_ | refine SL.nil ?_ | refine W.al fun b_ => ?_ | refine W.bx fun b_ => ?_ | refine W.bxa fun b_ => ?_ | refine W.sw ?_ | refine W.sa ?_ | refine W.sk ?_ | refine W.bs0 fun b_ => ?_ | refine W.ma fun b_ => ?_ | refine W.bsl fun b_ => ?_ | refine W.zu ?_ | refine W.zf ?_ | refine W.zd ?_ | refine W.zs ?_ | refine W.zv ?_ | refine W.zx ?_ | refine W.ex ?_ | refine W.mf ?_ | refine W.mk ?_ | refine SW.seq ?_ | refine SW.region ?_ | refine SW.block ?_ | refine SW.cond_t rfl ?_ | refine SW.cond_f rfl ?_ | refine SW.exit ?_ | refine SW.ret ?_ | refine SW.skip ?_))
          refine SW.loopG [0, 1, 5, 6, 8, 9, 61] [] (fun d : Nat => [(62, .int .i64 (d : Int))]) (fun _ => []) (fun d => 0 - d) (fun d => d = 0) 0 rfl ?_
          rintro d rfl
          (repeat' (first | refine W.mv ?_ | refine W.zl ?_ | refine W.fa ?_ | refine W.nl ?_ | refine W.as ?_ | refine W.zb ?_ | refine W.za ?_ | refine W.zi ?_ | refine W.zc ?_ | refine W.zp ?_ | refine W.st ?_ | refine SL.nilB ?_ | refine SL.nil ?_ | refine W.al fun b_ => ?_ | refine W.bx fun b_ => ?_ | refine W.bxa fun b_ => ?_ | refine W.sw ?_ | refine W.sa ?_ | refine W.sk ?_ | refine W.bs0 fun b_ => ?_ | refine W.ma fun b_ => ?_ | refine W.bsl fun b_ => ?_ | refine W.zu ?_ | refine W.zf ?_ | refine W.zd ?_ | refine W.zs ?_ | refine W.zv ?_ | refine W.zx ?_ | refine W.ex ?_ | refine W.mf ?_ | refine W.mk ?_ | refine SW.seq ?_ | refine SW.region ?_ | refine SW.block ?_ | refine SW.cond_t rfl ?_ | refine SW.cond_f rfl ?_ | refine SW.exit ?_ | refine SW.ret ?_ | refine SW.skip ?_))
          exact CutF.mk () trivial
        · rcases hqv.row hpr with ⟨g1, g2, g3⟩ | ⟨qb, qcc, qj, g1, g2, g3⟩
          · have hD0 : D = 0 := by rw [← hplen, g1]; rfl
            subst hD0
            (repeat' (first | refine W.mv ?_ | refine W.zl ?_ | refine W.fa ?_ | refine W.nl ?_ | refine W.as ?_ | refine W.zb ?_ | refine W.za ?_ | refine W.zi ?_ | refine W.zc ?_ | refine W.zp ?_ | refine W.st ?_ | refine SL.nilB ?_ | refine SL.nil ?_ | refine W.al fun b_ => ?_ | refine W.bx fun b_ => ?_ | refine W.bxa fun b_ => ?_ | refine W.sw ?_ | refine W.sa ?_ | refine W.sk ?_ | refine W.bs0 fun b_ => ?_ | refine W.ma fun b_ => ?_ | refine W.bsl fun b_ => ?_ | refine W.zu ?_ | refine W.zf ?_ | refine W.zd ?_ | refine W.zs ?_ | refine W.zv ?_ | refine W.zx ?_ | refine W.ex ?_ | refine W.mf ?_ | refine W.mk ?_ | refine SW.seq ?_ | refine SW.region ?_ | refine SW.block ?_ | refine SW.cond_t rfl ?_ | refine SW.cond_f rfl ?_ | refine SW.exit ?_ | refine SW.ret ?_ | refine SW.skip ?_))
            refine SW.loopG [0, 1, 5, 6, 8, 9, 61] [] (fun d : Nat => [(62, .int .i64 (d : Int))]) (fun _ => []) (fun d => 0 - d) (fun d => d = 0) 0 rfl ?_
            rintro d rfl
            (repeat' (first | refine W.mv ?_ | refine W.zl ?_ | refine W.fa ?_ | refine W.nl ?_ | refine W.as ?_ | refine W.zb ?_ | refine W.za ?_ | refine W.zi ?_ | refine W.zc ?_ | refine W.zp ?_ | refine W.st ?_ | refine SL.nilB ?_ | refine SL.nil ?_ | refine W.al fun b_ => ?_ | refine W.bx fun b_ => ?_ | refine W.bxa fun b_ => ?_ | refine W.sw ?_ | refine W.sa ?_ | refine W.sk ?_ | refine W.bs0 fun b_ => ?_ | refine W.ma fun b_ => ?_ | refine W.bsl fun b_ => ?_ | refine W.zu ?_ | refine W.zf ?_ | refine W.zd ?_ | refine W.zs ?_ | refine W.zv ?_ | refine W.zx ?_ | refine W.ex ?_ | refine W.mf ?_ | refine W.mk ?_ | refine SW.seq ?_ | refine SW.region ?_ | refine SW.block ?_ | refine SW.cond_t rfl ?_ | refine SW.cond_f rfl ?_ | refine SW.exit ?_ | refine SW.ret ?_ | refine SW.skip ?_))
            exact CutF.mk () trivial
          · rw [hplen] at h1 h2 g1 g2
            cases h1
            cases g1
            subst h3 g3
            (repeat' (first | refine W.mv ?_ | refine W.zl ?_ | refine W.fa ?_ | refine W.nl ?_ | refine W.as ?_ | refine W.zb ?_ | refine W.za ?_ | refine W.zi ?_ | refine W.zc ?_ | refine W.zp ?_ | refine W.st ?_ | refine SL.nilB ?_ | refine SL.nil ?_ | refine W.al fun b_ => ?_ | refine W.bx fun b_ => ?_ | refine W.bxa fun b_ => ?_ | refine W.sw ?_ | refine W.sa ?_ | refine W.sk ?_ | refine W.bs0 fun b_ => ?_ | refine W.ma fun b_ => ?_ | refine W.bsl fun b_ => ?_ | refine W.zu ?_ | refine W.zf ?_ | refine W.zd ?_ | refine W.zs ?_ | refine W.zv ?_ | refine W.zx ?_ | refine W.ex ?_ | refine W.mf ?_ | refine W.mk ?_ | refine SW.seq ?_ | refine SW.region ?_ | refine SW.block ?_ | refine SW.cond_t rfl ?_ | refine SW.cond_f rfl ?_ | refine SW.exit ?_ | refine SW.ret ?_ | refine SW.skip ?_))
            refine SW.loopG [0, 1, 5, 6, 8, 9, 61] [] (fun d : Nat => [(62, .int .i64 (d : Int))]) (fun _ => []) (fun d => D - d) (fun d => d ≤ D) 0 (Nat.zero_le _) ?_
            intro d hd
            by_cases hdD : d < D
            · obtain ⟨y, hy⟩ : ∃ y, P[d]? = some y := ⟨_, List.getElem?_eq_getElem (by omega)⟩
              have hy32 := hpr y (List.mem_of_getElem? hy)
              have hcy := cl32 hy32
              have hg1 := cbs_getJ (junk := pj) hpr hy
              have hg2 := cbs_getJ (junk := qj) hpr hy
              (repeat' (first | refine W.mv ?_ | refine W.zl ?_ | refine W.fa ?_ | refine W.nl ?_ | refine W.as ?_ | refine W.zb ?_ | refine W.za ?_ | refine W.zi ?_ | refine W.zc ?_ | refine W.zp ?_ | refine W.st ?_ | refine SL.nilB ?_ | refine SL.nil ?_ | refine W.al fun b_ => ?_ | refine W.bx fun b_ => ?_ | refine W.bxa fun b_ => ?_ | refine W.sw ?_ | refine W.sa ?_ | refine W.sk ?_ | refine W.bs0 fun b_ => ?_ | refine W.ma fun b_ => ?_ | refine W.bsl fun b_ => ?_ | refine W.zu ?_ | refine W.zf ?_ | refine W.zd ?_ | refine W.zs ?_ | refine W.zv ?_ | refine W.zx ?_ | refine W.ex ?_ | refine W.mf ?_ | refine W.mk ?_ | refine SW.seq ?_ | refine SW.region ?_ | refine SW.block ?_ | refine SW.cond_t rfl ?_ | refine SW.cond_f rfl ?_ | refine SW.exit ?_ | refine SW.ret ?_ | refine SW.skip ?_))
              (refine SW.regionS [] ?_ (by kernel_rfl); refine SS.tw 0 rfl (p_move rfl rfl) ?_; refine SS.tw 1 rfl (p_move rfl rfl) ?_; (first | refine SS.tw 2 rfl (p_ix rfl rfl rfl (by omega)) ?_ | refine SS.tw 2 rfl (p_ixa rfl rfl rfl (by omega)) ?_); (first | refine SS.lw 3 [] rfl ?_ | refine SS.la 3 [] rfl ?_ | refine SS.tw 3 rfl (p_load_aR rfl rfl (by assumption) (by assumption) (by assumption) (by assumption)) ?_); refine SS.tw 4 rfl (p_move rfl rfl) ?_; refine SS.tw 5 rfl (p_move rfl rfl) ?_; (first | refine SS.tw 6 rfl (p_ix rfl rfl rfl (by omega)) ?_ | refine SS.tw 6 rfl (p_ixa rfl rfl rfl (by omega)) ?_); (first | refine SS.lw 7 [] rfl ?_ | refine SS.la 7 [] rfl ?_ | refine SS.tw 7 rfl (p_load_aR rfl rfl (by assumption) (by assumption) (by assumption) (by assumption)) ?_); refine SS.tw 8 rfl (p_neA_f rfl rfl rfl hy32 rfl) ?_; refine SS.done ?_ (by kernel_rfl))
              (repeat' (first | refine W.mv ?_ | refine W.zl ?_ | refine W.fa ?_ | refine W.nl ?_ | refine W.as ?_ | refine W.zb ?_ | refine W.za ?_ | refine W.zi ?_ | refine W.zc ?_ | refine W.zp ?_ | refine W.st ?_ | refine SL.nilB ?_ | refine SL.nil ?_ | refine W.al fun b_ => ?_ | refine W.bx fun b_ => ?_ | refine W.bxa fun b_ => ?_ | refine W.sw ?_ | refine W.sa ?_ | refine W.sk ?_ | refine W.bs0 fun b_ => ?_ | refine W.ma fun b_ => ?_ | refine W.bsl fun b_ => ?_ | refine W.zu ?_ | refine W.zf ?_ | refine W.zd ?_ | refine W.zs ?_ | refine W.zv ?_ | refine W.zx ?_ | refine W.ex ?_ | refine W.mf ?_ | refine W.mk ?_ | refine SW.seq ?_ | refine SW.region ?_ | refine SW.block ?_ | refine SW.cond_t rfl ?_ | refine SW.cond_f rfl ?_ | refine SW.exit ?_ | refine SW.ret ?_ | refine SW.skip ?_))
              refine HandF.mk (d + 1) ?_
              omega
            · have hd2 : d = D := by omega
              subst hd2
              (repeat' (first | refine W.mv ?_ | refine W.zl ?_ | refine W.fa ?_ | refine W.nl ?_ | refine W.as ?_ | refine W.zb ?_ | refine W.za ?_ | refine W.zi ?_ | refine W.zc ?_ | refine W.zp ?_ | refine W.st ?_ | refine SL.nilB ?_ | refine SL.nil ?_ | refine W.al fun b_ => ?_ | refine W.bx fun b_ => ?_ | refine W.bxa fun b_ => ?_ | refine W.sw ?_ | refine W.sa ?_ | refine W.sk ?_ | refine W.bs0 fun b_ => ?_ | refine W.ma fun b_ => ?_ | refine W.bsl fun b_ => ?_ | refine W.zu ?_ | refine W.zf ?_ | refine W.zd ?_ | refine W.zs ?_ | refine W.zv ?_ | refine W.zx ?_ | refine W.ex ?_ | refine W.mf ?_ | refine W.mk ?_ | refine SW.seq ?_ | refine SW.region ?_ | refine SW.block ?_ | refine SW.cond_t rfl ?_ | refine SW.cond_f rfl ?_ | refine SW.exit ?_ | refine SW.ret ?_ | refine SW.skip ?_))
              exact CutF.mk () trivial
      rintro _ -
      (repeat' (first | refine W.mv ?_ | refine W.zl ?_ | refine W.fa ?_ | refine W.nl ?_ | refine W.as ?_ | refine W.zb ?_ | refine W.za ?_ | refine W.zi ?_ | refine W.zc ?_ | refine W.zp ?_ | refine W.st ?_ | refine SL.nilB ?_ | refine SL.nil ?_ | refine W.al fun b_ => ?_ | refine W.bx fun b_ => ?_ | refine W.bxa fun b_ => ?_ | refine W.sw ?_ | refine W.sa ?_ | refine W.sk ?_ | refine W.bs0 fun b_ => ?_ | refine W.ma fun b_ => ?_ | refine W.bsl fun b_ => ?_ | refine W.zu ?_ | refine W.zf ?_ | refine W.zd ?_ | refine W.zs ?_ | refine W.zv ?_ | refine W.zx ?_ | refine W.ex ?_ | refine W.mf ?_ | refine W.mk ?_ | refine SW.seq ?_ | refine SW.region ?_ | refine SW.block ?_ | refine SW.cond_t rfl ?_ | refine SW.cond_f rfl ?_ | refine SW.exit ?_ | refine SW.ret ?_ | refine SW.skip ?_))
      refine W.call hAt ?_
      rintro _ _ ⟨rfl, rfl⟩
      (repeat' (first | refine W.mv ?_ | refine W.zl ?_ | refine W.fa ?_ | refine W.nl ?_ | refine W.as ?_ | refine W.zb ?_ | refine W.za ?_ | refine W.zi ?_ | refine W.zc ?_ | refine W.zp ?_ | refine W.st ?_ | refine SL.nilB ?_ | refine SL.nil ?_ | refine W.al fun b_ => ?_ | refine W.bx fun b_ => ?_ | refine W.bxa fun b_ => ?_ | refine W.sw ?_ | refine W.sa ?_ | refine W.sk ?_ | refine W.bs0 fun b_ => ?_ | refine W.ma fun b_ => ?_ | refine W.bsl fun b_ => ?_ | refine W.zu ?_ | refine W.zf ?_ | refine W.zd ?_ | refine W.zs ?_ | refine W.zv ?_ | refine W.zx ?_ | refine W.ex ?_ | refine W.mf ?_ | refine W.mk ?_ | refine SW.seq ?_ | refine SW.region ?_ | refine SW.block ?_ | refine SW.cond_t rfl ?_ | refine SW.cond_f rfl ?_ | refine SW.exit ?_ | refine SW.ret ?_ | refine SW.skip ?_))
      refine W.call hUp ?_ rfl (fun w2 hs => Rd.own (Hc := B1) hpv hs inferInstance)
      rintro _ B2 ⟨rfl, s2, hB2⟩
      (repeat' (first | refine W.mv ?_ | refine W.zl ?_ | refine W.fa ?_ | refine W.nl ?_ | refine W.as ?_ | refine W.zb ?_ | refine W.za ?_ | refine W.zi ?_ | refine W.zc ?_ | refine W.zp ?_ | refine W.st ?_ | refine SL.nilB ?_ | refine SL.nil ?_ | refine W.al fun b_ => ?_ | refine W.bx fun b_ => ?_ | refine W.bxa fun b_ => ?_ | refine W.sw ?_ | refine W.sa ?_ | refine W.sk ?_ | refine W.bs0 fun b_ => ?_ | refine W.ma fun b_ => ?_ | refine W.bsl fun b_ => ?_ | refine W.zu ?_ | refine W.zf ?_ | refine W.zd ?_ | refine W.zs ?_ | refine W.zv ?_ | refine W.zx ?_ | refine W.ex ?_ | refine W.mf ?_ | refine W.mk ?_ | refine SW.seq ?_ | refine SW.region ?_ | refine SW.block ?_ | refine SW.cond_t rfl ?_ | refine SW.cond_f rfl ?_ | refine SW.exit ?_ | refine SW.ret ?_ | refine SW.skip ?_))
      (refine SW.regionS [9] ?_ (by kernel_rfl); refine SS.tw 0 rfl (p_move rfl rfl) ?_; (first | refine SS.tw 1 rfl (Pu.t (p_cmp rfl rfl rfl rfl) (by dsimp only [cmpP]; first | done | omega)) ?_; refine SS.tw 2 rfl (p_move rfl rfl) ?_; (first | refine SS.sk 3 rfl ?_ | refine SS.lw 3 [6, 7, 8, 9] rfl ?_ | refine SS.la 3 [6, 7, 8, 9] rfl ?_ | refine SS.tw 3 rfl (p_load_aR rfl rfl (by assumption) (by assumption) (by assumption) (by assumption)) ?_); (first | refine SS.sk 4 rfl ?_ | refine SS.tw 4 rfl (p_move rfl rfl) ?_); (first | refine SS.sk 5 rfl ?_; (first | refine SS.sk 6 rfl ?_ | refine SS.tw 6 rfl (p_eqA_t rfl rfl rfl hr rfl) ?_); (first | refine SS.tw 7 rfl (p_pick_t rfl rfl rfl) ?_ | refine SS.tw 7 rfl (p_pick_f rfl rfl rfl) ?_); refine SS.tw 8 rfl (p_move rfl rfl) ?_; (first | refine SS.sk 9 rfl ?_; (first | refine SS.tw 10 rfl (p_pick_t rfl rfl rfl) ?_ | refine SS.tw 10 rfl (p_pick_f rfl rfl rfl) ?_); refine SS.tw 11 rfl (p_assign rfl rfl) ?_; refine SS.done ?_ (by kernel_rfl) | refine SS.effB 9 ?_ rfl (by kernel_rfl)) | refine SS.effK 5 ?_ rfl (by kernel_rfl)) | refine SS.tw 1 rfl (Pu.f (p_cmp rfl rfl rfl rfl) (by dsimp only [cmpP]; first | done | omega)) ?_; refine SS.tw 2 rfl (p_move rfl rfl) ?_; (first | refine SS.sk 3 rfl ?_ | refine SS.lw 3 [6, 7, 8, 9] rfl ?_ | refine SS.la 3 [6, 7, 8, 9] rfl ?_ | refine SS.tw 3 rfl (p_load_aR rfl rfl (by assumption) (by assumption) (by assumption) (by assumption)) ?_); (first | refine SS.sk 4 rfl ?_ | refine SS.tw 4 rfl (p_move rfl rfl) ?_); (first | refine SS.sk 5 rfl ?_; (first | refine SS.sk 6 rfl ?_ | refine SS.tw 6 rfl (p_eqA_t rfl rfl rfl hr rfl) ?_); (first | refine SS.tw 7 rfl (p_pick_t rfl rfl rfl) ?_ | refine SS.tw 7 rfl (p_pick_f rfl rfl rfl) ?_); refine SS.tw 8 rfl (p_move rfl rfl) ?_; (first | refine SS.sk 9 rfl ?_; (first | refine SS.tw 10 rfl (p_pick_t rfl rfl rfl) ?_ | refine SS.tw 10 rfl (p_pick_f rfl rfl rfl) ?_); refine SS.tw 11 rfl (p_assign rfl rfl) ?_; refine SS.done ?_ (by kernel_rfl) | refine SS.effB 9 ?_ rfl (by kernel_rfl)) | refine SS.effK 5 ?_ rfl (by kernel_rfl)) | (refine SS.cs 1 rfl (p_cmp rfl rfl rfl rfl) (fun h_ => ?_) (fun h_ => ?_) <;> dsimp only [cmpP] at h_ <;> (refine SS.tw 2 rfl (p_move rfl rfl) ?_; (first | refine SS.sk 3 rfl ?_ | refine SS.lw 3 [6, 7, 8, 9] rfl ?_ | refine SS.la 3 [6, 7, 8, 9] rfl ?_ | refine SS.tw 3 rfl (p_load_aR rfl rfl (by assumption) (by assumption) (by assumption) (by assumption)) ?_); (first | refine SS.sk 4 rfl ?_ | refine SS.tw 4 rfl (p_move rfl rfl) ?_); (first | refine SS.sk 5 rfl ?_; (first | refine SS.sk 6 rfl ?_ | refine SS.tw 6 rfl (p_eqA_t rfl rfl rfl hr rfl) ?_); (first | refine SS.tw 7 rfl (p_pick_t rfl rfl rfl) ?_ | refine SS.tw 7 rfl (p_pick_f rfl rfl rfl) ?_); refine SS.tw 8 rfl (p_move rfl rfl) ?_; (first | refine SS.sk 9 rfl ?_; (first | refine SS.tw 10 rfl (p_pick_t rfl rfl rfl) ?_ | refine SS.tw 10 rfl (p_pick_f rfl rfl rfl) ?_); refine SS.tw 11 rfl (p_assign rfl rfl) ?_; refine SS.done ?_ (by kernel_rfl) | refine SS.effB 9 ?_ rfl (by kernel_rfl)) | refine SS.effK 5 ?_ rfl (by kernel_rfl))))))
      refine W.call (hRoot s2 B2 hB2) ?_
      rintro _ _ ⟨B3, rfl, rfl, hB3⟩
      (refine SL.nilB ?_; (first | refine SS.sk 6 rfl ?_ | refine SS.tw 6 rfl (p_eqA_t rfl rfl rfl hr rfl) ?_); (first | refine SS.tw 7 rfl (p_pick_t rfl rfl rfl) ?_ | refine SS.tw 7 rfl (p_pick_f rfl rfl rfl) ?_); refine SS.tw 8 rfl (p_move rfl rfl) ?_; (first | refine SS.sk 9 rfl ?_; (first | refine SS.tw 10 rfl (p_pick_t rfl rfl rfl) ?_ | refine SS.tw 10 rfl (p_pick_f rfl rfl rfl) ?_); refine SS.tw 11 rfl (p_assign rfl rfl) ?_; refine SS.done ?_ (by kernel_rfl) | refine SS.effB 9 ?_ rfl (by kernel_rfl)))
      refine W.call awake12_p ?_
      rintro _ _ ⟨rfl, rfl⟩
      (refine SL.nilB ?_; (first | refine SS.tw 10 rfl (p_pick_t rfl rfl rfl) ?_ | refine SS.tw 10 rfl (p_pick_f rfl rfl rfl) ?_); refine SS.tw 11 rfl (p_assign rfl rfl) ?_; refine SS.done ?_ (by kernel_rfl))
      (repeat' (first | refine W.mv ?_ | refine W.zl ?_ | refine W.fa ?_ | refine W.nl ?_ | refine W.as ?_ | refine W.zb ?_ | refine W.za ?_ | refine W.zi ?_ | refine W.zc ?_ | refine W.zp ?_ | refine W.st ?_ | refine SL.nilB ?_ | refine SL.nil ?_ | refine W.al fun b_ => ?_ | refine W.bx fun b_ => ?_ | refine W.bxa fun b_ => ?_ | refine W.sw ?_ | refine W.sa ?_ | refine W.sk ?_ | refine W.bs0 fun b_ => ?_ | refine W.ma fun b_ => ?_ | refine W.bsl fun b_ => ?_ | refine W.zu ?_ | refine W.zf ?_ | refine W.zd ?_ | refine W.zs ?_ | refine W.zv ?_ | refine W.zx ?_ | refine W.ex ?_ | refine W.mf ?_ | refine W.mk ?_ | refine SW.seq ?_ | refine SW.region ?_ | refine SW.block ?_ | refine SW.cond_t rfl ?_ | refine SW.cond_f rfl ?_ | refine SW.exit ?_ | refine SW.ret ?_ | refine SW.skip ?_))
      refine Fin.to [] ?_
      exact F.f1 rfl
    · have hpo : pathOf L k = [] := by unfold pathOf; rw [if_neg hk]
      rw [hpo] at hpv
      obtain ⟨pa, pl, pc, rfl, hpl⟩ := hpv.form
      obtain rfl : pl = 0 := by simp at hpl; omega
      rcases (show k < 0 ∨ (0 ≤ k ∧ (L.length : Int) ≤ k) by omega) with h | ⟨h1, h2⟩
      all_goals
        (repeat' (first | refine W.mv ?_ | refine W.zl ?_ | refine W.fa ?_ | refine W.nl ?_ | refine W.as ?_ | refine W.zb ?_ | refine W.za ?_ | refine W.zi ?_ | refine W.zc ?_ | refine W.zp ?_ | refine W.st ?_ | refine SL.nilB ?_ | refine SL.nil ?_ | refine W.al fun b_ => ?_ | refine W.bx fun b_ => ?_ | refine W.bxa fun b_ => ?_ | refine W.sw ?_ | refine W.sa ?_ | refine W.sk ?_ | refine W.bs0 fun b_ => ?_ | refine W.ma fun b_ => ?_ | refine W.bsl fun b_ => ?_ | refine W.zu ?_ | refine W.zf ?_ | refine W.zd ?_ | refine W.zs ?_ | refine W.zv ?_ | refine W.zx ?_ | refine W.ex ?_ | refine W.mf ?_ | refine W.mk ?_ | refine SW.seq ?_ | refine SW.region ?_ | refine SW.block ?_ | refine SW.cond_t rfl ?_ | refine SW.cond_f rfl ?_ | refine SW.exit ?_ | refine SW.ret ?_ | refine SW.skip ?_))
        refine W.call awake12_p ?_
        rintro _ _ ⟨rfl, rfl⟩
        (repeat' (first | refine W.mv ?_ | refine W.zl ?_ | refine W.fa ?_ | refine W.nl ?_ | refine W.as ?_ | refine W.zb ?_ | refine W.za ?_ | refine W.zi ?_ | refine W.zc ?_ | refine W.zp ?_ | refine W.st ?_ | refine SL.nilB ?_ | refine SL.nil ?_ | refine W.al fun b_ => ?_ | refine W.bx fun b_ => ?_ | refine W.bxa fun b_ => ?_ | refine W.sw ?_ | refine W.sa ?_ | refine W.sk ?_ | refine W.bs0 fun b_ => ?_ | refine W.ma fun b_ => ?_ | refine W.bsl fun b_ => ?_ | refine W.zu ?_ | refine W.zf ?_ | refine W.zd ?_ | refine W.zs ?_ | refine W.zv ?_ | refine W.zx ?_ | refine W.ex ?_ | refine W.mf ?_ | refine W.mk ?_ | refine SW.seq ?_ | refine SW.region ?_ | refine SW.block ?_ | refine SW.cond_t rfl ?_ | refine SW.cond_f rfl ?_ | refine SW.exit ?_ | refine SW.ret ?_ | refine SW.skip ?_))
        refine Fin.to [] ?_
        exact F.f1 rfl
end Go.Proofs.Ytieamijnajbcnaa
