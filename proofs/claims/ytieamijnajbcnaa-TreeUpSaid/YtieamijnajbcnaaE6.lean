/- The root that a leaf and a path lead to is as the chapter says, or there is none. -/
import Derived.Test.YtieamijnajbcnaaE3
set_option linter.unusedVariables false
set_option linter.unusedSimpArgs false
namespace Go.Proofs.Ytieamijnajbcnaa
open Go
attribute [local irreducible] SW SL SQ SH SA SS Pu Fin CutF HandF

set_option maxHeartbeats 4000000 in
theorem up_law (n k : Int) (x : List UInt8) (hx : x.length = 32) (p : List (List UInt8)) (hp : D32 p) (v : Value) : Tri Try.prog 7 [.int .i64 n, .int .i64 k, dgV x, v] [] (fun w => Rd [] w 32 v (cbs p.flatten)) (fun r _ => r = .bool true) := by
  refine Tri.mk Try.func7 rfl Try.ntmps7 rfl fun w hw => ?_
  obtain ⟨a, cap, rfl, hcap, hg0⟩ := hw.row hp
  have hw2 := hw.preN 12 hp
  have hP : D32 (p.take 12) := fun x hx => hp x (List.mem_of_mem_take hx)
  have hP12 : (p.take 12).length ≤ 12 := by rw [List.length_take]; omega
  have hPl : (p.take 12).length = min 12 p.length := List.length_take ..
  rw [← hPl] at hw2
  have hcx := cl32 hx
  obtain ⟨X, e, hX32, hXe, hUp⟩ : ∃ (X : List UInt8) (e : Int), X.length = 32 ∧ ((upOk n k (p.take 12) ∧ e = 0 ∧ X = upV n.toNat k.toNat x (p.take 12)) ∨ (¬ upOk n k (p.take 12) ∧ e = 1 ∧ X = z32)) ∧ ∀ (b tp : Nat) (Hb : Hp) (hB : BookP b tp Bk.new Hb) (pv : Value), Tri Try.prog 30 [.pointer (some ⟨b, 0, none⟩), .int .i64 n, .int .i64 k, dgV x, pv] Hb (fun w => Rd (Hb.map Prod.fst) w 32 pv (cbs (p.take 12).flatten)) (fun r H' => r = .tuple #[dgV X, .int .i64 e]) := by
    by_cases hok : upOk n k (p.take 12)
    · have hok2 := hok
      obtain ⟨h1, h2, h3, h4, h5⟩ := hok2
      obtain ⟨m, rfl⟩ : ∃ m : Nat, n = (m : Int) := ⟨n.toNat, by omega⟩
      obtain ⟨j, rfl⟩ : ∃ j : Nat, k = (j : Int) := ⟨k.toNat, by omega⟩
      exact ⟨_, 0, Sha.sum_len _, .inl ⟨hok, rfl, rfl⟩, fun b tp Hb hB pv => (Up_p hB m j x pv _ hx hP hok).mono fun r H' h => h.1⟩
    · exact ⟨z32, 1, rfl, .inr ⟨hok, rfl, rfl⟩, fun b tp Hb hB pv => (Up_bad n k x pv _ hx hP hok).mono fun r H' h => h.1⟩
  have hcX := cl32 hX32
  have hz : (List.replicate 32 (Value.int .u8 0)).length = 32 := rfl
  by_cases hc12 : 12 < p.length
  case' pos =>
    obtain ⟨pb0, po0, -, -, -, rfl, -⟩ := hg0 0 _ (List.getElem?_eq_getElem (by omega))
    rw [Nat.min_eq_left (by omega)] at hPl
    (repeat' (first | refine W.mv ?_ | refine W.zl ?_ | refine W.fa ?_ | refine W.nl ?_ | refine W.as ?_ | refine W.zb ?_ | refine W.za ?_ | refine W.zi ?_ | refine W.zc ?_ | refine W.zp ?_ | refine W.st ?_ | refine SL.nilB ?_ | refine SL.nil ?_ | refine W.al fun b_ => ?_ | refine W.bx fun b_ => ?_ | refine W.bxa fun b_ => ?_ | refine W.sw ?_ | refine W.sa ?_ | refine W.sk ?_ | refine W.bs0 fun b_ => ?_ | refine W.ma fun b_ => ?_ | refine W.bsl fun b_ => ?_ | refine W.zu ?_ | refine W.zf ?_ | refine W.zd ?_ | refine W.zs ?_ | refine W.zv ?_ | refine W.zx ?_ | refine W.ex ?_ | refine W.mf ?_ | refine W.mk ?_ | refine SW.seq ?_ | refine SW.region ?_ | refine SW.block ?_ | refine SW.cond_t rfl ?_ | refine SW.cond_f rfl ?_ | refine SW.exit ?_ | refine SW.ret ?_ | refine SW.skip ?_))
    rw [show Value.slice (some ⟨pb0, po0, none⟩) 12 cap = .slice (some ⟨pb0, po0, none⟩) (p.take 12).length cap by rw [hPl]]
  case' neg =>
    rw [Nat.min_eq_right (by omega)] at hPl
    (repeat' (first | refine W.mv ?_ | refine W.zl ?_ | refine W.fa ?_ | refine W.nl ?_ | refine W.as ?_ | refine W.zb ?_ | refine W.za ?_ | refine W.zi ?_ | refine W.zc ?_ | refine W.zp ?_ | refine W.st ?_ | refine SL.nilB ?_ | refine SL.nil ?_ | refine W.al fun b_ => ?_ | refine W.bx fun b_ => ?_ | refine W.bxa fun b_ => ?_ | refine W.sw ?_ | refine W.sa ?_ | refine W.sk ?_ | refine W.bs0 fun b_ => ?_ | refine W.ma fun b_ => ?_ | refine W.bsl fun b_ => ?_ | refine W.zu ?_ | refine W.zf ?_ | refine W.zd ?_ | refine W.zs ?_ | refine W.zv ?_ | refine W.zx ?_ | refine W.ex ?_ | refine W.mf ?_ | refine W.mk ?_ | refine SW.seq ?_ | refine SW.region ?_ | refine SW.block ?_ | refine SW.cond_t rfl ?_ | refine SW.cond_f rfl ?_ | refine SW.exit ?_ | refine SW.ret ?_ | refine SW.skip ?_))
    rw [← hPl]
  all_goals
    generalize p.take 12 = P at *
    refine SW.cutH [0, 1, 3, 6] [] (fun y : Nat => [(9, .pointer (some ⟨y, 0, none⟩)), (10, .int .i64 e)]) (fun y => [(y, cl (cbs X) 25)]) (fun _ => True) ?_ ?_
    · (refine SW.regionS [] ?_ (by kernel_rfl); refine SS.tw 1 rfl (p_move rfl rfl) ?_; refine SS.tw 2 rfl (p_move rfl rfl) ?_; (first | refine SS.lw 3 [] rfl ?_ | refine SS.la 3 [] rfl ?_ | refine SS.tw 3 rfl (p_load_aR rfl rfl (by assumption) (by assumption) (by assumption) (by assumption)) ?_); refine SS.tw 4 rfl (p_move rfl rfl) ?_; skip /- [0, 10] are ready -/)
      refine SS.twoK 0 10 ?_ ?_ rfl rfl
      · refine W.call Book_p ?_
        rintro _ B0 ⟨b, tp, rfl, hB⟩
        refine SL.nilB ?_
        refine SS.twoK 5 10 ?_ ?_ rfl rfl
        · refine W.call (digests_p P hP _ (by omega)) ?_ rfl (fun w2 hs => hw2.ro (Hc := []) hs)
          intro dv Hd hdv
          have hd1 := hdv.isOne
          refine SL.nilB ?_
          refine SS.twoK 6 10 ?_ ?_ rfl rfl
          · refine W.call (hUp b tp B0 hB _) ?_ rfl (fun w2 hs => Rd.own (Hc := B0) hdv hs inferInstance)
            rintro _ B1 rfl
            (refine SL.nilB ?_; refine SS.tw 7 rfl (p_move rfl rfl) ?_; refine SS.tw 8 rfl (p_ext rfl rfl rfl) ?_; refine SS.tw 9 rfl (p_ext rfl rfl rfl) ?_; refine SS.effK 10 ?_ rfl (by kernel_rfl); (repeat' (first | refine W.mv ?_ | refine W.zl ?_ | refine W.fa ?_ | refine W.nl ?_ | refine W.as ?_ | refine W.zb ?_ | refine W.za ?_ | refine W.zi ?_ | refine W.zc ?_ | refine W.zp ?_ | refine W.st ?_ | refine SL.nilB ?_ | refine SL.nil ?_ | refine W.al fun b_ => ?_ | refine W.bx fun b_ => ?_ | refine W.bxa fun b_ => ?_ | refine W.sw ?_ | refine W.sa ?_ | refine W.sk ?_ | refine W.bs0 fun b_ => ?_ | refine W.ma fun b_ => ?_ | refine W.bsl fun b_ => ?_ | refine W.zu ?_ | refine W.zf ?_ | refine W.zd ?_ | refine W.zs ?_ | refine W.zv ?_ | refine W.zx ?_ | refine W.ex ?_ | refine W.mf ?_ | refine W.mk ?_)); refine SS.effK 11 ?_ rfl (by kernel_rfl); (repeat' (first | refine W.mv ?_ | refine W.zl ?_ | refine W.fa ?_ | refine W.nl ?_ | refine W.as ?_ | refine W.zb ?_ | refine W.za ?_ | refine W.zi ?_ | refine W.zc ?_ | refine W.zp ?_ | refine W.st ?_ | refine SL.nilB ?_ | refine SL.nil ?_ | refine W.al fun b_ => ?_ | refine W.bx fun b_ => ?_ | refine W.bxa fun b_ => ?_ | refine W.sw ?_ | refine W.sa ?_ | refine W.sk ?_ | refine W.bs0 fun b_ => ?_ | refine W.ma fun b_ => ?_ | refine W.bsl fun b_ => ?_ | refine W.zu ?_ | refine W.zf ?_ | refine W.zd ?_ | refine W.zs ?_ | refine W.zv ?_ | refine W.zx ?_ | refine W.ex ?_ | refine W.mf ?_ | refine W.mk ?_)); refine SS.tw 12 rfl (p_assign rfl rfl) ?_; refine SS.done ?_ (by kernel_rfl))
            exact CutF.mk b_ trivial
          · refine W.al fun b9 => ?_
            refine SL.nilB ?_
            refine SS.effK 6 ?_ rfl (by kernel_rfl)
            refine W.call (hUp b tp B0 hB _) ?_ rfl (fun w2 hs => Rd.own (Hc := B0) hdv hs inferInstance)
            rintro _ B1 rfl
            refine SL.nilB ?_
            refine SS.tw 7 rfl (p_move rfl rfl) ?_
            refine SS.tw 8 rfl (p_ext rfl rfl rfl) ?_
            refine SS.tw 9 rfl (p_ext rfl rfl rfl) ?_
            refine SS.effK 11 ?_ rfl (by kernel_rfl)
            refine W.sw ?_
            refine SL.nilB ?_
            refine SS.tw 12 rfl (p_assign rfl rfl) ?_
            refine SS.done ?_ (by kernel_rfl)
            exact CutF.mk b9 trivial
        · refine W.al fun b9 => ?_
          refine SL.nilB ?_
          refine SS.effK 5 ?_ rfl (by kernel_rfl)
          refine W.call (digests_p P hP _ (by omega)) ?_ rfl (fun w2 hs => hw2.ro (Hc := []) hs)
          intro dv Hd hdv
          have hd1 := hdv.isOne
          refine SL.nilB ?_
          refine SS.effK 6 ?_ rfl (by kernel_rfl)
          refine W.call (hUp b tp B0 hB _) ?_ rfl (fun w2 hs => Rd.own (Hc := B0) hdv hs inferInstance)
          rintro _ B1 rfl
          refine SL.nilB ?_
          refine SS.tw 7 rfl (p_move rfl rfl) ?_
          refine SS.tw 8 rfl (p_ext rfl rfl rfl) ?_
          refine SS.tw 9 rfl (p_ext rfl rfl rfl) ?_
          refine SS.effK 11 ?_ rfl (by kernel_rfl)
          refine W.sw ?_
          refine SL.nilB ?_
          refine SS.tw 12 rfl (p_assign rfl rfl) ?_
          refine SS.done ?_ (by kernel_rfl)
          exact CutF.mk b9 trivial
      · refine W.al fun b9 => ?_
        refine SL.nilB ?_
        refine SS.effK 0 ?_ rfl (by kernel_rfl)
        refine W.call Book_p ?_
        rintro _ B0 ⟨b, tp, rfl, hB⟩
        refine SL.nilB ?_
        refine SS.effK 5 ?_ rfl (by kernel_rfl)
        refine W.call (digests_p P hP _ (by omega)) ?_ rfl (fun w2 hs => hw2.ro (Hc := []) hs)
        intro dv Hd hdv
        have hd1 := hdv.isOne
        refine SL.nilB ?_
        refine SS.effK 6 ?_ rfl (by kernel_rfl)
        refine W.call (hUp b tp B0 hB _) ?_ rfl (fun w2 hs => Rd.own (Hc := B0) hdv hs inferInstance)
        rintro _ B1 rfl
        refine SL.nilB ?_
        refine SS.tw 7 rfl (p_move rfl rfl) ?_
        refine SS.tw 8 rfl (p_ext rfl rfl rfl) ?_
        refine SS.tw 9 rfl (p_ext rfl rfl rfl) ?_
        refine SS.effK 11 ?_ rfl (by kernel_rfl)
        refine W.sw ?_
        refine SL.nilB ?_
        refine SS.tw 12 rfl (p_assign rfl rfl) ?_
        refine SS.done ?_ (by kernel_rfl)
        exact CutF.mk b9 trivial
    rintro b9 -
    rcases hXe with ⟨hok, rfl, rfl⟩ | ⟨hbad, rfl, rfl⟩
    · obtain ⟨h1, h2, h3, h4, h5⟩ := hok
      obtain ⟨m, rfl⟩ : ∃ m : Nat, n = (m : Int) := ⟨n.toNat, by omega⟩
      obtain ⟨j, rfl⟩ : ∃ j : Nat, k = (j : Int) := ⟨k.toNat, by omega⟩
      rw [Int.toNat_natCast] at h5
      simp only [Int.toNat_natCast] at hX32 hcX ⊢
      have hinv := upTo_inv j hx P
      have hdp := rdepth_p m (by omega)
      rw [← h5] at hdp
      obtain ⟨a', cap', he, hcap2, hg⟩ := hw2.row hP
      cases he
      (repeat' (first | refine W.mv ?_ | refine W.zl ?_ | refine W.fa ?_ | refine W.nl ?_ | refine W.as ?_ | refine W.zb ?_ | refine W.za ?_ | refine W.zi ?_ | refine W.zc ?_ | refine W.zp ?_ | refine W.st ?_ | refine SL.nilB ?_ | refine SL.nil ?_ | refine W.al fun b_ => ?_ | refine W.bx fun b_ => ?_ | refine W.bxa fun b_ => ?_ | refine W.sw ?_ | refine W.sa ?_ | refine W.sk ?_ | refine W.bs0 fun b_ => ?_ | refine W.ma fun b_ => ?_ | refine W.bsl fun b_ => ?_ | refine W.zu ?_ | refine W.zf ?_ | refine W.zd ?_ | refine W.zs ?_ | refine W.zv ?_ | refine W.zx ?_ | refine W.ex ?_ | refine W.mf ?_ | refine W.mk ?_ | refine SW.seq ?_ | refine SW.region ?_ | refine SW.block ?_ | refine SW.cond_t rfl ?_ | refine SW.cond_f rfl ?_ | refine SW.exit ?_ | refine SW.ret ?_ | refine SW.skip ?_))
      refine W.call hdp ?_
      rintro _ _ ⟨rfl, rfl⟩
      (repeat' (first | refine W.mv ?_ | refine W.zl ?_ | refine W.fa ?_ | refine W.nl ?_ | refine W.as ?_ | refine W.zb ?_ | refine W.za ?_ | refine W.zi ?_ | refine W.zc ?_ | refine W.zp ?_ | refine W.st ?_ | refine SL.nilB ?_ | refine SL.nil ?_ | refine W.al fun b_ => ?_ | refine W.bx fun b_ => ?_ | refine W.bxa fun b_ => ?_ | refine W.sw ?_ | refine W.sa ?_ | refine W.sk ?_ | refine W.bs0 fun b_ => ?_ | refine W.ma fun b_ => ?_ | refine W.bsl fun b_ => ?_ | refine W.zu ?_ | refine W.zf ?_ | refine W.zd ?_ | refine W.zs ?_ | refine W.zv ?_ | refine W.zx ?_ | refine W.ex ?_ | refine W.mf ?_ | refine W.mk ?_ | refine SW.seq ?_ | refine SW.region ?_ | refine SW.cond_t rfl ?_ | refine SW.cond_f rfl ?_ | refine SW.exit ?_ | refine SW.ret ?_ | refine SW.skip ?_))
      refine SW.cut [0, 6, 9, 10] [b_] (fun _ : Unit => []) (fun _ => [(b_, cl (cbs (upTo j x P P.length).2.2) 24)]) (fun _ => True) ?_ ?_
      · (repeat' (first | refine W.mv ?_ | refine W.zl ?_ | refine W.fa ?_ | refine W.nl ?_ | refine W.as ?_ | refine W.zb ?_ | refine W.za ?_ | refine W.zi ?_ | refine W.zc ?_ | refine W.zp ?_ | refine W.st ?_ | refine SL.nilB ?_ | refine SL.nil ?_ | refine W.al fun b_ => ?_ | refine W.bx fun b_ => ?_ | refine W.bxa fun b_ => ?_ | refine W.sw ?_ | refine W.sa ?_ | refine W.sk ?_ | refine W.bs0 fun b_ => ?_ | refine W.ma fun b_ => ?_ | refine W.bsl fun b_ => ?_ | refine W.zu ?_ | refine W.zf ?_ | refine W.zd ?_ | refine W.zs ?_ | refine W.zv ?_ | refine W.zx ?_ | refine W.ex ?_ | refine W.mf ?_ | refine W.mk ?_ | refine SW.seq ?_ | refine SW.region ?_ | refine SW.block ?_ | refine SW.cond_t rfl ?_ | refine SW.cond_f rfl ?_ | refine SW.exit ?_ | refine SW.ret ?_ | refine SW.skip ?_))
        refine SW.loopF [0, 6, 9, 10, 62, 63] (fun y : Nat × Nat × List UInt8 => [(11, .int .i64 (y.2.1 : Int)), (64, .int .i64 (y.1 : Int))]) (fun y => [(b_, cl (cbs y.2.2) 24)]) (fun y => P.length - y.1) (fun y => y.1 ≤ P.length ∧ upTo j x P y.1 = y) (0, j, x) ⟨Nat.zero_le _, rfl⟩ ?_
        rintro ⟨d, J, Z⟩ ⟨hd, hup⟩
        dsimp only at hd hup ⊢
        obtain ⟨e1, e2, e3⟩ := hinv d hd
        rw [hup] at e2 e3
        dsimp only at e2 e3
        have hJj : J ≤ j := by rw [e2]; exact Nat.div_le_self ..
        by_cases hdl : d < P.length
        · obtain ⟨y, hy⟩ : ∃ y, P[d]? = some y := ⟨_, List.getElem?_eq_getElem hdl⟩
          obtain ⟨pb, po, lv, T, fz, hae, hb, hkk, hv⟩ := hg d y hy
          cases hae
          have hy32 := hP y (List.mem_of_getElem? hy)
          have hcy := cl32 hy32
          have hcz := cl32 e3
          have hnext := upTo_next j x hy
          unfold upS at hnext
          rw [hup] at hnext
          dsimp only at hnext
          have hnl : ∀ A B, (cbs (nodeV (d + 1) (J / 2) A B)).length = 32 := fun A B => cl32 (nodeV_len ..)
          clear e1 e2
          by_cases ho : J % 2 = 1
          · rw [if_pos ho] at hnext
            have hn1 := hnl y Z
            (repeat' (first | refine W.mv ?_ | refine W.zl ?_ | refine W.fa ?_ | refine W.nl ?_ | refine W.as ?_ | refine W.zb ?_ | refine W.za ?_ | refine W.zi ?_ | refine W.zc ?_ | refine W.zp ?_ | refine W.st ?_ | refine SL.nilB ?_ | refine SL.nil ?_ | refine W.al fun b_ => ?_ | refine W.bx fun b_ => ?_ | refine W.bxa fun b_ => ?_ | refine W.sw ?_ | refine W.sa ?_ | refine W.sk ?_ | refine W.bs0 fun b_ => ?_ | refine W.ma fun b_ => ?_ | refine W.bsl fun b_ => ?_ | refine W.zu ?_ | refine W.zf ?_ | refine W.zd ?_ | refine W.zs ?_ | refine W.zv ?_ | refine W.zx ?_ | refine W.ex ?_ | refine W.mf ?_ | refine W.mk ?_ | refine SW.seq ?_ | refine SW.region ?_ | refine SW.block ?_ | refine SW.cond_t rfl ?_ | refine SW.cond_f rfl ?_ | refine SW.exit ?_ | refine SW.ret ?_ | refine SW.skip ?_))
            refine W.call (rnode_p (d + 1) (J / 2) _ _ hy32 e3) ?_
            rintro _ _ ⟨rfl, rfl⟩
            (repeat' (first | refine W.mv ?_ | refine W.zl ?_ | refine W.fa ?_ | refine W.nl ?_ | refine W.as ?_ | refine W.zb ?_ | refine W.za ?_ | refine W.zi ?_ | refine W.zc ?_ | refine W.zp ?_ | refine W.st ?_ | refine SL.nilB ?_ | refine SL.nil ?_ | refine W.al fun b_ => ?_ | refine W.bx fun b_ => ?_ | refine W.bxa fun b_ => ?_ | refine W.sw ?_ | refine W.sa ?_ | refine W.sk ?_ | refine W.bs0 fun b_ => ?_ | refine W.ma fun b_ => ?_ | refine W.bsl fun b_ => ?_ | refine W.zu ?_ | refine W.zf ?_ | refine W.zd ?_ | refine W.zs ?_ | refine W.zv ?_ | refine W.zx ?_ | refine W.ex ?_ | refine W.mf ?_ | refine W.mk ?_ | refine SW.seq ?_ | refine SW.region ?_ | refine SW.block ?_ | refine SW.cond_t rfl ?_ | refine SW.cond_f rfl ?_ | refine SW.exit ?_ | refine SW.ret ?_ | refine SW.skip ?_))
            refine HandF.mk (d + 1, J / 2, nodeV (d + 1) (J / 2) y Z) ?_
            exact ⟨hdl, hnext⟩
          · rw [if_neg ho] at hnext
            have hn1 := hnl Z y
            (repeat' (first | refine W.mv ?_ | refine W.zl ?_ | refine W.fa ?_ | refine W.nl ?_ | refine W.as ?_ | refine W.zb ?_ | refine W.za ?_ | refine W.zi ?_ | refine W.zc ?_ | refine W.zp ?_ | refine W.st ?_ | refine SL.nilB ?_ | refine SL.nil ?_ | refine W.al fun b_ => ?_ | refine W.bx fun b_ => ?_ | refine W.bxa fun b_ => ?_ | refine W.sw ?_ | refine W.sa ?_ | refine W.sk ?_ | refine W.bs0 fun b_ => ?_ | refine W.ma fun b_ => ?_ | refine W.bsl fun b_ => ?_ | refine W.zu ?_ | refine W.zf ?_ | refine W.zd ?_ | refine W.zs ?_ | refine W.zv ?_ | refine W.zx ?_ | refine W.ex ?_ | refine W.mf ?_ | refine W.mk ?_ | refine SW.seq ?_ | refine SW.region ?_ | refine SW.block ?_ | refine SW.cond_t rfl ?_ | refine SW.cond_f rfl ?_ | refine SW.exit ?_ | refine SW.ret ?_ | refine SW.skip ?_))
            refine W.call (rnode_p (d + 1) (J / 2) _ _ e3 hy32) ?_
            rintro _ _ ⟨rfl, rfl⟩
            (repeat' (first | refine W.mv ?_ | refine W.zl ?_ | refine W.fa ?_ | refine W.nl ?_ | refine W.as ?_ | refine W.zb ?_ | refine W.za ?_ | refine W.zi ?_ | refine W.zc ?_ | refine W.zp ?_ | refine W.st ?_ | refine SL.nilB ?_ | refine SL.nil ?_ | refine W.al fun b_ => ?_ | refine W.bx fun b_ => ?_ | refine W.bxa fun b_ => ?_ | refine W.sw ?_ | refine W.sa ?_ | refine W.sk ?_ | refine W.bs0 fun b_ => ?_ | refine W.ma fun b_ => ?_ | refine W.bsl fun b_ => ?_ | refine W.zu ?_ | refine W.zf ?_ | refine W.zd ?_ | refine W.zs ?_ | refine W.zv ?_ | refine W.zx ?_ | refine W.ex ?_ | refine W.mf ?_ | refine W.mk ?_ | refine SW.seq ?_ | refine SW.region ?_ | refine SW.block ?_ | refine SW.cond_t rfl ?_ | refine SW.cond_f rfl ?_ | refine SW.exit ?_ | refine SW.ret ?_ | refine SW.skip ?_))
            refine HandF.mk (d + 1, J / 2, nodeV (d + 1) (J / 2) Z y) ?_
            exact ⟨hdl, hnext⟩
        · have hd2 : d = P.length := by omega
          subst hd2
          rw [show Z = (upTo j x P P.length).2.2 by rw [hup]]
          (repeat' (first | refine W.mv ?_ | refine W.zl ?_ | refine W.fa ?_ | refine W.nl ?_ | refine W.as ?_ | refine W.zb ?_ | refine W.za ?_ | refine W.zi ?_ | refine W.zc ?_ | refine W.zp ?_ | refine W.st ?_ | refine SL.nilB ?_ | refine SL.nil ?_ | refine W.al fun b_ => ?_ | refine W.bx fun b_ => ?_ | refine W.bxa fun b_ => ?_ | refine W.sw ?_ | refine W.sa ?_ | refine W.sk ?_ | refine W.bs0 fun b_ => ?_ | refine W.ma fun b_ => ?_ | refine W.bsl fun b_ => ?_ | refine W.zu ?_ | refine W.zf ?_ | refine W.zd ?_ | refine W.zs ?_ | refine W.zv ?_ | refine W.zx ?_ | refine W.ex ?_ | refine W.mf ?_ | refine W.mk ?_ | refine SW.seq ?_ | refine SW.region ?_ | refine SW.block ?_ | refine SW.cond_t rfl ?_ | refine SW.cond_f rfl ?_ | refine SW.exit ?_ | refine SW.ret ?_ | refine SW.skip ?_))
          exact CutF.mk () trivial
      rintro _ -
      obtain ⟨-, -, e3⟩ := hinv P.length (Nat.le_refl _)
      have hcz := cl32 e3
      (repeat' (first | refine W.mv ?_ | refine W.zl ?_ | refine W.fa ?_ | refine W.nl ?_ | refine W.as ?_ | refine W.zb ?_ | refine W.za ?_ | refine W.zi ?_ | refine W.zc ?_ | refine W.zp ?_ | refine W.st ?_ | refine SL.nilB ?_ | refine SL.nil ?_ | refine W.al fun b_ => ?_ | refine W.bx fun b_ => ?_ | refine W.bxa fun b_ => ?_ | refine W.sw ?_ | refine W.sa ?_ | refine W.sk ?_ | refine W.bs0 fun b_ => ?_ | refine W.ma fun b_ => ?_ | refine W.bsl fun b_ => ?_ | refine W.zu ?_ | refine W.zf ?_ | refine W.zd ?_ | refine W.zs ?_ | refine W.zv ?_ | refine W.zx ?_ | refine W.ex ?_ | refine W.mf ?_ | refine W.mk ?_ | refine SW.seq ?_ | refine SW.region ?_ | refine SW.block ?_ | refine SW.cond_t rfl ?_ | refine SW.cond_f rfl ?_ | refine SW.exit ?_ | refine SW.ret ?_ | refine SW.skip ?_))
      (refine SW.regionS [] ?_ (by kernel_rfl); refine SS.tw 0 rfl (p_move rfl rfl) ?_; (first | refine SS.tw 1 rfl (Pu.t (p_cmp rfl rfl rfl rfl) (by dsimp only [cmpP]; first | done | omega)) ?_; refine SS.tw 2 rfl (p_move rfl rfl) ?_; (first | refine SS.sk 3 rfl ?_ | refine SS.lw 3 [] rfl ?_ | refine SS.la 3 [] rfl ?_ | refine SS.tw 3 rfl (p_load_aR rfl rfl (by assumption) (by assumption) (by assumption) (by assumption)) ?_); (first | refine SS.sk 4 rfl ?_ | refine SS.tw 4 rfl (p_move rfl rfl) ?_); (first | refine SS.sk 5 rfl ?_ | refine SS.lw 5 [] rfl ?_ | refine SS.la 5 [] rfl ?_ | refine SS.tw 5 rfl (p_load_aR rfl rfl (by assumption) (by assumption) (by assumption) (by assumption)) ?_); (first | refine SS.sk 6 rfl ?_; (first | refine SS.sk 7 rfl ?_ | refine SS.tw 7 rfl (p_eqA_t rfl rfl rfl hX32 rfl) ?_); (first | refine SS.tw 8 rfl (p_pick_t rfl rfl rfl) ?_ | refine SS.tw 8 rfl (p_pick_f rfl rfl rfl) ?_); refine SS.tw 9 rfl (p_move rfl rfl) ?_; (first | refine SS.sk 10 rfl ?_; (first | refine SS.tw 11 rfl (p_pick_t rfl rfl rfl) ?_ | refine SS.tw 11 rfl (p_pick_f rfl rfl rfl) ?_); refine SS.tw 12 rfl (p_assign rfl rfl) ?_; refine SS.done ?_ (by kernel_rfl) | refine SS.effK 10 ?_ rfl (by kernel_rfl)) | refine SS.effK 6 ?_ rfl (by kernel_rfl)) | refine SS.tw 1 rfl (Pu.f (p_cmp rfl rfl rfl rfl) (by dsimp only [cmpP]; first | done | omega)) ?_; refine SS.tw 2 rfl (p_move rfl rfl) ?_; (first | refine SS.sk 3 rfl ?_ | refine SS.lw 3 [] rfl ?_ | refine SS.la 3 [] rfl ?_ | refine SS.tw 3 rfl (p_load_aR rfl rfl (by assumption) (by assumption) (by assumption) (by assumption)) ?_); (first | refine SS.sk 4 rfl ?_ | refine SS.tw 4 rfl (p_move rfl rfl) ?_); (first | refine SS.sk 5 rfl ?_ | refine SS.lw 5 [] rfl ?_ | refine SS.la 5 [] rfl ?_ | refine SS.tw 5 rfl (p_load_aR rfl rfl (by assumption) (by assumption) (by assumption) (by assumption)) ?_); (first | refine SS.sk 6 rfl ?_; (first | refine SS.sk 7 rfl ?_ | refine SS.tw 7 rfl (p_eqA_t rfl rfl rfl hX32 rfl) ?_); (first | refine SS.tw 8 rfl (p_pick_t rfl rfl rfl) ?_ | refine SS.tw 8 rfl (p_pick_f rfl rfl rfl) ?_); refine SS.tw 9 rfl (p_move rfl rfl) ?_; (first | refine SS.sk 10 rfl ?_; (first | refine SS.tw 11 rfl (p_pick_t rfl rfl rfl) ?_ | refine SS.tw 11 rfl (p_pick_f rfl rfl rfl) ?_); refine SS.tw 12 rfl (p_assign rfl rfl) ?_; refine SS.done ?_ (by kernel_rfl) | refine SS.effK 10 ?_ rfl (by kernel_rfl)) | refine SS.effK 6 ?_ rfl (by kernel_rfl)) | (refine SS.cs 1 rfl (p_cmp rfl rfl rfl rfl) (fun h_ => ?_) (fun h_ => ?_) <;> dsimp only [cmpP] at h_ <;> (refine SS.tw 2 rfl (p_move rfl rfl) ?_; (first | refine SS.sk 3 rfl ?_ | refine SS.lw 3 [] rfl ?_ | refine SS.la 3 [] rfl ?_ | refine SS.tw 3 rfl (p_load_aR rfl rfl (by assumption) (by assumption) (by assumption) (by assumption)) ?_); (first | refine SS.sk 4 rfl ?_ | refine SS.tw 4 rfl (p_move rfl rfl) ?_); (first | refine SS.sk 5 rfl ?_ | refine SS.lw 5 [] rfl ?_ | refine SS.la 5 [] rfl ?_ | refine SS.tw 5 rfl (p_load_aR rfl rfl (by assumption) (by assumption) (by assumption) (by assumption)) ?_); (first | refine SS.sk 6 rfl ?_; (first | refine SS.sk 7 rfl ?_ | refine SS.tw 7 rfl (p_eqA_t rfl rfl rfl hX32 rfl) ?_); (first | refine SS.tw 8 rfl (p_pick_t rfl rfl rfl) ?_ | refine SS.tw 8 rfl (p_pick_f rfl rfl rfl) ?_); refine SS.tw 9 rfl (p_move rfl rfl) ?_; (first | refine SS.sk 10 rfl ?_; (first | refine SS.tw 11 rfl (p_pick_t rfl rfl rfl) ?_ | refine SS.tw 11 rfl (p_pick_f rfl rfl rfl) ?_); refine SS.tw 12 rfl (p_assign rfl rfl) ?_; refine SS.done ?_ (by kernel_rfl) | refine SS.effK 10 ?_ rfl (by kernel_rfl)) | refine SS.effK 6 ?_ rfl (by kernel_rfl))))))
      refine W.call (rtop_p m _ e3) ?_
      rintro _ _ ⟨rfl, rfl⟩
      (refine SL.nilB ?_; (first | refine SS.sk 7 rfl ?_ | refine SS.tw 7 rfl (p_eqA_t rfl rfl rfl hX32 rfl) ?_); (first | refine SS.tw 8 rfl (p_pick_t rfl rfl rfl) ?_ | refine SS.tw 8 rfl (p_pick_f rfl rfl rfl) ?_); refine SS.tw 9 rfl (p_move rfl rfl) ?_; (first | refine SS.sk 10 rfl ?_; (first | refine SS.tw 11 rfl (p_pick_t rfl rfl rfl) ?_ | refine SS.tw 11 rfl (p_pick_f rfl rfl rfl) ?_); refine SS.tw 12 rfl (p_assign rfl rfl) ?_; refine SS.done ?_ (by kernel_rfl) | refine SS.effK 10 ?_ rfl (by kernel_rfl)))
      refine W.call awake12_p ?_
      rintro _ _ ⟨rfl, rfl⟩
      (refine SL.nilB ?_; (first | refine SS.tw 11 rfl (p_pick_t rfl rfl rfl) ?_ | refine SS.tw 11 rfl (p_pick_f rfl rfl rfl) ?_); refine SS.tw 12 rfl (p_assign rfl rfl) ?_; refine SS.done ?_ (by kernel_rfl))
      (repeat' (first | refine W.mv ?_ | refine W.zl ?_ | refine W.fa ?_ | refine W.nl ?_ | refine W.as ?_ | refine W.zb ?_ | refine W.za ?_ | refine W.zi ?_ | refine W.zc ?_ | refine W.zp ?_ | refine W.st ?_ | refine SL.nilB ?_ | refine SL.nil ?_ | refine W.al fun b_ => ?_ | refine W.bx fun b_ => ?_ | refine W.bxa fun b_ => ?_ | refine W.sw ?_ | refine W.sa ?_ | refine W.sk ?_ | refine W.bs0 fun b_ => ?_ | refine W.ma fun b_ => ?_ | refine W.bsl fun b_ => ?_ | refine W.zu ?_ | refine W.zf ?_ | refine W.zd ?_ | refine W.zs ?_ | refine W.zv ?_ | refine W.zx ?_ | refine W.ex ?_ | refine W.mf ?_ | refine W.mk ?_ | refine SW.seq ?_ | refine SW.region ?_ | refine SW.block ?_ | refine SW.cond_t rfl ?_ | refine SW.cond_f rfl ?_ | refine SW.exit ?_ | refine SW.ret ?_ | refine SW.skip ?_))
      refine Fin.to [] ?_
      exact F.f1 rfl
    · have hbad2 : ¬ (1 ≤ n ∧ n ≤ 1024 ∧ 0 ≤ k ∧ k < n ∧ P.length = dep n.toNat) := hbad
      rcases (show n < 1 ∨ (1 ≤ n ∧ 1024 < n) ∨ ((1 ≤ n ∧ n ≤ 1024) ∧ k < 0) ∨ ((1 ≤ n ∧ n ≤ 1024) ∧ 0 ≤ k ∧ n ≤ k) ∨ ((1 ≤ n ∧ n ≤ 1024) ∧ (0 ≤ k ∧ k < n) ∧ P.length ≠ dep n.toNat) by omega) with h | ⟨h1, h2⟩ | ⟨⟨h1, h2⟩, h3⟩ | ⟨⟨h1, h2⟩, h3, h4⟩ | ⟨⟨h1, h2⟩, ⟨h3, h4⟩, h5⟩
      case' inr.inr.inr.inr =>
        obtain ⟨m, rfl⟩ : ∃ m : Nat, n = (m : Int) := ⟨n.toNat, by omega⟩
        rw [Int.toNat_natCast] at h5
        (repeat' (first | refine W.mv ?_ | refine W.zl ?_ | refine W.fa ?_ | refine W.nl ?_ | refine W.as ?_ | refine W.zb ?_ | refine W.za ?_ | refine W.zi ?_ | refine W.zc ?_ | refine W.zp ?_ | refine W.st ?_ | refine SL.nilB ?_ | refine SL.nil ?_ | refine W.al fun b_ => ?_ | refine W.bx fun b_ => ?_ | refine W.bxa fun b_ => ?_ | refine W.sw ?_ | refine W.sa ?_ | refine W.sk ?_ | refine W.bs0 fun b_ => ?_ | refine W.ma fun b_ => ?_ | refine W.bsl fun b_ => ?_ | refine W.zu ?_ | refine W.zf ?_ | refine W.zd ?_ | refine W.zs ?_ | refine W.zv ?_ | refine W.zx ?_ | refine W.ex ?_ | refine W.mf ?_ | refine W.mk ?_ | refine SW.seq ?_ | refine SW.region ?_ | refine SW.block ?_ | refine SW.cond_t rfl ?_ | refine SW.cond_f rfl ?_ | refine SW.exit ?_ | refine SW.ret ?_ | refine SW.skip ?_))
        refine W.call (rdepth_p m (by omega)) ?_
        rintro _ _ ⟨rfl, rfl⟩
      all_goals
        clear hbad hbad2
        (repeat' (first | refine W.mv ?_ | refine W.zl ?_ | refine W.fa ?_ | refine W.nl ?_ | refine W.as ?_ | refine W.zb ?_ | refine W.za ?_ | refine W.zi ?_ | refine W.zc ?_ | refine W.zp ?_ | refine W.st ?_ | refine SL.nilB ?_ | refine SL.nil ?_ | refine W.al fun b_ => ?_ | refine W.bx fun b_ => ?_ | refine W.bxa fun b_ => ?_ | refine W.sw ?_ | refine W.sa ?_ | refine W.sk ?_ | refine W.bs0 fun b_ => ?_ | refine W.ma fun b_ => ?_ | refine W.bsl fun b_ => ?_ | refine W.zu ?_ | refine W.zf ?_ | refine W.zd ?_ | refine W.zs ?_ | refine W.zv ?_ | refine W.zx ?_ | refine W.ex ?_ | refine W.mf ?_ | refine W.mk ?_ | refine SW.seq ?_ | refine SW.region ?_ | refine SW.block ?_ | refine SW.cond_t rfl ?_ | refine SW.cond_f rfl ?_ | refine SW.exit ?_ | refine SW.ret ?_ | refine SW.skip ?_))
        refine W.eA (b := z32) ?_ rfl rfl
        (repeat' (first | refine W.mv ?_ | refine W.zl ?_ | refine W.fa ?_ | refine W.nl ?_ | refine W.as ?_ | refine W.zb ?_ | refine W.za ?_ | refine W.zi ?_ | refine W.zc ?_ | refine W.zp ?_ | refine W.st ?_ | refine SL.nilB ?_ | refine SL.nil ?_ | refine W.al fun b_ => ?_ | refine W.bx fun b_ => ?_ | refine W.bxa fun b_ => ?_ | refine W.sw ?_ | refine W.sa ?_ | refine W.sk ?_ | refine W.bs0 fun b_ => ?_ | refine W.ma fun b_ => ?_ | refine W.bsl fun b_ => ?_ | refine W.zu ?_ | refine W.zf ?_ | refine W.zd ?_ | refine W.zs ?_ | refine W.zv ?_ | refine W.zx ?_ | refine W.ex ?_ | refine W.mf ?_ | refine W.mk ?_ | refine SW.seq ?_ | refine SW.region ?_ | refine SW.block ?_ | refine SW.cond_t rfl ?_ | refine SW.cond_f rfl ?_ | refine SW.exit ?_ | refine SW.ret ?_ | refine SW.skip ?_))
        refine W.call awake12_p ?_
        rintro _ _ ⟨rfl, rfl⟩
        (repeat' (first | refine W.mv ?_ | refine W.zl ?_ | refine W.fa ?_ | refine W.nl ?_ | refine W.as ?_ | refine W.zb ?_ | refine W.za ?_ | refine W.zi ?_ | refine W.zc ?_ | refine W.zp ?_ | refine W.st ?_ | refine SL.nilB ?_ | refine SL.nil ?_ | refine W.al fun b_ => ?_ | refine W.bx fun b_ => ?_ | refine W.bxa fun b_ => ?_ | refine W.sw ?_ | refine W.sa ?_ | refine W.sk ?_ | refine W.bs0 fun b_ => ?_ | refine W.ma fun b_ => ?_ | refine W.bsl fun b_ => ?_ | refine W.zu ?_ | refine W.zf ?_ | refine W.zd ?_ | refine W.zs ?_ | refine W.zv ?_ | refine W.zx ?_ | refine W.ex ?_ | refine W.mf ?_ | refine W.mk ?_ | refine SW.seq ?_ | refine SW.region ?_ | refine SW.block ?_ | refine SW.cond_t rfl ?_ | refine SW.cond_f rfl ?_ | refine SW.exit ?_ | refine SW.ret ?_ | refine SW.skip ?_))
        refine Fin.to [] ?_
        exact F.f1 rfl
end Go.Proofs.Ytieamijnajbcnaa
