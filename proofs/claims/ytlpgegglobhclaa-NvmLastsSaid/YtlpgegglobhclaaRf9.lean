/- The document's own device: Load, Tamper, Flush, Fence. -/
import Derived.Test.YtlpgegglobhclaaRf8
set_option linter.unusedVariables false
set_option linter.unusedSimpArgs false
namespace Go.Proofs.Ytlpgegglobhclaa
open Go
attribute [local irreducible] SW SL SQ SH SA SS Pu Fin CutF HandF

theorem rload_p {p : Nat} {σ : Dv} {H : Hp} (hD : DevR p σ H) (x n : Int) : Tri Try.prog 54 [.pointer (some ⟨p, 0, none⟩), .int .i64 x, .int .i64 n] H (fun _ => True)
    (fun v' H' => ∃ sv Hs, v' = .tuple #[sv, .int .i64 (σ.rdy x n)] ∧ Sl 5 1 sv ((σ.loadB x n).map bv) Hs ∧ H' = Hs ++ H) := by
  have hr := rready_p hD x n
  refine Tri.mk Try.func54 rfl Try.ntmps54 rfl fun w hw => ?_
  (repeat' (first | refine W.mv ?_ | refine W.ls ?_ | refine W.fa ?_ | refine W.nl ?_ | refine W.as ?_ | refine W.ct ?_ | refine W.cf ?_ | refine W.ad ?_ | refine W.sb ?_ | refine W.ml ?_ | refine W.st ?_ | refine SL.nilB ?_ | refine SL.nil ?_ | refine W.ln ?_ | refine W.ix ?_ | refine W.lw ?_ | refine W.la ?_ | refine W.al fun b_ => ?_ | refine W.bx fun b_ => ?_ | refine W.bxa fun b_ => ?_ | refine W.sw ?_ | refine W.sa ?_ | refine W.pkt ?_ | refine W.pkf ?_ | refine W.ua ?_ | refine W.en ?_ | refine W.nn ?_ | refine W.es ?_ | refine W.ns ?_ | refine W.nt ?_ | refine W.fs ?_ | refine W.fg ?_ | refine W.bd ?_ | refine W.bda ?_ | refine W.mf ?_ | refine W.mx ?_ | refine W.mn ?_ | refine W.qu ?_ | refine W.rm ?_ | refine W.lr ?_ | refine W.lt ?_ | refine W.cp ?_ | refine W.ixa ?_ | refine W.sk ?_ | refine W.lsR (by assumption) ?_ | refine W.laR (by assumption) ?_ | refine W.eb ?_ | refine W.nb ?_ | refine W.ci ?_ | refine W.cv ?_ | refine W.s01 ?_ | refine W.s10 ?_ | refine W.s11 ?_ | refine W.s10e ?_ | refine W.sar ?_ | refine W.bs0 fun b_ => ?_ | refine W.ma fun b_ => ?_ | refine W.ex ?_ | refine W.bsl fun b_ => ?_ | refine W.mk ?_ | refine W.ett ?_ | refine W.est ?_ | refine W.nst ?_ | refine SW.seq ?_ | refine SW.region ?_ | refine SW.block ?_ | refine SW.cond_t rfl ?_ | refine SW.cond_f rfl ?_ | refine SW.exit ?_ | refine SW.ret ?_ | refine SW.skip ?_))
  refine W.call hr ?_
  rintro _ _ ⟨rfl, rfl⟩
  by_cases h0 : σ.rdy x n = 0
  · obtain ⟨hdn, hx0, hn0, hn, hxn⟩ := rdy_zero h0
    have hb : σ.loadB x n = ((nowB σ.ws).drop x.toNat).take n.toNat := by unfold Dv.loadB; rw [if_pos h0]
    rw [h0, hb]
    have hlen : σ.len = 8 * σ.ws.length := rfl
    obtain ⟨i, rfl⟩ : ∃ i : Nat, x = i := ⟨x.toNat, by omega⟩
    obtain ⟨m, rfl⟩ : ∃ m : Nat, n = m := ⟨n.toNat, by omega⟩
    rw [Int.toNat_natCast, Int.toNat_natCast]
    have hN := hD.1.n
    obtain ⟨hO, bl, bn, bp, bm, vp, va, Hq, Ha, h2, h3, rfl⟩ := hD
    have hnl := nowB_len hO.ok
    have hml : (((nowB σ.ws).drop i).take m).length = m := by simp; omega
    by_cases hlt : i < σ.len
    · (repeat' (first | refine W.mv ?_ | refine W.ls ?_ | refine W.fa ?_ | refine W.nl ?_ | refine W.as ?_ | refine W.ct ?_ | refine W.cf ?_ | refine W.ad ?_ | refine W.sb ?_ | refine W.ml ?_ | refine W.st ?_ | refine SL.nilB ?_ | refine SL.nil ?_ | refine W.ln ?_ | refine W.ix ?_ | refine W.lw ?_ | refine W.la ?_ | refine W.al fun b_ => ?_ | refine W.bx fun b_ => ?_ | refine W.bxa fun b_ => ?_ | refine W.sw ?_ | refine W.sa ?_ | refine W.pkt ?_ | refine W.pkf ?_ | refine W.ua ?_ | refine W.en ?_ | refine W.nn ?_ | refine W.es ?_ | refine W.ns ?_ | refine W.nt ?_ | refine W.fs ?_ | refine W.fg ?_ | refine W.bd ?_ | refine W.bda ?_ | refine W.mf ?_ | refine W.mx ?_ | refine W.mn ?_ | refine W.qu ?_ | refine W.rm ?_ | refine W.lr ?_ | refine W.lt ?_ | refine W.cp ?_ | refine W.ixa ?_ | refine W.sk ?_ | refine W.lsR (by assumption) ?_ | refine W.laR (by assumption) ?_ | refine W.eb ?_ | refine W.nb ?_ | refine W.ci ?_ | refine W.cv ?_ | refine W.s01 ?_ | refine W.s10 ?_ | refine W.s11 ?_ | refine W.s10e ?_ | refine W.sar ?_ | refine W.bs0 fun b_ => ?_ | refine W.ma fun b_ => ?_ | refine W.ex ?_ | refine W.bsl fun b_ => ?_ | refine W.mk ?_ | refine W.ett ?_ | refine W.est ?_ | refine W.nst ?_ | refine SW.seq ?_ | refine SW.region ?_ | refine SW.block ?_ | refine SW.cond_t rfl ?_ | refine SW.cond_f rfl ?_ | refine SW.exit ?_ | refine SW.ret ?_ | refine SW.skip ?_))
      refine W.ap (xs := []) (ys := (((nowB σ.ws).drop i).take m).map bv) (mm := m) (Hs := [(b_, cl [] 5)]) (.inr ⟨b_, 0, 0, [], rfl, rfl, rfl, Nat.le_refl _, rfl⟩) (fun w2 hs => ?_) (fun v2 Hs2 hv2 => ?_) (hys := by simp; omega) (hbytes := by simp; omega)
      · have e : i + m - i = m := by omega
        rw [e]
        refine SrcOf.own hs (b := bn) (l := rn σ.ws) (by rw [rn_eq, Nat.mul_one, List.map_take, List.map_drop]) (by simp; omega)
      (repeat' (first | refine W.mv ?_ | refine W.ls ?_ | refine W.fa ?_ | refine W.nl ?_ | refine W.as ?_ | refine W.ct ?_ | refine W.cf ?_ | refine W.ad ?_ | refine W.sb ?_ | refine W.ml ?_ | refine W.st ?_ | refine SL.nilB ?_ | refine SL.nil ?_ | refine W.ln ?_ | refine W.ix ?_ | refine W.lw ?_ | refine W.la ?_ | refine W.al fun b_ => ?_ | refine W.bx fun b_ => ?_ | refine W.bxa fun b_ => ?_ | refine W.sw ?_ | refine W.sa ?_ | refine W.pkt ?_ | refine W.pkf ?_ | refine W.ua ?_ | refine W.en ?_ | refine W.nn ?_ | refine W.es ?_ | refine W.ns ?_ | refine W.nt ?_ | refine W.fs ?_ | refine W.fg ?_ | refine W.bd ?_ | refine W.bda ?_ | refine W.mf ?_ | refine W.mx ?_ | refine W.mn ?_ | refine W.qu ?_ | refine W.rm ?_ | refine W.lr ?_ | refine W.lt ?_ | refine W.cp ?_ | refine W.ixa ?_ | refine W.sk ?_ | refine W.lsR (by assumption) ?_ | refine W.laR (by assumption) ?_ | refine W.eb ?_ | refine W.nb ?_ | refine W.ci ?_ | refine W.cv ?_ | refine W.s01 ?_ | refine W.s10 ?_ | refine W.s11 ?_ | refine W.s10e ?_ | refine W.sar ?_ | refine W.bs0 fun b_ => ?_ | refine W.ma fun b_ => ?_ | refine W.ex ?_ | refine W.bsl fun b_ => ?_ | refine W.mk ?_ | refine W.ett ?_ | refine W.est ?_ | refine W.nst ?_ | refine SW.seq ?_ | refine SW.region ?_ | refine SW.block ?_ | refine SW.cond_t rfl ?_ | refine SW.cond_f rfl ?_ | refine SW.exit ?_ | refine SW.ret ?_ | refine SW.skip ?_))
      refine F.f2 ?_
      refine ⟨v2, Hs2, rfl, hv2, ?_⟩
      simp
    · (repeat' (first | refine W.mv ?_ | refine W.ls ?_ | refine W.fa ?_ | refine W.nl ?_ | refine W.as ?_ | refine W.ct ?_ | refine W.cf ?_ | refine W.ad ?_ | refine W.sb ?_ | refine W.ml ?_ | refine W.st ?_ | refine SL.nilB ?_ | refine SL.nil ?_ | refine W.ln ?_ | refine W.ix ?_ | refine W.lw ?_ | refine W.la ?_ | refine W.al fun b_ => ?_ | refine W.bx fun b_ => ?_ | refine W.bxa fun b_ => ?_ | refine W.sw ?_ | refine W.sa ?_ | refine W.pkt ?_ | refine W.pkf ?_ | refine W.ua ?_ | refine W.en ?_ | refine W.nn ?_ | refine W.es ?_ | refine W.ns ?_ | refine W.nt ?_ | refine W.fs ?_ | refine W.fg ?_ | refine W.bd ?_ | refine W.bda ?_ | refine W.mf ?_ | refine W.mx ?_ | refine W.mn ?_ | refine W.qu ?_ | refine W.rm ?_ | refine W.lr ?_ | refine W.lt ?_ | refine W.cp ?_ | refine W.ixa ?_ | refine W.sk ?_ | refine W.lsR (by assumption) ?_ | refine W.laR (by assumption) ?_ | refine W.eb ?_ | refine W.nb ?_ | refine W.ci ?_ | refine W.cv ?_ | refine W.s01 ?_ | refine W.s10 ?_ | refine W.s11 ?_ | refine W.s10e ?_ | refine W.sar ?_ | refine W.bs0 fun b_ => ?_ | refine W.ma fun b_ => ?_ | refine W.ex ?_ | refine W.bsl fun b_ => ?_ | refine W.mk ?_ | refine W.ett ?_ | refine W.est ?_ | refine W.nst ?_ | refine SW.seq ?_ | refine SW.region ?_ | refine SW.block ?_ | refine SW.cond_t rfl ?_ | refine SW.cond_f rfl ?_ | refine SW.exit ?_ | refine SW.ret ?_ | refine SW.skip ?_))
      have hm0 : m = 0 := by omega
      subst hm0
      refine SL.pu (p_slice (l := i) (h := i) rfl rfl (.inr ⟨_, _, _, rfl, rfl, rfl⟩) (.inr ⟨_, _, _, rfl, rfl, by simp⟩) (Nat.le_refl _) (by omega) (vl := none) (vh := none)) rfl rfl ?_
      rw [Nat.sub_self]
      refine W.ap (xs := []) (ys := []) (mm := 0) (Hs := [(b_, cl [] 5)]) (.inr ⟨b_, 0, 0, [], rfl, rfl, rfl, Nat.le_refl _, rfl⟩) (fun w2 hs => SrcOf.empty _ _ _ _) (fun v2 Hs2 hv2 => ?_) (hys := rfl) (hbytes := by simp)
      (repeat' (first | refine W.mv ?_ | refine W.ls ?_ | refine W.fa ?_ | refine W.nl ?_ | refine W.as ?_ | refine W.ct ?_ | refine W.cf ?_ | refine W.ad ?_ | refine W.sb ?_ | refine W.ml ?_ | refine W.st ?_ | refine SL.nilB ?_ | refine SL.nil ?_ | refine W.ln ?_ | refine W.ix ?_ | refine W.lw ?_ | refine W.la ?_ | refine W.al fun b_ => ?_ | refine W.bx fun b_ => ?_ | refine W.bxa fun b_ => ?_ | refine W.sw ?_ | refine W.sa ?_ | refine W.pkt ?_ | refine W.pkf ?_ | refine W.ua ?_ | refine W.en ?_ | refine W.nn ?_ | refine W.es ?_ | refine W.ns ?_ | refine W.nt ?_ | refine W.fs ?_ | refine W.fg ?_ | refine W.bd ?_ | refine W.bda ?_ | refine W.mf ?_ | refine W.mx ?_ | refine W.mn ?_ | refine W.qu ?_ | refine W.rm ?_ | refine W.lr ?_ | refine W.lt ?_ | refine W.cp ?_ | refine W.ixa ?_ | refine W.sk ?_ | refine W.lsR (by assumption) ?_ | refine W.laR (by assumption) ?_ | refine W.eb ?_ | refine W.nb ?_ | refine W.ci ?_ | refine W.cv ?_ | refine W.s01 ?_ | refine W.s10 ?_ | refine W.s11 ?_ | refine W.s10e ?_ | refine W.sar ?_ | refine W.bs0 fun b_ => ?_ | refine W.ma fun b_ => ?_ | refine W.ex ?_ | refine W.bsl fun b_ => ?_ | refine W.mk ?_ | refine W.ett ?_ | refine W.est ?_ | refine W.nst ?_ | refine SW.seq ?_ | refine SW.region ?_ | refine SW.block ?_ | refine SW.cond_t rfl ?_ | refine SW.cond_f rfl ?_ | refine SW.exit ?_ | refine SW.ret ?_ | refine SW.skip ?_))
      refine F.f2 ?_
      refine ⟨v2, Hs2, rfl, by simpa using hv2, ?_⟩
      simp
  · have hb : σ.loadB x n = [] := by unfold Dv.loadB; rw [if_neg h0]
    (repeat' (first | refine W.mv ?_ | refine W.ls ?_ | refine W.fa ?_ | refine W.nl ?_ | refine W.as ?_ | refine W.ct ?_ | refine W.cf ?_ | refine W.ad ?_ | refine W.sb ?_ | refine W.ml ?_ | refine W.st ?_ | refine SL.nilB ?_ | refine SL.nil ?_ | refine W.ln ?_ | refine W.ix ?_ | refine W.lw ?_ | refine W.la ?_ | refine W.al fun b_ => ?_ | refine W.bx fun b_ => ?_ | refine W.bxa fun b_ => ?_ | refine W.sw ?_ | refine W.sa ?_ | refine W.pkt ?_ | refine W.pkf ?_ | refine W.ua ?_ | refine W.en ?_ | refine W.nn ?_ | refine W.es ?_ | refine W.ns ?_ | refine W.nt ?_ | refine W.fs ?_ | refine W.fg ?_ | refine W.bd ?_ | refine W.bda ?_ | refine W.mf ?_ | refine W.mx ?_ | refine W.mn ?_ | refine W.qu ?_ | refine W.rm ?_ | refine W.lr ?_ | refine W.lt ?_ | refine W.cp ?_ | refine W.ixa ?_ | refine W.sk ?_ | refine W.lsR (by assumption) ?_ | refine W.laR (by assumption) ?_ | refine W.eb ?_ | refine W.nb ?_ | refine W.ci ?_ | refine W.cv ?_ | refine W.s01 ?_ | refine W.s10 ?_ | refine W.s11 ?_ | refine W.s10e ?_ | refine W.sar ?_ | refine W.bs0 fun b_ => ?_ | refine W.ma fun b_ => ?_ | refine W.ex ?_ | refine W.bsl fun b_ => ?_ | refine W.mk ?_ | refine W.ett ?_ | refine W.est ?_ | refine W.nst ?_ | refine SW.seq ?_ | refine SW.region ?_ | refine SW.block ?_ | refine SW.cond_t rfl ?_ | refine SW.cond_f rfl ?_ | refine SW.exit ?_ | refine SW.ret ?_ | refine SW.skip ?_))
    refine F.f2 ?_
    refine ⟨_, [], rfl, ?_, by simp⟩
    rw [hb]; exact Sl.nil _ _

/-! ### Tamper -/
theorem tam_eqs : ∀ (bs : List UInt8) (ws : List Wd) (i : Nat), (∀ w ∈ ws, w.Ok) → i + bs.length ≤ 8 * ws.length →
    nowB (modL Wd.tam ws i bs) = (nowB ws).take i ++ bs ++ (nowB ws).drop (i + bs.length) ∧ lastB (modL Wd.tam ws i bs) = (lastB ws).take i ++ bs ++ (lastB ws).drop (i + bs.length) ∧ rp (modL Wd.tam ws i bs) = rp ws ∧ rm (modL Wd.tam ws i bs) = rm ws
  | [], ws, i, _, _ => by simp [modL]
  | c :: t, ws, i, hok, hl => by
    simp only [List.length_cons] at hl
    have hm : i / 8 < ws.length := by omega
    obtain ⟨u, hu⟩ : ∃ u, ws[i / 8]? = some u := ⟨_, List.getElem?_eq_getElem hm⟩
    have hB : modB Wd.tam ws i c = ws.set (i / 8) (u.tam (i % 8) c) := modify_set _ hu
    have hok2 : ∀ w ∈ modB Wd.tam ws i c, w.Ok := by unfold modB; exact modify_ok (fun w => Wd.tam_ok _ _) _ hok
    obtain ⟨e1, e2, e3, e4⟩ := tam_eqs t (modB Wd.tam ws i c) (i + 1) hok2 (by rw [modB_len]; omega)
    have n1 : nowB (modB Wd.tam ws i c) = (nowB ws).set i c := by rw [hB]; exact (nowB_set hok hu c rfl).symm
    have n2 : lastB (modB Wd.tam ws i c) = (lastB ws).set i c := by rw [hB]; exact (lastB_set hok hu c rfl).symm
    have l1 := nowB_len hok
    have l2 := lastB_len hok
    have key : ∀ (l : List UInt8), i < l.length → (l.set i c).take (i + 1) ++ t ++ (l.set i c).drop (i + 1 + t.length) = l.take i ++ (c :: t) ++ l.drop (i + (t.length + 1)) := fun l hi => by
      rw [List.take_set, List.take_add_one, List.getElem?_eq_getElem hi, Option.toList_some, List.set_append_right _ _ (by simp; omega)]
      have e : i - (l.take i).length = 0 := by simp; omega
      rw [e, List.set_cons_zero, List.drop_set_of_lt (by omega)]
      rw [show i + 1 + t.length = i + (t.length + 1) by omega]
      simp only [List.append_assoc, List.singleton_append, List.cons_append, List.nil_append]
    refine ⟨?_, ?_, ?_, ?_⟩
    · show nowB (modL Wd.tam (modB Wd.tam ws i c) (i + 1) t) = _
      rw [e1, n1]; exact key _ (by omega)
    · show lastB (modL Wd.tam (modB Wd.tam ws i c) (i + 1) t) = _
      rw [e2, n2]; exact key _ (by omega)
    · show rp (modL Wd.tam (modB Wd.tam ws i c) (i + 1) t) = _
      rw [e3, hB]; exact map_set_same _ hu rfl
    · show rm (modL Wd.tam (modB Wd.tam ws i c) (i + 1) t) = _
      rw [e4, hB]; exact map_set_same _ hu rfl

theorem rtam_p {p : Nat} {σ : Dv} {H : Hp} (hD : DevR p σ H) (x : Int) (v : Value) (bs : List UInt8) (hbs : bs.length ≤ 1048576) (hx : -9223372036854775808 ≤ x ∧ x ≤ 9223372036854775807) : Tri Try.prog 53 [.pointer (some ⟨p, 0, none⟩), .int .i64 x, v] H (fun w => Rd (H.map Prod.fst) w 1 v (bs.map bv))
    (fun v' H' => v' = .bool (σ.tamB x bs.length) ∧ DevR p (σ.tam x bs) H') := by
  refine Tri.mk Try.func53 rfl Try.ntmps53 rfl fun w hw => ?_
  have hrd0 := hw
  obtain ⟨aa, len, cap, rfl, hlen, hcap, hrd⟩ := hw.get
  rw [List.length_map, Nat.mul_one] at hlen
  subst hlen
  have hlen : σ.len = 8 * σ.ws.length := rfl
  have hN := hD.1.n
  have hD0 := hD
  obtain ⟨hO, bl, bn, bp, bm, vp, va, Hq, Ha, h4, h3, rfl⟩ := hD
  by_cases hb : 0 ≤ x ∧ bs.length ≤ σ.len ∧ x ≤ (σ.len : Int) - bs.length
  · have ht : σ.tamB x bs.length = true := by unfold Dv.tamB; exact decide_eq_true hb
    have hts : σ.tam x bs = σ.setWs (modL Wd.tam σ.ws x.toNat bs) := by unfold Dv.tam; rw [ht]; rfl
    rw [ht, hts]
    obtain ⟨i, rfl⟩ : ∃ i : Nat, x = i := ⟨x.toNat, by omega⟩
    rw [Int.toNat_natCast]
    obtain ⟨e1, e2, e3, e4⟩ := tam_eqs bs σ.ws i hO.ok (by omega)
    have l1 := rn_len hO.ok
    have l2 := rl_len hO.ok
    have hsrc : ∀ {H2 : Hp} (w2 : World), St _ w H2 w2 → SrcOf Try.prog w2 (.slice aa bs.length cap) 1 bs.length (bs.map bv) := fun w2 hs => hrd0.srcAt hs
    have f1 : ∀ j, j = i ∨ bs.length = 0 → (rn σ.ws).take j ++ bs.map bv ++ (rn σ.ws).drop (j + (bs.map bv).length) = rn (modL Wd.tam σ.ws i bs) := fun j hj => by
      rw [rn_eq, rn_eq, e1, List.map_append, List.map_append, List.map_take, List.map_drop, List.length_map]
      rcases hj with rfl | hj
      · rfl
      · have : bs = [] := List.eq_nil_of_length_eq_zero hj
        subst this; simp
    have f2 : ∀ j, j = i ∨ bs.length = 0 → (rl σ.ws).take j ++ bs.map bv ++ (rl σ.ws).drop (j + (bs.map bv).length) = rl (modL Wd.tam σ.ws i bs) := fun j hj => by
      rw [rl_eq, rl_eq, e2, List.map_append, List.map_append, List.map_take, List.map_drop, List.length_map]
      rcases hj with rfl | hj
      · rfl
      · have : bs = [] := List.eq_nil_of_length_eq_zero hj
        subst this; simp
    by_cases hlt : i < σ.len
    · (repeat' (first | refine W.mv ?_ | refine W.ls ?_ | refine W.fa ?_ | refine W.nl ?_ | refine W.as ?_ | refine W.ct ?_ | refine W.cf ?_ | refine W.ad ?_ | refine W.sb ?_ | refine W.ml ?_ | refine W.st ?_ | refine SL.nilB ?_ | refine SL.nil ?_ | refine W.ln ?_ | refine W.ix ?_ | refine W.lw ?_ | refine W.la ?_ | refine W.al fun b_ => ?_ | refine W.bx fun b_ => ?_ | refine W.bxa fun b_ => ?_ | refine W.sw ?_ | refine W.sa ?_ | refine W.pkt ?_ | refine W.pkf ?_ | refine W.ua ?_ | refine W.en ?_ | refine W.nn ?_ | refine W.es ?_ | refine W.ns ?_ | refine W.nt ?_ | refine W.fs ?_ | refine W.fg ?_ | refine W.bd ?_ | refine W.bda ?_ | refine W.mf ?_ | refine W.mx ?_ | refine W.mn ?_ | refine W.qu ?_ | refine W.rm ?_ | refine W.lr ?_ | refine W.lt ?_ | refine W.cp ?_ | refine W.ixa ?_ | refine W.sk ?_ | refine W.lsR (by assumption) ?_ | refine W.laR (by assumption) ?_ | refine W.eb ?_ | refine W.nb ?_ | refine W.ci ?_ | refine W.cv ?_ | refine W.s01 ?_ | refine W.s10 ?_ | refine W.s11 ?_ | refine W.s10e ?_ | refine W.sar ?_ | refine W.bs0 fun b_ => ?_ | refine W.ma fun b_ => ?_ | refine W.ex ?_ | refine W.bsl fun b_ => ?_ | refine W.mk ?_ | refine W.ett ?_ | refine W.est ?_ | refine W.nst ?_ | refine SW.seq ?_ | refine SW.region ?_ | refine SW.block ?_ | refine SW.cond_t rfl ?_ | refine SW.cond_f rfl ?_ | refine SW.exit ?_ | refine SW.ret ?_ | refine SW.skip ?_))
      refine W.cy (fun w2 hs => hsrc w2 hs) ?_ (hfit := by simp; omega)
      (repeat' (first | refine W.mv ?_ | refine W.ls ?_ | refine W.fa ?_ | refine W.nl ?_ | refine W.as ?_ | refine W.ct ?_ | refine W.cf ?_ | refine W.ad ?_ | refine W.sb ?_ | refine W.ml ?_ | refine W.st ?_ | refine SL.nilB ?_ | refine SL.nil ?_ | refine W.ln ?_ | refine W.ix ?_ | refine W.lw ?_ | refine W.la ?_ | refine W.al fun b_ => ?_ | refine W.bx fun b_ => ?_ | refine W.bxa fun b_ => ?_ | refine W.sw ?_ | refine W.sa ?_ | refine W.pkt ?_ | refine W.pkf ?_ | refine W.ua ?_ | refine W.en ?_ | refine W.nn ?_ | refine W.es ?_ | refine W.ns ?_ | refine W.nt ?_ | refine W.fs ?_ | refine W.fg ?_ | refine W.bd ?_ | refine W.bda ?_ | refine W.mf ?_ | refine W.mx ?_ | refine W.mn ?_ | refine W.qu ?_ | refine W.rm ?_ | refine W.lr ?_ | refine W.lt ?_ | refine W.cp ?_ | refine W.ixa ?_ | refine W.sk ?_ | refine W.lsR (by assumption) ?_ | refine W.laR (by assumption) ?_ | refine W.eb ?_ | refine W.nb ?_ | refine W.ci ?_ | refine W.cv ?_ | refine W.s01 ?_ | refine W.s10 ?_ | refine W.s11 ?_ | refine W.s10e ?_ | refine W.sar ?_ | refine W.bs0 fun b_ => ?_ | refine W.ma fun b_ => ?_ | refine W.ex ?_ | refine W.bsl fun b_ => ?_ | refine W.mk ?_ | refine W.ett ?_ | refine W.est ?_ | refine W.nst ?_ | refine SW.seq ?_ | refine SW.region ?_ | refine SW.block ?_ | refine SW.cond_t rfl ?_ | refine SW.cond_f rfl ?_ | refine SW.exit ?_ | refine SW.ret ?_ | refine SW.skip ?_))
      refine W.cy (fun w2 hs => hsrc w2 hs) ?_ (hfit := by simp; omega)
      rw [f1 _ (.inl rfl), f2 _ (.inl rfl)]
      (repeat' (first | refine W.mv ?_ | refine W.ls ?_ | refine W.fa ?_ | refine W.nl ?_ | refine W.as ?_ | refine W.ct ?_ | refine W.cf ?_ | refine W.ad ?_ | refine W.sb ?_ | refine W.ml ?_ | refine W.st ?_ | refine SL.nilB ?_ | refine SL.nil ?_ | refine W.ln ?_ | refine W.ix ?_ | refine W.lw ?_ | refine W.la ?_ | refine W.al fun b_ => ?_ | refine W.bx fun b_ => ?_ | refine W.bxa fun b_ => ?_ | refine W.sw ?_ | refine W.sa ?_ | refine W.pkt ?_ | refine W.pkf ?_ | refine W.ua ?_ | refine W.en ?_ | refine W.nn ?_ | refine W.es ?_ | refine W.ns ?_ | refine W.nt ?_ | refine W.fs ?_ | refine W.fg ?_ | refine W.bd ?_ | refine W.bda ?_ | refine W.mf ?_ | refine W.mx ?_ | refine W.mn ?_ | refine W.qu ?_ | refine W.rm ?_ | refine W.lr ?_ | refine W.lt ?_ | refine W.cp ?_ | refine W.ixa ?_ | refine W.sk ?_ | refine W.lsR (by assumption) ?_ | refine W.laR (by assumption) ?_ | refine W.eb ?_ | refine W.nb ?_ | refine W.ci ?_ | refine W.cv ?_ | refine W.s01 ?_ | refine W.s10 ?_ | refine W.s11 ?_ | refine W.s10e ?_ | refine W.sar ?_ | refine W.bs0 fun b_ => ?_ | refine W.ma fun b_ => ?_ | refine W.ex ?_ | refine W.bsl fun b_ => ?_ | refine W.mk ?_ | refine W.ett ?_ | refine W.est ?_ | refine W.nst ?_ | refine SW.seq ?_ | refine SW.region ?_ | refine SW.block ?_ | refine SW.cond_t rfl ?_ | refine SW.cond_f rfl ?_ | refine SW.exit ?_ | refine SW.ret ?_ | refine SW.skip ?_))
      refine F.f1 ?_
      refine ⟨rfl, Dv.setWs_ok hO (modL_len _ _ _ _) (modL_ok (fun j c w => Wd.tam_ok j c) bs σ.ws i hO.ok), bl, bn, bp, bm, vp, va, Hq, Ha, h4, h3, ?_⟩
      simp [Dv.setWs, Dv.len, modL_len, e3, e4]
    · have hz : bs.length = 0 := by omega
      (repeat' (first | refine W.mv ?_ | refine W.ls ?_ | refine W.fa ?_ | refine W.nl ?_ | refine W.as ?_ | refine W.ct ?_ | refine W.cf ?_ | refine W.ad ?_ | refine W.sb ?_ | refine W.ml ?_ | refine W.st ?_ | refine SL.nilB ?_ | refine SL.nil ?_ | refine W.ln ?_ | refine W.ix ?_ | refine W.lw ?_ | refine W.la ?_ | refine W.al fun b_ => ?_ | refine W.bx fun b_ => ?_ | refine W.bxa fun b_ => ?_ | refine W.sw ?_ | refine W.sa ?_ | refine W.pkt ?_ | refine W.pkf ?_ | refine W.ua ?_ | refine W.en ?_ | refine W.nn ?_ | refine W.es ?_ | refine W.ns ?_ | refine W.nt ?_ | refine W.fs ?_ | refine W.fg ?_ | refine W.bd ?_ | refine W.bda ?_ | refine W.mf ?_ | refine W.mx ?_ | refine W.mn ?_ | refine W.qu ?_ | refine W.rm ?_ | refine W.lr ?_ | refine W.lt ?_ | refine W.cp ?_ | refine W.ixa ?_ | refine W.sk ?_ | refine W.lsR (by assumption) ?_ | refine W.laR (by assumption) ?_ | refine W.eb ?_ | refine W.nb ?_ | refine W.ci ?_ | refine W.cv ?_ | refine W.s01 ?_ | refine W.s10 ?_ | refine W.s11 ?_ | refine W.s10e ?_ | refine W.sar ?_ | refine W.bs0 fun b_ => ?_ | refine W.ma fun b_ => ?_ | refine W.ex ?_ | refine W.bsl fun b_ => ?_ | refine W.mk ?_ | refine W.ett ?_ | refine W.est ?_ | refine W.nst ?_ | refine SW.seq ?_ | refine SW.region ?_ | refine SW.block ?_ | refine SW.cond_t rfl ?_ | refine SW.cond_f rfl ?_ | refine SW.exit ?_ | refine SW.ret ?_ | refine SW.skip ?_))
      refine W.cy (fun w2 hs => hsrc w2 hs) ?_ (hfit := by simp; omega)
      (repeat' (first | refine W.mv ?_ | refine W.ls ?_ | refine W.fa ?_ | refine W.nl ?_ | refine W.as ?_ | refine W.ct ?_ | refine W.cf ?_ | refine W.ad ?_ | refine W.sb ?_ | refine W.ml ?_ | refine W.st ?_ | refine SL.nilB ?_ | refine SL.nil ?_ | refine W.ln ?_ | refine W.ix ?_ | refine W.lw ?_ | refine W.la ?_ | refine W.al fun b_ => ?_ | refine W.bx fun b_ => ?_ | refine W.bxa fun b_ => ?_ | refine W.sw ?_ | refine W.sa ?_ | refine W.pkt ?_ | refine W.pkf ?_ | refine W.ua ?_ | refine W.en ?_ | refine W.nn ?_ | refine W.es ?_ | refine W.ns ?_ | refine W.nt ?_ | refine W.fs ?_ | refine W.fg ?_ | refine W.bd ?_ | refine W.bda ?_ | refine W.mf ?_ | refine W.mx ?_ | refine W.mn ?_ | refine W.qu ?_ | refine W.rm ?_ | refine W.lr ?_ | refine W.lt ?_ | refine W.cp ?_ | refine W.ixa ?_ | refine W.sk ?_ | refine W.lsR (by assumption) ?_ | refine W.laR (by assumption) ?_ | refine W.eb ?_ | refine W.nb ?_ | refine W.ci ?_ | refine W.cv ?_ | refine W.s01 ?_ | refine W.s10 ?_ | refine W.s11 ?_ | refine W.s10e ?_ | refine W.sar ?_ | refine W.bs0 fun b_ => ?_ | refine W.ma fun b_ => ?_ | refine W.ex ?_ | refine W.bsl fun b_ => ?_ | refine W.mk ?_ | refine W.ett ?_ | refine W.est ?_ | refine W.nst ?_ | refine SW.seq ?_ | refine SW.region ?_ | refine SW.block ?_ | refine SW.cond_t rfl ?_ | refine SW.cond_f rfl ?_ | refine SW.exit ?_ | refine SW.ret ?_ | refine SW.skip ?_))
      refine W.cy (fun w2 hs => hsrc w2 hs) ?_ (hfit := by simp; omega)
      rw [f1 _ (.inr hz), f2 _ (.inr hz)]
      (repeat' (first | refine W.mv ?_ | refine W.ls ?_ | refine W.fa ?_ | refine W.nl ?_ | refine W.as ?_ | refine W.ct ?_ | refine W.cf ?_ | refine W.ad ?_ | refine W.sb ?_ | refine W.ml ?_ | refine W.st ?_ | refine SL.nilB ?_ | refine SL.nil ?_ | refine W.ln ?_ | refine W.ix ?_ | refine W.lw ?_ | refine W.la ?_ | refine W.al fun b_ => ?_ | refine W.bx fun b_ => ?_ | refine W.bxa fun b_ => ?_ | refine W.sw ?_ | refine W.sa ?_ | refine W.pkt ?_ | refine W.pkf ?_ | refine W.ua ?_ | refine W.en ?_ | refine W.nn ?_ | refine W.es ?_ | refine W.ns ?_ | refine W.nt ?_ | refine W.fs ?_ | refine W.fg ?_ | refine W.bd ?_ | refine W.bda ?_ | refine W.mf ?_ | refine W.mx ?_ | refine W.mn ?_ | refine W.qu ?_ | refine W.rm ?_ | refine W.lr ?_ | refine W.lt ?_ | refine W.cp ?_ | refine W.ixa ?_ | refine W.sk ?_ | refine W.lsR (by assumption) ?_ | refine W.laR (by assumption) ?_ | refine W.eb ?_ | refine W.nb ?_ | refine W.ci ?_ | refine W.cv ?_ | refine W.s01 ?_ | refine W.s10 ?_ | refine W.s11 ?_ | refine W.s10e ?_ | refine W.sar ?_ | refine W.bs0 fun b_ => ?_ | refine W.ma fun b_ => ?_ | refine W.ex ?_ | refine W.bsl fun b_ => ?_ | refine W.mk ?_ | refine W.ett ?_ | refine W.est ?_ | refine W.nst ?_ | refine SW.seq ?_ | refine SW.region ?_ | refine SW.block ?_ | refine SW.cond_t rfl ?_ | refine SW.cond_f rfl ?_ | refine SW.exit ?_ | refine SW.ret ?_ | refine SW.skip ?_))
      refine F.f1 ?_
      refine ⟨rfl, Dv.setWs_ok hO (modL_len _ _ _ _) (modL_ok (fun j c w => Wd.tam_ok j c) bs σ.ws i hO.ok), bl, bn, bp, bm, vp, va, Hq, Ha, h4, h3, ?_⟩
      simp [Dv.setWs, Dv.len, modL_len, e3, e4]
  · have ht : σ.tamB x bs.length = false := by unfold Dv.tamB; exact decide_eq_false hb
    have hts : σ.tam x bs = σ := by unfold Dv.tam; rw [ht]; rfl
    rw [ht, hts]
    (repeat' (first | refine W.mv ?_ | refine W.ls ?_ | refine W.fa ?_ | refine W.nl ?_ | refine W.as ?_ | refine W.ct ?_ | refine W.cf ?_ | refine W.ad ?_ | refine W.sb ?_ | refine W.ml ?_ | refine W.st ?_ | refine SL.nilB ?_ | refine SL.nil ?_ | refine W.ln ?_ | refine W.ix ?_ | refine W.lw ?_ | refine W.la ?_ | refine W.al fun b_ => ?_ | refine W.bx fun b_ => ?_ | refine W.bxa fun b_ => ?_ | refine W.sw ?_ | refine W.sa ?_ | refine W.pkt ?_ | refine W.pkf ?_ | refine W.ua ?_ | refine W.en ?_ | refine W.nn ?_ | refine W.es ?_ | refine W.ns ?_ | refine W.nt ?_ | refine W.fs ?_ | refine W.fg ?_ | refine W.bd ?_ | refine W.bda ?_ | refine W.mf ?_ | refine W.mx ?_ | refine W.mn ?_ | refine W.qu ?_ | refine W.rm ?_ | refine W.lr ?_ | refine W.lt ?_ | refine W.cp ?_ | refine W.ixa ?_ | refine W.sk ?_ | refine W.lsR (by assumption) ?_ | refine W.laR (by assumption) ?_ | refine W.eb ?_ | refine W.nb ?_ | refine W.ci ?_ | refine W.cv ?_ | refine W.s01 ?_ | refine W.s10 ?_ | refine W.s11 ?_ | refine W.s10e ?_ | refine W.sar ?_ | refine W.bs0 fun b_ => ?_ | refine W.ma fun b_ => ?_ | refine W.ex ?_ | refine W.bsl fun b_ => ?_ | refine W.mk ?_ | refine W.ett ?_ | refine W.est ?_ | refine W.nst ?_ | refine SW.seq ?_ | refine SW.region ?_ | refine SW.block ?_ | refine SW.cond_t rfl ?_ | refine SW.cond_f rfl ?_ | refine SW.exit ?_ | refine SW.ret ?_ | refine SW.skip ?_ | (refine W.cs (fun h_ => ?_) (fun h_ => ?_) <;> dsimp only [cmpP] at h_) | (refine SW.cond_d rfl (fun h_ => ?_) (fun h_ => ?_) <;> (try dsimp only [cmpP] at h_)) | refine SW.cond_b rfl (fun h_ => ?_) (fun h_ => ?_)))
    all_goals first | (exfalso; omega) | skip
    all_goals (refine F.f1 ?_; exact ⟨rfl, hD0⟩)
end Go.Proofs.Ytlpgegglobhclaa
