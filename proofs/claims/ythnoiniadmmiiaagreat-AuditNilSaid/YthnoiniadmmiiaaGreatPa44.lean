/- A store's things; a pair of bases; a pair is formatted. -/
import Derived.Test.YthnoiniadmmiiaaGreatPa41
import Derived.Test.YthnoiniadmmiiaaGreatPa34
import Derived.Test.YthnoiniadmmiiaaGreatPa42
import Derived.Test.YthnoiniadmmiiaaGreatPa35
import Derived.Test.YthnoiniadmmiiaaGreatPa43
set_option linter.unusedVariables false
set_option linter.unusedSimpArgs false
set_option linter.unusedSectionVars false
namespace Go.Proofs.YthnoiniadmmiiaaGreat
open Go
attribute [local irreducible] SW SL SQ SH SA SS Pu Fin CutF HandF

/-- What is behind a call, in another order, and without what nobody needs. -/
theorem Tri.to {P : Program} {f : FuncId} {vs : List Value} {Hc : Hp} {Pre : World → Prop} {R R' : Value → Hp → Prop} (h : Tri P f vs Hc Pre R) (hr : ∀ v H, R v H → ∃ H' r, H.Perm (H' ++ r) ∧ R' v H') : Tri P f vs Hc Pre R' := fun w ho hp =>
  (h w ho hp).mono fun e w' ⟨v, H, he, hst, hR⟩ => by
    obtain ⟨H', r, h1, h2⟩ := hr v H hR
    exact ⟨v, H', he, (hst.perm h1).drop, h2⟩
def StoreP (sp d tr s bk p t : Nat) (x : So) (H : Hp) : Prop :=
  ∃ ev tp He Ht, H = (sp, cl [ptv d, ptv tr, ptv s, ptv bk, .int .i64 (p : Int), .int .i64 (t : Int), ev, ptv tp, .bool x.w, .int .i64 x.st] 177) :: (He ++ Ht) ∧ Sl 28 1 ev (uv x.es) He ∧ TreeV tp bk x.lv Ht
def RStoreP (sp d tr s p t : Nat) (x : So) (H : Hp) : Prop :=
  ∃ ev lv He Hl, H = (sp, cl [ptv d, ptv tr, ptv s, .int .i64 (p : Int), .int .i64 (t : Int), ev, lv, .bool x.w, .int .i64 x.st] 212) :: (He ++ Hl) ∧ Sl 28 1 ev (uv x.es) He ∧ Sl 88 32 lv (cbs x.lv.flatten) Hl
/-- A store, or none. -/
def StO (v : Value) (d tr s bk p t : Nat) (o : Option So) (H : Hp) : Prop := match o with | none => v = .pointer none ∧ H = [] | some x => ∃ sp, v = ptv sp ∧ StoreP sp d tr s bk p t x H
def RStO (v : Value) (d tr s p t : Nat) (o : Option So) (H : Hp) : Prop := match o with | none => v = .pointer none ∧ H = [] | some x => ∃ sp, v = ptv sp ∧ RStoreP sp d tr s p t x H
theorem StO.one {v : Value} {d tr s bk p t : Nat} {o : Option So} {H : Hp} (h : StO v d tr s bk p t o H) : One v := by
  cases o with
  | none => obtain ⟨rfl, -⟩ := h; infer_instance
  | some x => obtain ⟨sp, rfl, -⟩ := h; infer_instance
theorem RStO.one {v : Value} {d tr s p t : Nat} {o : Option So} {H : Hp} (h : RStO v d tr s p t o H) : One v := by
  cases o with
  | none => obtain ⟨rfl, -⟩ := h; infer_instance
  | some x => obtain ⟨sp, rfl, -⟩ := h; infer_instance
/-- Where a pair's things lie. -/
structure Pid where
  d : Nat
  tr : Nat
  s : Nat
  bk : Nat
  tb : Nat
  c : Nat
  b : Nat
  rd : Nat
  rtr : Nat
  rs : Nat
  rc : Nat
abbrev pairC (i : Pid) (p t : Nat) (sv rv : Value) : List Value := [ptv i.d, ptv i.tr, ptv i.s, ptv i.bk, .int .i64 (p : Int), .int .i64 (t : Int), sv, ptv i.rd, ptv i.rtr, ptv i.rs, .int .i64 (p : Int), .int .i64 (t : Int), rv]
def PairP (pp p t n N : Nat) (ws ws' : List (List UInt8)) (σ : Dv) (r : Rg) (sr : Sr) (β : Bk) (o : Option So) (H : Hp) : Prop :=
  ∃ (i : Pid) (sv rv : Value) (Hd Hs Hk HD HR HS HT : Hp), DevP i.d σ Hd ∧ SealP i.s i.c i.b n ws sr Hs ∧ BookP i.bk i.tb β Hk ∧ DevR i.rd σ HD ∧ RSealP i.rs i.rc n ws' N HR ∧ StO sv i.d i.tr i.s i.bk p t o HS ∧ RStO rv i.rd i.rtr i.rs p t o HT ∧
    H = (pp, cl (pairC i p t sv rv) 43) :: (i.tr, cl (trc i.d r) 245) :: (i.rtr, cl (rtc i.rd r) 142) :: (Hd ++ (Hs ++ (Hk ++ (HD ++ (HR ++ (HS ++ HT))))))
theorem sched_ok (k : List UInt8) (hk : k.length = 16) : KeyOk 10 (Aes.sched k) := by
  have h4 : ∀ y ∈ Aes.keyW k 4, y.length = 4 := Aes.keyW_four (by omega)
  have hl : (Aes.keyW k 4).length = 4 := Aes.keyW_len _ _
  have e : Aes.sched k = Aes.grow 4 (Aes.keyW k 4) 40 := by unfold Aes.sched; rw [hk]
  have hg : (Aes.sched k).length = 44 := by rw [e, Aes.grow_len, hl]
  exact ⟨by rw [e]; exact Aes.grow_four (by decide) h4 (by omega) 40, by omega, by decide, by omega⟩
theorem begin2_p {p t : Nat} (h : Gm.Ok p t) (k : List UInt8) (hk : k.length = 16) {cnt : Int} (h0 : 0 ≤ cnt) (h1 : cnt ≤ 18446744073709551615) : Tri Tryz.prog 15 [geoV p t, .agg (cbs k).toArray, .int .u64 cnt] [] (fun _ => True)
    (fun v H => ∃ pp, v = ptv pp ∧ PairP pp p t 10 0 (Aes.sched k) (Rg.sched k) (Dv.new (4 * Gm.total p t : Nat)) (rg0 cnt) Sr.new Bk.new none H) := by
  refine (begin_p h k hk h0 h1).to ?_
  rintro v H ⟨pp, rfl, d, tr, s, m, bk, tb, c, b, rd, rtr, rs, rc, Hd, Hb, Hc, HD, HR, hD, hB, hC, hDR, hR, rfl⟩
  rw [hk] at hC hR
  refine ⟨(pp, cl [ptv d, ptv tr, ptv s, ptv bk, .int .i64 (p : Int), .int .i64 (t : Int), .pointer none, ptv rd, ptv rtr, ptv rs, .int .i64 (p : Int), .int .i64 (t : Int), .pointer none] 43) :: (tr, cl (trc d (rg0 cnt)) 245) :: (rtr, cl (rgc (rg0 cnt) ++ [ptv rd]) 142) ::
    (Hd ++ (((s, cl [ptv c, .map (some m), .slice none 0 0] 201) :: (m, mo []) :: ((Hc ++ [(b, boxO)]) ++ ([] ++ []))) ++ (Hb ++ (HD ++ (((rs, cl [ptv rc, .slice none 0 0, .bool false, .int .u64 0, .int .i64 0, .slice none 0 0] 149) :: (HR ++ ([] ++ []))) ++ ([] ++ [])))))), [], ?_, ?_⟩
  · rw [List.append_nil]
    simp only [List.append_nil, List.nil_append]
    exact perm_of
  · refine ⟨pp, rfl, ⟨d, tr, s, bk, tb, c, b, rd, rtr, rs, rc⟩, _, _, Hd, _, Hb, HD, _, [], [], hD, ?_, hB, hDR, ?_, ⟨rfl, rfl⟩, ⟨rfl, rfl⟩, rfl⟩
    · exact ⟨m, .slice none 0 0, [], Hc, [], [], rfl, hC, Sl.nil _ _, rfl, by simp⟩
    · exact ⟨.slice none 0 0, false, 0, 0, .slice none 0 0, [], HR, [], [], rfl, hR, Sl.nil _ _, Nat.le_refl _, ⟨rfl⟩, by simp⟩
theorem pFormat_p {pp p t n N : Nat} {ws ws' : List (List UInt8)} {σ : Dv} {r : Rg} {sr : Sr} {β : Bk} {o : Option So} {H : Hp} (h : Gm.Ok p t) (hP : PairP pp p t n N ws ws' σ r sr β o H) (hlen : σ.len = 256 * Gm.total p t) (hr : r.Ok) (hK : KeyOk n ws) (hK' : KeyOk n ws') (hN : N ≤ 1000000) (hX : Rg.enc ws' n = Aes.enc ws n) :
    Tri Tryz.prog 39 [ptv pp] H (fun _ => True) (fun v H' => v = .bool true ∧
      PairP pp p t n (N + 200) ws ws' (fmtS p t (ctrX (Aes.enc ws n)) (σ, r)).2.1 (fmtS p t (ctrX (Aes.enc ws n)) (σ, r)).2.2 (fmtSr p σ r sr) (fmtK p t n ws σ r β) o H') := by
  obtain ⟨i, sv, rv, Hd, Hs, Hk, HD, HR, HS, HT, hD, hS, hB, hDR, hSR, hO, hOR, rfl⟩ := hP
  refine Tri.mk Tryz.func39 rfl Tryz.ntmps39 rfl fun w hw => ?_
  have hF := Format_p (tr := i.tr) h hD hlen hr hS hK hB
  have hG := rFormat_p (tr := i.rtr) h hDR hlen hr hSR hK' hN
  rw [hX] at hG
  have o1 := hO.one
  have o2 := hOR.one
  generalize fmtS p t (ctrX (Aes.enc ws n)) (σ, r) = FF at *
  (repeat' (first | (refine W.go ?_; try intro b_) | fail))
  (refine SW.regionS [9] ?_ (by kernel_rfl); refine SS.tw 0 rfl (p_move rfl rfl) ?_; refine SS.tw 1 rfl (p_nil rfl rfl) ?_; refine SS.tw 2 rfl (p_fieldAddr rfl rfl OfN.ok) ?_; (first | refine SS.lw 3 [4, 9] rfl ?_ | refine SS.la 3 [4, 9] rfl ?_ | refine SS.tw 3 rfl (p_load_aR rfl rfl (by assumption) (by assumption) (by assumption) (by assumption)) ?_); refine SS.tw 5 rfl (p_move rfl rfl) ?_; refine SS.tw 6 rfl (p_nil rfl rfl) ?_; refine SS.tw 7 rfl (p_fieldAddr rfl rfl OfN.ok) ?_; (first | refine SS.lw 8 [9] rfl ?_ | refine SS.la 8 [9] rfl ?_ | refine SS.tw 8 rfl (p_load_aR rfl rfl (by assumption) (by assumption) (by assumption) (by assumption)) ?_); refine SS.effK 4 ?_ rfl (by kernel_rfl))
  refine W.call hF ?_
  rintro _ _ ⟨rfl, Hd2, Hs2, Hk2, Hx, hD2, hS2, hB2, rfl⟩
  (refine SL.nilB ?_; refine SS.effB 9 ?_ rfl (by kernel_rfl))
  refine W.call hG ?_
  rintro _ _ ⟨rfl, HD2, HR2, hDR2, hSR2, rfl⟩
  (refine SL.nilB ?_; (first | refine SS.tw 10 rfl (Pu.t (p_cmp rfl rfl rfl rfl) (by dsimp only [cmpP]; first | done | omega)) ?_ | refine SS.tw 10 rfl (Pu.f (p_cmp rfl rfl rfl rfl) (by dsimp only [cmpP]; first | done | omega)) ?_ | refine SS.tw 10 rfl (p_cmp rfl rfl rfl rfl) ?_ | refine SS.tw 10 rfl (p_eqb rfl rfl rfl) ?_); refine SS.tw 11 rfl (p_assign rfl rfl) ?_; refine SS.done ?_ (by kernel_rfl))
  (repeat' (first | (refine W.go ?_; try intro b_) | fail))
  refine Fin.to ((pp, cl (pairC i p t sv rv) 43) :: (i.tr, cl (trc i.d FF.2.2) 245) :: (i.rtr, cl (rtc i.rd FF.2.2) 142) :: (Hd2 ++ (Hs2 ++ (Hk2 ++ (HD2 ++ (HR2 ++ (HS ++ HT))))))) ?_
  exact F.f1 ⟨rfl, i, sv, rv, Hd2, Hs2, Hk2, HD2, HR2, HS, HT, hD2, hS2, hB2, hDR2, hSR2, hO, hOR, rfl⟩
end Go.Proofs.YthnoiniadmmiiaaGreat
