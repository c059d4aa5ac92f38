/- The document's own register. -/
import Derived.Test.YtlpgegglobhclaaRf6
import Derived.Test.YtlpgegglobhclaaTr4
import Derived.Test.YtlpgegglobhclaaW3
set_option linter.unusedVariables false
set_option linter.unusedSimpArgs false
namespace Go.Proofs.Ytlpgegglobhclaa
open Go
attribute [local irreducible] SW SL SQ SH SA SS Pu Fin

theorem rcrash_p {p : Nat} {σ : Dv} {H : Hp} (hD : DevR p σ H) (q : Value) (qs : List UInt8) : Tri Try.prog 23 [.pointer (some ⟨p, 0, none⟩), q] H (fun w => Rd (H.map Prod.fst) w 1 q (qs.map bv))
    (fun v H' => v = .tuple #[] ∧ DevR p (σ.crash qs) H') := by
  obtain ⟨hO, bl, bn, bp, bm, vp, va, Hq, Ha, h1, h2, rfl⟩ := hD
  have hlen : (σ.crash qs).ws.length = σ.ws.length := by unfold Dv.crash; cases σ.down <;> simp [crashL_len]
  have hk := rcrash_core (p := p) (bl := bl) (bn := bn) (bp := bp) (bm := bm) hO vp va q qs
  unfold rhdr at hk
  refine (hk.frame (r := Hq ++ Ha) (List.Perm.refl _) (fun w ho hr => ?_)).mono ?_
  · obtain ⟨a, len, cap, rfl, hl, hc, hb⟩ := hr
    refine ⟨a, len, cap, rfl, hl, hc, hb.imp id fun ⟨b, o, l, T, fz, ha, hb, hk, hy⟩ => ⟨b, o, l, T, fz, ha, hb, fun hm => hk ?_, hy⟩⟩
    simp only [List.mem_cons, List.not_mem_nil, or_false] at hm
    rcases hm with rfl | rfl | rfl | rfl | rfl <;> simp
  · rintro v H' ⟨H1, rfl, rfl, rfl⟩
    refine ⟨rfl, Dv.crash_ok qs hO, bl, bn, bp, bm, vp, va, Hq, Ha, ?_, ?_, rfl⟩
    · unfold Dv.crash; cases σ.down <;> exact h1
    · unfold Dv.crash; cases σ.down <;> exact h2

def rtc (e : Nat) (r : Rg) : List Value := rgc r ++ [.pointer (some ⟨e, 0, none⟩)]
instance (e : Nat) (r : Rg) : OC (rtc e r) := by unfold rtc; infer_instance
theorem rtc_facts (e : Nat) {r : Rg} (h : r.Ok) : ((rtc e r).drop 0).take 33 = rgc r ∧ (rgc r).length = 33 ∧ (rtc e r)[33]? = some (.pointer (some ⟨e, 0, none⟩)) ∧ (rtc e r)[0]? = some (.int .u64 r.c) ∧ (rtc e r).length = 34 ∧ ((rtc e r).drop 1).take 32 = r.root.map bv := by
  have hl := rgc_len h
  refine ⟨?_, hl, ?_, rfl, by simp [rtc, hl], ?_⟩
  · rw [rtc, List.drop_zero, List.take_left' hl]
  · rw [rtc, List.getElem?_append_right (by omega), hl]; rfl
  · show ((r.root.map bv ++ _).take 32) = _
    rw [List.take_left' (by simpa using h.len)]
theorem rtc_put (e : Nat) {r r' : Rg} (h : r.Ok) (h' : r'.Ok) : (rtc e r).take 0 ++ rgc r' ++ (rtc e r).drop (0 + 33) = rtc e r' := by
  rw [rtc, List.take_zero, List.nil_append, List.drop_left' (by rw [rgc_len h])]; rfl

theorem rset_p (tp p : Nat) (r r' : Rg) (h : r.Ok) (h' : r'.Ok) {σ : Dv} {H : Hp} (hD : DevR p σ H) : Tri Try.prog 22 [.pointer (some ⟨tp, 0, none⟩), .agg (rgc r').toArray] ((tp, cl (rtc p r) 47) :: H) (fun _ => True)
    (fun v H' => v = .int .i64 (setE σ r r') ∧ ∃ H2, H' = (tp, cl (rtc p (setR σ r r')) 47) :: H2 ∧ DevR p (setD σ r r') H2) := by
  obtain ⟨f1, f2, f3, f4, f5, f6⟩ := rtc_facts p h
  have hl' := rgc_len h'
  have hr' : ((rgc r').drop 0).take 33 = rgc r' := by rw [List.drop_zero, List.take_of_length_le (by omega)]
  have fp := rtc_put p h h'
  have hdo := rdoo_p hD
  have hD2 := hD
  have b1 : 0 + 33 ≤ (rtc p r).length := by omega
  obtain ⟨hO, bl, bn, bp, bm, vp, va, Hq, Ha, h1, h2, rfl⟩ := hD2
  refine Tri.mk Try.func22 rfl Try.ntmps22 rfl fun w hw => ?_
  (repeat' (first | refine W.mv ?_ | refine W.ls ?_ | refine W.fa ?_ | refine W.nl ?_ | refine W.as ?_ | refine W.ct ?_ | refine W.cf ?_ | refine W.ad ?_ | refine W.sb ?_ | refine W.ml ?_ | refine W.st ?_ | refine SL.nilB ?_ | refine SL.nil ?_ | refine W.ln ?_ | refine W.ix ?_ | refine W.lw ?_ | refine W.la ?_ | refine W.al fun b_ => ?_ | refine W.bx fun b_ => ?_ | refine W.bxa fun b_ => ?_ | refine W.sw ?_ | refine W.sa ?_ | refine W.pkt ?_ | refine W.pkf ?_ | refine W.ua ?_ | refine W.en ?_ | refine W.nn ?_ | refine W.es ?_ | refine W.ns ?_ | refine W.nt ?_ | refine W.fs ?_ | refine W.fg ?_ | refine W.bd ?_ | refine W.bda ?_ | refine W.mf ?_ | refine W.mx ?_ | refine W.mn ?_ | refine W.qu ?_ | refine W.rm ?_ | refine W.lr ?_ | refine W.lt ?_ | refine W.cp ?_ | refine W.ixa ?_ | refine W.sk ?_ | refine W.lsR (by assumption) ?_ | refine W.laR (by assumption) ?_ | refine W.eb ?_ | refine W.nb ?_ | refine W.ci ?_ | refine W.cv ?_ | refine W.s01 ?_ | refine W.s10 ?_ | refine W.s11 ?_ | refine SW.seq ?_ | refine SW.region ?_ | refine SW.block ?_ | refine SW.cond_t rfl ?_ | refine SW.cond_f rfl ?_ | refine SW.exit ?_ | refine SW.ret ?_ | refine SW.skip ?_))
  cases hd : σ.down
  · rw [hd] at hdo
    (repeat' (first | refine W.mv ?_ | refine W.ls ?_ | refine W.fa ?_ | refine W.nl ?_ | refine W.as ?_ | refine W.ct ?_ | refine W.cf ?_ | refine W.ad ?_ | refine W.sb ?_ | refine W.ml ?_ | refine W.st ?_ | refine SL.nilB ?_ | refine SL.nil ?_ | refine W.ln ?_ | refine W.ix ?_ | refine W.lw ?_ | refine W.la ?_ | refine W.al fun b_ => ?_ | refine W.bx fun b_ => ?_ | refine W.bxa fun b_ => ?_ | refine W.sw ?_ | refine W.sa ?_ | refine W.pkt ?_ | refine W.pkf ?_ | refine W.ua ?_ | refine W.en ?_ | refine W.nn ?_ | refine W.es ?_ | refine W.ns ?_ | refine W.nt ?_ | refine W.fs ?_ | refine W.fg ?_ | refine W.bd ?_ | refine W.bda ?_ | refine W.mf ?_ | refine W.mx ?_ | refine W.mn ?_ | refine W.qu ?_ | refine W.rm ?_ | refine W.lr ?_ | refine W.lt ?_ | refine W.cp ?_ | refine W.ixa ?_ | refine W.sk ?_ | refine W.lsR (by assumption) ?_ | refine W.laR (by assumption) ?_ | refine W.eb ?_ | refine W.nb ?_ | refine W.ci ?_ | refine W.cv ?_ | refine W.s01 ?_ | refine W.s10 ?_ | refine W.s11 ?_ | refine SW.seq ?_ | refine SW.region ?_ | refine SW.block ?_ | refine SW.cond_t rfl ?_ | refine SW.cond_f rfl ?_ | refine SW.exit ?_ | refine SW.ret ?_ | refine SW.skip ?_))
    (refine SW.regionS [] ?_ (by kernel_rfl); refine SS.tw 0 rfl (p_fieldAddr rfl rfl OfN.ok) ?_; (first | refine SS.ls 1 [] rfl ?_ | refine SS.tw 1 rfl (p_load_sR rfl rfl (by assumption) (by assumption) (by assumption)) ?_); refine SS.tw 2 rfl (p_move rfl rfl) ?_; refine SS.tw 3 rfl (p_nil rfl rfl) ?_; refine SS.tw 4 rfl (p_fieldAddr rfl rfl OfN.ok) ?_; refine SS.tw 5 rfl (p_fieldAddr rfl rfl OfN.ok) ?_; (first | refine SS.ls 6 [] rfl ?_ | refine SS.tw 6 rfl (p_load_sR rfl rfl (by assumption) (by assumption) (by assumption)) ?_); (first | refine SS.tw 7 rfl (Pu.t (p_cmp rfl rfl rfl rfl) (by dsimp only [cmpP]; omega)) ?_ | refine SS.tw 7 rfl (Pu.f (p_cmp rfl rfl rfl rfl) (by dsimp only [cmpP]; omega)) ?_ | refine SS.tw 7 rfl (p_cmp rfl rfl rfl rfl) ?_ | refine SS.tw 7 rfl (p_neb rfl rfl rfl) ?_); refine SS.done ?_ (by kernel_rfl))
    (repeat' (first | refine W.mv ?_ | refine W.ls ?_ | refine W.fa ?_ | refine W.nl ?_ | refine W.as ?_ | refine W.ct ?_ | refine W.cf ?_ | refine W.ad ?_ | refine W.sb ?_ | refine W.ml ?_ | refine W.st ?_ | refine SL.nilB ?_ | refine SL.nil ?_ | refine W.ln ?_ | refine W.ix ?_ | refine W.lw ?_ | refine W.la ?_ | refine W.al fun b_ => ?_ | refine W.bx fun b_ => ?_ | refine W.bxa fun b_ => ?_ | refine W.sw ?_ | refine W.sa ?_ | refine W.pkt ?_ | refine W.pkf ?_ | refine W.ua ?_ | refine W.en ?_ | refine W.nn ?_ | refine W.es ?_ | refine W.ns ?_ | refine W.nt ?_ | refine W.fs ?_ | refine W.fg ?_ | refine W.bd ?_ | refine W.bda ?_ | refine W.mf ?_ | refine W.mx ?_ | refine W.mn ?_ | refine W.qu ?_ | refine W.rm ?_ | refine W.lr ?_ | refine W.lt ?_ | refine W.cp ?_ | refine W.ixa ?_ | refine W.sk ?_ | refine W.lsR (by assumption) ?_ | refine W.laR (by assumption) ?_ | refine W.eb ?_ | refine W.nb ?_ | refine W.ci ?_ | refine W.cv ?_ | refine W.s01 ?_ | refine W.s10 ?_ | refine W.s11 ?_ | refine SW.seq ?_ | refine SW.region ?_ | refine SW.block ?_ | refine SW.cond_t rfl ?_ | refine SW.cond_f rfl ?_ | refine SW.exit ?_ | refine SW.ret ?_ | refine SW.skip ?_ | (refine W.cs (fun h_ => ?_) (fun h_ => ?_) <;> dsimp only [cmpP] at h_) | (refine SW.cond_d rfl (fun h_ => ?_) (fun h_ => ?_) <;> (try dsimp only [cmpP] at h_)) | refine SW.cond_b rfl (fun h_ => ?_) (fun h_ => ?_)))
    · refine Fin.rm b_ ?_
      refine F.f1 ?_
      exact ⟨by simp [setE, hd, h_], _, by simp [setR, hd, h_]; rfl, by simpa [setD, hd, h_] using hD⟩
    · refine W.cl hdo ?_
      rintro _ H2 ⟨rfl, hD2⟩
      have hD3 : DevR p (setD σ r r') H2 := by simpa [setD, hd, h_] using hD2
      by_cases he : σ.dooE = 0
      · (repeat' (first | refine W.mv ?_ | refine W.ls ?_ | refine W.fa ?_ | refine W.nl ?_ | refine W.as ?_ | refine W.ct ?_ | refine W.cf ?_ | refine W.ad ?_ | refine W.sb ?_ | refine W.ml ?_ | refine W.st ?_ | refine SL.nilB ?_ | refine SL.nil ?_ | refine W.ln ?_ | refine W.ix ?_ | refine W.lw ?_ | refine W.la ?_ | refine W.al fun b_ => ?_ | refine W.bx fun b_ => ?_ | refine W.bxa fun b_ => ?_ | refine W.sw ?_ | refine W.sa ?_ | refine W.pkt ?_ | refine W.pkf ?_ | refine W.ua ?_ | refine W.en ?_ | refine W.nn ?_ | refine W.es ?_ | refine W.ns ?_ | refine W.nt ?_ | refine W.fs ?_ | refine W.fg ?_ | refine W.bd ?_ | refine W.bda ?_ | refine W.mf ?_ | refine W.mx ?_ | refine W.mn ?_ | refine W.qu ?_ | refine W.rm ?_ | refine W.lr ?_ | refine W.lt ?_ | refine W.cp ?_ | refine W.ixa ?_ | refine W.sk ?_ | refine W.lsR (by assumption) ?_ | refine W.laR (by assumption) ?_ | refine W.eb ?_ | refine W.nb ?_ | refine W.ci ?_ | refine W.cv ?_ | refine W.s01 ?_ | refine W.s10 ?_ | refine W.s11 ?_ | refine SW.seq ?_ | refine SW.region ?_ | refine SW.block ?_ | refine SW.cond_t rfl ?_ | refine SW.cond_f rfl ?_ | refine SW.exit ?_ | refine SW.ret ?_ | refine SW.skip ?_))
        refine Fin.rm b_ ?_; rw [fp]; refine Fin.perm List.perm_append_comm ?_; refine F.f1 ?_; exact ⟨by simp [setE, hd, h_, he], H2, by simp [setR, hd, h_, he], hD3⟩
      · (repeat' (first | refine W.mv ?_ | refine W.ls ?_ | refine W.fa ?_ | refine W.nl ?_ | refine W.as ?_ | refine W.ct ?_ | refine W.cf ?_ | refine W.ad ?_ | refine W.sb ?_ | refine W.ml ?_ | refine W.st ?_ | refine SL.nilB ?_ | refine SL.nil ?_ | refine W.ln ?_ | refine W.ix ?_ | refine W.lw ?_ | refine W.la ?_ | refine W.al fun b_ => ?_ | refine W.bx fun b_ => ?_ | refine W.bxa fun b_ => ?_ | refine W.sw ?_ | refine W.sa ?_ | refine W.pkt ?_ | refine W.pkf ?_ | refine W.ua ?_ | refine W.en ?_ | refine W.nn ?_ | refine W.es ?_ | refine W.ns ?_ | refine W.nt ?_ | refine W.fs ?_ | refine W.fg ?_ | refine W.bd ?_ | refine W.bda ?_ | refine W.mf ?_ | refine W.mx ?_ | refine W.mn ?_ | refine W.qu ?_ | refine W.rm ?_ | refine W.lr ?_ | refine W.lt ?_ | refine W.cp ?_ | refine W.ixa ?_ | refine W.sk ?_ | refine W.lsR (by assumption) ?_ | refine W.laR (by assumption) ?_ | refine W.eb ?_ | refine W.nb ?_ | refine W.ci ?_ | refine W.cv ?_ | refine W.s01 ?_ | refine W.s10 ?_ | refine W.s11 ?_ | refine SW.seq ?_ | refine SW.region ?_ | refine SW.block ?_ | refine SW.cond_t rfl ?_ | refine SW.cond_f rfl ?_ | refine SW.exit ?_ | refine SW.ret ?_ | refine SW.skip ?_))
        refine Fin.rm b_ ?_; refine Fin.perm List.perm_append_comm ?_; refine F.f1 ?_; exact ⟨by simp [setE, hd, h_], H2, by simp [setR, hd, h_, he], hD3⟩
  · rw [hd] at hdo
    (repeat' (first | refine W.mv ?_ | refine W.ls ?_ | refine W.fa ?_ | refine W.nl ?_ | refine W.as ?_ | refine W.ct ?_ | refine W.cf ?_ | refine W.ad ?_ | refine W.sb ?_ | refine W.ml ?_ | refine W.st ?_ | refine SL.nilB ?_ | refine SL.nil ?_ | refine W.ln ?_ | refine W.ix ?_ | refine W.lw ?_ | refine W.la ?_ | refine W.al fun b_ => ?_ | refine W.bx fun b_ => ?_ | refine W.bxa fun b_ => ?_ | refine W.sw ?_ | refine W.sa ?_ | refine W.pkt ?_ | refine W.pkf ?_ | refine W.ua ?_ | refine W.en ?_ | refine W.nn ?_ | refine W.es ?_ | refine W.ns ?_ | refine W.nt ?_ | refine W.fs ?_ | refine W.fg ?_ | refine W.bd ?_ | refine W.bda ?_ | refine W.mf ?_ | refine W.mx ?_ | refine W.mn ?_ | refine W.qu ?_ | refine W.rm ?_ | refine W.lr ?_ | refine W.lt ?_ | refine W.cp ?_ | refine W.ixa ?_ | refine W.sk ?_ | refine W.lsR (by assumption) ?_ | refine W.laR (by assumption) ?_ | refine W.eb ?_ | refine W.nb ?_ | refine W.ci ?_ | refine W.cv ?_ | refine W.s01 ?_ | refine W.s10 ?_ | refine W.s11 ?_ | refine SW.seq ?_ | refine SW.region ?_ | refine SW.block ?_ | refine SW.cond_t rfl ?_ | refine SW.cond_f rfl ?_ | refine SW.exit ?_ | refine SW.ret ?_ | refine SW.skip ?_))
    refine Fin.rm b_ ?_; refine F.f1 ?_; exact ⟨by simp [setE, hd], _, by simp [setR, hd]; rfl, by simpa [setD, hd] using hD⟩
end Go.Proofs.Ytlpgegglobhclaa
