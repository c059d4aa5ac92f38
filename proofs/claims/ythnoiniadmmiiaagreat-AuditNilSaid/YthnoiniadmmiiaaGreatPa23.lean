/- The document's own register. -/
import Derived.Test.YthnoiniadmmiiaaGreatPa20
import Derived.Test.YthnoiniadmmiiaaGreatPa22
import Derived.Test.YthnoiniadmmiiaaGreatPa2
set_option linter.unusedVariables false
set_option linter.unusedSimpArgs false
set_option linter.unusedSectionVars false
namespace Go.Proofs.YthnoiniadmmiiaaGreat
open Go
attribute [local irreducible] SW SL SQ SH SA SS Pu Fin

def rtc (e : Nat) (r : Rg) : List Value := rgc r ++ [.pointer (some ⟨e, 0, none⟩)]
theorem rtc_facts (e : Nat) {r : Rg} (h : r.Ok) : ((rtc e r).drop 0).take 33 = rgc r ∧ (rgc r).length = 33 ∧ (rtc e r)[33]? = some (.pointer (some ⟨e, 0, none⟩)) ∧ (rtc e r)[0]? = some (.int .u64 r.c) ∧ (rtc e r).length = 34 ∧ ((rtc e r).drop 1).take 32 = r.root.map bv := by
  have hl := rgc_len h
  refine ⟨?_, hl, ?_, rfl, by simp [rtc, hl], ?_⟩
  · rw [rtc, List.drop_zero, List.take_left' hl]
  · rw [rtc, List.getElem?_append_right (by omega), hl]; rfl
  · show ((r.root.map bv ++ _).take 32) = _
    rw [List.take_left' (by simpa using h.len)]
theorem rtc_put (e : Nat) {r r' : Rg} (h : r.Ok) (h' : r'.Ok) : (rtc e r).take 0 ++ rgc r' ++ (rtc e r).drop (0 + 33) = rtc e r' := by
  rw [rtc, List.take_zero, List.nil_append, List.drop_left' (by rw [rgc_len h])]; rfl

theorem rset_p (tp p : Nat) (r r' : Rg) (h : r.Ok) (h' : r'.Ok) {σ : Dv} {H : Hp} (hD : DevR p σ H) : Tri Tryz.prog 189 [.pointer (some ⟨tp, 0, none⟩), .agg (rgc r').toArray] ((tp, cl (rtc p r) 142) :: H) (fun _ => True)
    (fun v H' => v = .int .i64 (setE σ r r') ∧ ∃ H2, H' = (tp, cl (rtc p (setR σ r r')) 142) :: H2 ∧ DevR p (setD σ r r') H2) := by
  obtain ⟨f1, f2, f3, f4, f5, f6⟩ := rtc_facts p h
  have hl' := rgc_len h'
  have hr' : ((rgc r').drop 0).take 33 = rgc r' := by rw [List.drop_zero, List.take_of_length_le (by omega)]
  have fp := rtc_put p h h'
  have hdo := rdoo_p hD
  have hD2 := hD
  have b1 : 0 + 33 ≤ (rtc p r).length := by omega
  obtain ⟨hO, bl, bn, bp, bm, vp, va, Hq, Ha, h1, h2, rfl⟩ := hD2
  refine Tri.mk Tryz.func189 rfl Tryz.ntmps189 rfl fun w hw => ?_
  (repeat' (first | (refine W.go ?_; try intro b_) | fail))
  cases hd : σ.down
  · rw [hd] at hdo
    (repeat' (first | (refine W.go ?_; try intro b_) | fail))
    (refine SW.regionS [] ?_ (by kernel_rfl); refine SS.tw 0 rfl (p_fieldAddr rfl rfl OfN.ok) ?_; (first | refine SS.ls 1 [] rfl ?_ | refine SS.tw 1 rfl (p_load_sR rfl rfl (by assumption) (by assumption) (by assumption)) ?_); refine SS.tw 2 rfl (p_move rfl rfl) ?_; refine SS.tw 3 rfl (p_nil rfl rfl) ?_; refine SS.tw 4 rfl (p_fieldAddr rfl rfl OfN.ok) ?_; refine SS.tw 5 rfl (p_fieldAddr rfl rfl OfN.ok) ?_; (first | refine SS.ls 6 [] rfl ?_ | refine SS.tw 6 rfl (p_load_sR rfl rfl (by assumption) (by assumption) (by assumption)) ?_); (first | refine SS.tw 7 rfl (Pu.t (p_cmp rfl rfl rfl rfl) (by dsimp only [cmpP]; first | done | omega)) ?_ | refine SS.tw 7 rfl (Pu.f (p_cmp rfl rfl rfl rfl) (by dsimp only [cmpP]; first | done | omega)) ?_ | refine SS.tw 7 rfl (p_cmp rfl rfl rfl rfl) ?_ | refine SS.tw 7 rfl (p_neb rfl rfl rfl) ?_); refine SS.done ?_ (by kernel_rfl))
    (repeat' (first | (refine W.go ?_; try intro b_)  | (refine W.cs (fun h_ => ?_) (fun h_ => ?_) <;> dsimp only [cmpP] at h_) | (refine SW.cond_d rfl (fun h_ => ?_) (fun h_ => ?_) <;> (try dsimp only [cmpP] at h_)) | refine SW.cond_b rfl (fun h_ => ?_) (fun h_ => ?_)))
    · refine Fin.rm b_ ?_
      refine F.f1 ?_
      exact ⟨by simp [setE, hd, h_], _, by simp [setR, hd, h_]; rfl, by simpa [setD, hd, h_] using hD⟩
    · refine W.call hdo ?_
      rintro _ H2 ⟨rfl, hD2⟩
      have hD3 : DevR p (setD σ r r') H2 := by simpa [setD, hd, h_] using hD2
      by_cases he : σ.dooE = 0
      · (repeat' (first | (refine W.go ?_; try intro b_) | fail))
        refine Fin.rm b_ ?_; rw [fp]; refine Fin.perm List.perm_append_comm ?_; refine F.f1 ?_; exact ⟨by simp [setE, hd, h_, he], H2, by simp [setR, hd, h_, he], hD3⟩
      · (repeat' (first | (refine W.go ?_; try intro b_) | fail))
        refine Fin.rm b_ ?_; refine Fin.perm List.perm_append_comm ?_; refine F.f1 ?_; exact ⟨by simp [setE, hd, h_], H2, by simp [setR, hd, h_, he], hD3⟩
  · rw [hd] at hdo
    (repeat' (first | (refine W.go ?_; try intro b_) | fail))
    refine Fin.rm b_ ?_; refine F.f1 ?_; exact ⟨by simp [setE, hd], _, by simp [setR, hd]; rfl, by simpa [setD, hd] using hD⟩
end Go.Proofs.YthnoiniadmmiiaaGreat
