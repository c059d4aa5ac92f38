/- A number's lowest bytes, the program's and the document's. -/
import Derived.Test.YthnoiniadmmiiaaGreatPa6
import Derived.Test.YthnoiniadmmiiaaGreatPa9
set_option linter.unusedVariables false
set_option linter.unusedSimpArgs false
set_option linter.unusedSectionVars false
namespace Go.Proofs.YthnoiniadmmiiaaGreat
open Go
attribute [local irreducible] SW SL SQ SH SA SS Pu Fin CutF HandF

instance (priority := low) cv8n (n : Nat) : Cv .u8 (n : Int) ((UInt8.ofNat n).toNat : Int) := ⟨by
  rw [wrap8, UInt8.toNat_ofNat']; omega⟩
theorem Sl.own (e n b : Nat) {len : Nat} {xs : List Value} (h : xs.length = len * n) : Sl e n (.slice (some ⟨b, 0, none⟩) len len) xs [(b, cl xs e)] := by
  have := Sl.mk (e := e) (n := n) (b := b) (len := len) (cap := len) (xs := xs) (junk := []) h (by simp) (Nat.le_refl _)
  rwa [List.append_nil] at this
theorem put_n (n : Nat) (v : UInt64) (hn : 1 ≤ n) (hn8 : n ≤ 8) : Tri Tryz.prog 171 [.int .i64 (n : Int), u64v v] [] (fun _ => True) (fun r H => ∃ b, r = .slice (some ⟨b, 0, none⟩) n n ∧ H = [(b, cl (cbs (leN n v)) 5)]) := by
  refine Tri.mk Tryz.func171 rfl Tryz.ntmps171 rfl fun w hw => ?_
  (repeat' (first | (refine W.go ?_; try intro b_) | fail))
  refine W.call (bytes_p n v (byU v) 244 [numV n v] hn hn8 (fun k hk => up_p n v k (by omega))) ?_
  rintro _ _ ⟨b, rfl, rfl⟩
  rw [show (List.range n).map (byU v) = leN n v from rfl]
  (repeat' (first | (refine W.go ?_; try intro b_) | fail))
  refine Fin.to [(b, cl (cbs (leN n v)) 5)] ?_
  refine F.f1 ?_
  exact ⟨b, rfl, rfl⟩
theorem rput_n (n : Nat) (v : UInt64) (hn8 : n ≤ 8) : Tri Tryz.prog 206 [.int .i64 (n : Int), u64v v] [] (fun _ => True) (fun r H => Sl 5 1 r (cbs (leN n v)) H) := by
  refine Tri.mk Tryz.func206 rfl Tryz.ntmps206 rfl fun w hw => ?_
  (repeat' (first | (refine W.gb ?_; try intro b_) | fail))
  have hV : v.toNat < 18446744073709551616 := v.toNat_lt
  refine SW.cutH [0] [] (fun x : Value × Hp => [(5, x.1)]) (fun x => x.2) (fun x => Sl 5 1 x.1 (cbs (leN n v)) x.2) ?_ ?_
  · (repeat' (first | (refine W.go ?_; try intro b_) | fail))
    rw [show u64v v = .int .u64 ((v.toNat / 256 ^ 0 : Nat) : Int) by simp [u64v]]
    refine SW.loopF [0] (fun x : Nat × Value × Hp => [(1, .int .u64 ((v.toNat / 256 ^ x.1 : Nat) : Int)), (5, x.2.1), (6, .int .i64 (x.1 : Int))]) (fun x => x.2.2) (fun x => n - x.1) (fun x => x.1 ≤ n ∧ Sl 5 1 x.2.1 (cbs (leN x.1 v)) x.2.2) (0, .slice none 0 0, []) ⟨by omega, Sl.nil _ _⟩ ?_
    rintro ⟨i, v2, H2⟩ ⟨hi, h2⟩
    dsimp only at hi h2 ⊢
    have h21 := h2.isOne
    by_cases hin : i < n
    · have hs : leN (i + 1) v = leN i v ++ [byU v i] := by simp [leN, List.range_succ]
      have hb := byU_eq v (k := i) (by omega)
      have hq : ((v.toNat / 256 ^ (i + 1) : Nat) : Int) = ((v.toNat / 256 ^ i : Nat) : Int) / 256 := by rw [Nat.pow_succ, ← Nat.div_div_eq_div_mul]; rfl
      have hx : v.toNat / 256 ^ i ≤ v.toNat := Nat.div_le_self ..
      generalize v.toNat / 256 ^ i = X at hb hq hx ⊢
      have hb1 : bfill (fun i => some (i * 1, 1)) (zs [.int .u8 0] 1) [(0, .int .u8 ((byU v i).toNat : Int))] = some (cbs [byU v i]) := rfl
      haveI i1 : Cv .u8 ((X : Int) % 256) ((byU v i).toNat : Int) := ⟨by rw [wrap8, hb, UInt8.toNat_ofNat']; omega⟩
      (repeat' (first | (refine W.go ?_; try intro b_) | fail))
      refine W.ap (ys := cbs [byU v i]) (mm := 1) h2 (fun w hs => (Sl.own 5 1 b_ (xs := cbs [byU v i]) rfl).srcAt hs inferInstance) (fun v3 H3 h3 => ?_) (hys := rfl) (hbytes := by simp [leN_len]; omega)
      have h31 := h3.isOne
      rw [← cbs_app, ← hs] at h3
      (repeat' (first | (refine W.go ?_; try intro b_) | fail))
      refine W.qu64 ?_
      (repeat' (first | (refine W.go ?_; try intro b_) | fail))
      rw [← hq]
      refine HandF.mk (i + 1, v3, H3) ?_
      exact ⟨by omega, h3⟩
    · have : i = n := by omega
      subst this
      (repeat' (first | (refine W.go ?_; try intro b_) | fail))
      refine CutF.mk (v2, H2) ?_
      exact h2
  rintro ⟨v2, H2⟩ h2
  dsimp only at h2 ⊢
  have h21 := h2.isOne
  (repeat' (first | (refine W.go ?_; try intro b_) | fail))
  refine Fin.to H2 ?_
  exact F.f1 h2
end Go.Proofs.YthnoiniadmmiiaaGreat
