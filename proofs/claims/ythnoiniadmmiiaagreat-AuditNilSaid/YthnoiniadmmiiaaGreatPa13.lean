/- The program's AES: the next word. -/
import Derived.Test.YthnoiniadmmiiaaGreatPa8
import Derived.Test.YthnoiniadmmiiaaGreatPa12
set_option linter.unusedVariables false
set_option linter.unusedSimpArgs false
set_option linter.unusedSectionVars false
namespace Go.Proofs.YthnoiniadmmiiaaGreat
open Go
attribute [local irreducible] SW SL SQ SH SA SS Pu Fin CutF HandF

namespace Aes
def rotW (w : List UInt8) : List UInt8 := w.drop 1 ++ w.take 1
def xorH (w : List UInt8) (p : UInt8) : List UInt8 := w.set 0 (w.getD 0 0 ^^^ p)
/-- What word number i is reckoned with; w: the one ahead of it. -/
def nextW (w : List UInt8) (i n : Nat) : List UInt8 :=
  if i % n = 0 then xorH (subW (rotW w)) (Gf.pow 2 (i / n - 1)) else if 6 < n ∧ i % n = 4 then subW w else w
theorem nextW_len {w : List UInt8} (h : w.length = 4) (i n : Nat) : (nextW w i n).length = 4 := by
  unfold nextW xorH rotW
  split
  · rw [List.length_set, subW_len]; simp; omega
  · split
    · rw [subW_len]; exact h
    · exact h
end Aes
theorem four {w : List UInt8} (h : w.length = 4) : ∃ a b c d, w = [a, b, c, d] := by
  match w, h with
  | [a, b, c, d], _ => exact ⟨a, b, c, d, rfl⟩

abbrev W4 (ws : List (List UInt8)) : Prop := ∀ x ∈ ws, x.length = 4
theorem anext_p {c b bw len cap : Nat} {r : Value} {junk : List Value} (ws : List (List UInt8)) (hws : W4 ws) (hl : ws.length = len) (hc : len ≤ cap) (w0 : List UInt8) (i n : Nat) (hn : 4 ≤ n) (hn8 : n ≤ 8) (hi : n ≤ i) (hi6 : i ≤ 1000) (hw0 : ws[i - 1]? = some w0) :
    Tri Tryz.prog 132 [.pointer (some ⟨c, 0, none⟩), .int .i64 (i : Int), .int .i64 (n : Int)] [(bw, cl (cbs ws.flatten ++ junk) 237), (c, cipO b (.slice (some ⟨bw, 0, none⟩) len cap) r), (b, boxO)] (fun _ => True)
    (fun v H => v = .agg (cbs (Aes.nextW w0 i n)).toArray ∧ H = [(bw, cl (cbs ws.flatten ++ junk) 237), (c, cipO b (.slice (some ⟨bw, 0, none⟩) len cap) r), (b, boxO)]) := by
  refine Tri.mk Tryz.func132 rfl Tryz.ntmps132 rfl fun w hw => ?_
  have hx4 := hws w0 (List.mem_of_getElem? hw0)
  have hil : i - 1 < ws.length := (List.getElem?_eq_some_iff.1 hw0).1
  have hg := cbs_getJ (junk := junk) hws hw0
  haveI : NatI ((i : Int) - 1) (i - 1) := ⟨by omega⟩
  obtain ⟨a0, a1, a2, a3, rfl⟩ := four hx4
  have hL := Aes.nextW_len hx4 i n
  have hL2 : (cbs (Aes.nextW [a0, a1, a2, a3] i n)).length = 4 := by unfold cbs; rw [List.length_map, hL]
  generalize hF : (cbs ws.flatten ++ junk) = Fc at *
  (repeat' (first | (refine W.gb ?_; try intro b_) | fail))
  rename_i b6
  have hR : ∀ k, k = i / n - 1 → (i : Int) / (n : Int) - 1 = (k : Int) := fun k hk => by
    have h1 : 1 ≤ i / n := Nat.div_pos hi (by omega)
    have h2 : (i : Int) / (n : Int) = ((i / n : Nat) : Int) := by simp
    omega
  have hM : (i : Int) % (n : Int) = ((i % n : Nat) : Int) := by simp
  refine SW.cutH [6, 7] [(b_, cl (cbs [a0, a1, a2, a3]) 237), (b6, cl [.int .u8 0, .int .u8 0, .int .u8 0, .int .u8 0] 237), (bw, cl Fc 237), (c, cipO b (.slice (some ⟨bw, 0, none⟩) len cap) r), (b, boxO)] (fun _ : Unit => [])
    (fun _ => [(b_, cl (cbs (Aes.nextW [a0, a1, a2, a3] i n)) 237), (b6, cl [.int .u8 0, .int .u8 0, .int .u8 0, .int .u8 0] 237), (bw, cl Fc 237), (c, cipO b (.slice (some ⟨bw, 0, none⟩) len cap) r), (b, boxO)]) (fun _ => True) ?_ ?_
  · have hs := asub_p (c := c) (b := b) (ws := .slice (some ⟨bw, 0, none⟩) len cap) (r := r)
    by_cases h0 : i % n = 0
    · rw [h0] at hM
      have e : Aes.nextW [a0, a1, a2, a3] i n = [Aes.S a1 ^^^ Gf.pow 2 (i / n - 1), Aes.S a2, Aes.S a3, Aes.S a0] := by unfold Aes.nextW; rw [if_pos h0]; rfl
      have hc0 : cbs [a0, a1, a2, a3] = [u8v a0, u8v a1, u8v a2, u8v a3] := rfl
      have hl4 : (cbs (Aes.subW [a1, a2, a3, a0])).length = 4 := rfl
      rw [e, hc0]
      (repeat' (first | (refine W.go ?_; try intro b_) | fail))
      refine W.call (hs [a1, a2, a3, a0] rfl) ?_
      rintro _ _ ⟨rfl, rfl⟩
      (repeat' (first | (refine W.go ?_; try intro b_) | fail))
      have hw : IntKind.i64.wrap ((i : Int) / (n : Int) - 1) = ((i / n - 1 : Nat) : Int) := by
        have h2 : i / n ≤ 1000 := Nat.le_trans (Nat.div_le_self ..) hi6
        rw [hR _ rfl]; exact w64 (by omega)
      have h2 : i / n - 1 ≤ 1000000 := by
        have h2 : i / n ≤ 1000 := Nat.le_trans (Nat.div_le_self ..) hi6
        omega
      (refine SW.regionS [9] ?_ (by kernel_rfl); (first | refine SS.tw 0 rfl (p_ix rfl rfl rfl (by omega)) ?_ | refine SS.tw 0 rfl (p_ixa rfl rfl rfl (by omega)) ?_); (first | refine SS.ls 1 [9] rfl ?_ | refine SS.tw 1 rfl (p_load_sR rfl rfl (by assumption) (by assumption) (by assumption)) ?_); refine SS.tw 2 rfl (p_move rfl rfl) ?_; refine SS.tw 3 rfl (p_move rfl rfl) ?_; refine SS.tw 4 rfl (p_quoP rfl rfl rfl (by omega) (by omega) (by omega)) ?_; refine SS.tw 5 rfl (p_sub rfl rfl rfl hw) ?_; refine SS.effK 6 ?_ rfl (by kernel_rfl))
      refine W.call (power_p 2 (i / n - 1) h2) ?_
      rintro _ _ ⟨rfl, rfl⟩
      (refine SL.nilB ?_; refine SS.tw 7 rfl (p_uar rfl rfl rfl) ?_; (first | refine SS.tw 8 rfl (p_ix rfl rfl rfl (by omega)) ?_ | refine SS.tw 8 rfl (p_ixa rfl rfl rfl (by omega)) ?_); refine SS.effB 9 ?_ rfl (by kernel_rfl); (repeat' (first | (refine W.g1 ?_; try intro b_) | fail)); refine SS.done ?_ (by kernel_rfl))
      have hfin : (cbs (Aes.subW [a1, a2, a3, a0])).set 0 (.int .u8 ((Aes.S a1 ^^^ Gf.pow 2 (i / n - 1)).toNat : Int)) = cbs [Aes.S a1 ^^^ Gf.pow 2 (i / n - 1), Aes.S a2, Aes.S a3, Aes.S a0] := rfl
      rw [hfin]
      (repeat' (first | (refine W.go ?_; try intro b_) | fail))
      refine CutF.mk () ?_
      trivial
    · have h0' : ¬ (i : Int) % (n : Int) = 0 := by omega
      by_cases h6 : 6 < n
      · by_cases h4 : i % n = 4
        · have h4' : (i : Int) % (n : Int) = 4 := by omega
          have e : Aes.nextW [a0, a1, a2, a3] i n = Aes.subW [a0, a1, a2, a3] := by unfold Aes.nextW; rw [if_neg h0, if_pos ⟨h6, h4⟩]
          have hl4 : (cbs (Aes.subW [a0, a1, a2, a3])).length = 4 := rfl
          rw [e]
          (repeat' (first | (refine W.go ?_; try intro b_) | fail))
          refine W.call (hs [a0, a1, a2, a3] rfl) ?_
          rintro _ _ ⟨rfl, rfl⟩
          (repeat' (first | (refine W.go ?_; try intro b_) | fail))
          refine CutF.mk () ?_
          trivial
        · have h4' : ¬ (i : Int) % (n : Int) = 4 := by omega
          have e : Aes.nextW [a0, a1, a2, a3] i n = [a0, a1, a2, a3] := by unfold Aes.nextW; rw [if_neg h0, if_neg (fun h => h4 h.2)]
          rw [e]
          (repeat' (first | (refine W.go ?_; try intro b_) | fail))
          refine CutF.mk () ?_
          trivial
      · have e : Aes.nextW [a0, a1, a2, a3] i n = [a0, a1, a2, a3] := by unfold Aes.nextW; rw [if_neg h0, if_neg (fun h => h6 h.1)]
        rw [e]
        (repeat' (first | (refine W.go ?_; try intro b_) | fail))
        refine CutF.mk () ?_
        trivial
  rintro _ -
  (repeat' (first | (refine W.go ?_; try intro b_) | fail))
  exact F.cH [(bw, cl Fc 237), (c, cipO b (.slice (some ⟨bw, 0, none⟩) len cap) r), (b, boxO)] _ ⟨rfl, rfl⟩
end Go.Proofs.YthnoiniadmmiiaaGreat
