/- The document's own device: Crash, of a whole device. -/
import Derived.Test.YtlpgegglobhclaaRf6
set_option linter.unusedVariables false
set_option linter.unusedSimpArgs false
namespace Go.Proofs.Ytlpgegglobhclaa
open Go
attribute [local irreducible] SW SL SQ SH SA Pu Fin

theorem rcrash_p {p : Nat} {σ : Dv} {H : Hp} (hD : DevR p σ H) (q : Value) (qs : List UInt8) : Tri Try.prog 23 [.pointer (some ⟨p, 0, none⟩), q] H (fun w => Rd (H.map Prod.fst) w 1 q (qs.map bv))
    (fun v H' => v = .tuple #[] ∧ DevR p (σ.crash qs) H') := by
  obtain ⟨hO, bl, bn, bp, bm, vp, va, Hq, Ha, h1, h2, rfl⟩ := hD
  have hlen : (σ.crash qs).ws.length = σ.ws.length := by unfold Dv.crash; cases σ.down <;> simp [crashL_len]
  have hk := rcrash_core (p := p) (bl := bl) (bn := bn) (bp := bp) (bm := bm) hO vp va q qs
  unfold rhdr at hk
  refine (hk.frame (r := Hq ++ Ha) (List.Perm.refl _) (fun w ho hr => ?_)).mono ?_
  · obtain ⟨a, len, cap, rfl, hl, hc, hb⟩ := hr
    refine ⟨a, len, cap, rfl, hl, hc, hb.imp id fun ⟨b, o, l, T, fz, ha, hb, hk, hy⟩ => ⟨b, o, l, T, fz, ha, hb, fun hm => hk ?_, hy⟩⟩
    simp only [List.mem_cons, List.not_mem_nil, or_false] at hm
    rcases hm with rfl | rfl | rfl | rfl | rfl <;> simp
  · rintro v H' ⟨H1, rfl, rfl, rfl⟩
    refine ⟨rfl, Dv.crash_ok qs hO, bl, bn, bp, bm, vp, va, Hq, Ha, ?_, ?_, rfl⟩
    · unfold Dv.crash; cases σ.down <;> exact h1
    · unfold Dv.crash; cases σ.down <;> exact h2

end Go.Proofs.Ytlpgegglobhclaa
