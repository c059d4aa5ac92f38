/- The document's own device: the power goes. -/
import Derived.Test.YtlpgegglobhclaaRf1
set_option linter.unusedVariables false
set_option linter.unusedSimpArgs false
namespace Go.Proofs.Ytlpgegglobhclaa
open Go

section
variable {P : Program} {C : Ctx} {ρ : Fr} {H H' : Hp} {o : Oper}
theorem p_slice_lt {t e n len cap l h b j m c : Nat} {x y y2 : Operand} {k k2 : IntKind} {i i2 : Int} (ho : o.op = .slice t x (some y) (some y2) none) (hx : ev ρ x = some (.slice (some ⟨b, j, none⟩) len cap)) [ht : SliceTy P t e n]
    (hy : ev ρ y = some (.int k i)) (hy2 : ev ρ y2 = some (.int k2 i2)) (hl : i = (l : Int)) (hh : i2 = (h : Int)) (hlt : l < cap) (h2 : h ≤ cap) (hm : l + m = h) {j' : Nat} (hj : j + l * n = j') (hc : l + c = cap) : Pu P C ρ H o (.slice (some ⟨b, j', none⟩) m c) := by
  have := p_slice (P := P) (C := C) (H := H) (vl := none) (vh := none) ho hx (ht := ht) (l := l) (h := h) (.inr ⟨y, k, i, rfl, hy, hl⟩) (.inr ⟨y2, k2, i2, rfl, hy2, hh⟩) (by omega) h2
  have e1 : sadr (some ⟨b, j, none⟩) cap l n = some ⟨b, j', none⟩ := by
    unfold sadr
    rw [if_neg (by omega)]
    simp only [Option.map_some, Option.some.injEq]
    subst hj
    unfold Addr.add
    split
    · rename_i h0; rw [h0]; rfl
    · rfl
  have e2 : h - l = m := by omega
  have e3 : cap - l = c := by omega
  rw [e1, e2, e3] at this
  exact this
end
end Go.Proofs.Ytlpgegglobhclaa
