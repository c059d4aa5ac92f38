/- Slices that are read: parts of them. -/
import Derived.Test.YtcmjkihddpppaaaU1
set_option linter.unusedVariables false
set_option linter.unusedSimpArgs false
namespace Go.Proofs.Ytcmjkihddpppaaa
open Go

theorem Sl.isOne {e n : Nat} {v : Value} {xs : List Value} {H : Hp} (h : Sl e n v xs H) : One v := by
  rcases h with ⟨rfl, _, _⟩ | ⟨b, len, cap, junk, rfl, _⟩ <;> exact ⟨rfl⟩
theorem Rd.isOne {K : List Nat} {w : World} {n : Nat} {v : Value} {ys : List Value} (h : Rd K w n v ys) : One v := by
  obtain ⟨a, len, cap, rfl, _⟩ := h
  exact ⟨rfl⟩
theorem Rd.len1 {K : List Nat} {w : World} {a : Option Addr} {len cap : Nat} {bs : List UInt8} (h : Rd K w 1 (.slice a len cap) (cbs bs)) : bs.length = len ∧ len ≤ cap := by
  obtain ⟨a', len', cap', he, h1, h2, _⟩ := h
  cases he
  simp at h1
  exact ⟨h1, h2⟩
/-- A part of what is read. -/
theorem Rd.sub {K : List Nat} {w : World} {b o len cap : Nat} {bs : List UInt8} (i j : Nat) (cap' : Nat) (h : Rd K w 1 (.slice (some ⟨b, o, none⟩) len cap) (cbs bs)) (hij : i ≤ j) (hj : j ≤ len) (hc : j - i ≤ cap') :
    Rd K w 1 (.slice (some ⟨b, o + i, none⟩) (j - i) cap') (cbs ((bs.drop i).take (j - i))) := by
  obtain ⟨hl, -⟩ := h.len1
  obtain ⟨a', len', cap'', he, h1, h2, h3⟩ := h
  cases he
  refine ⟨_, _, _, rfl, by simp; omega, hc, ?_⟩
  rcases h3 with h3 | ⟨b', o', l, T, fz, e', hb, hk, hy⟩
  · left; omega
  · cases e'
    right
    refine ⟨b, o + i, l, T, fz, rfl, hb, hk, ?_⟩
    have : (l.drop (o + i)).take ((j - i) * 1) = ((((l.drop o).take (len * 1)).drop i).take (j - i)) := by
      rw [List.drop_take, List.take_take, List.drop_drop, Nat.min_eq_left (by omega), Nat.mul_one]
    rw [this, hy]
    simp [List.map_drop, List.map_take]
/-- The first ones of what is read. -/
theorem Rd.pre {K : List Nat} {w : World} {a : Option Addr} {len cap : Nat} {bs : List UInt8} (m : Nat) (h : Rd K w 1 (.slice a len cap) (cbs bs)) : Rd K w 1 (.slice a (min m len) cap) (cbs (bs.take m)) := by
  obtain ⟨hl, -⟩ := h.len1
  obtain ⟨a', len', cap', he, h1, h2, h3⟩ := h
  cases he
  refine ⟨_, _, _, rfl, by simp; omega, by omega, ?_⟩
  rcases h3 with h3 | ⟨b, o, l, T, fz, rfl, hb, hk, hy⟩
  · left; omega
  · right
    refine ⟨b, o, l, T, fz, rfl, hb, hk, ?_⟩
    have e : (l.drop o).take (min m len * 1) = ((l.drop o).take (len * 1)).take m := by
      rw [List.take_take, Nat.mul_one, Nat.mul_one]
    rw [e, hy]
    simp [List.map_take]
theorem Rd.atB {K : List Nat} {w0 w : World} {H Hc r : Hp} {b len cap : Nat} {T : TypeId} {fz : Nat × Nat} (bs : List UInt8) (hs : St K w0 H w) [hp : Part H (Hc ++ [(b, .cells (cbs bs).toArray T fz)]) r] (hl : bs.length = len) (hc : len ≤ cap) : Rd (Hc.map Prod.fst) w 1 (.slice (some ⟨b, 0, none⟩) len cap) (cbs bs) :=
  Rd.atH hs hp (by subst hl; rw [List.drop_zero, Nat.mul_one, List.take_of_length_le (by simp)]) (by subst hl; simp) hc
section
variable {P : Program} {C : Ctx} {Q : Exit → Fr → Hp → Prop} {ρ : Fr} {H : Hp} {L rest : List Oper} {d : Option Tmp} {ty : TypeId} {pos : String} {af : Array Edge} {g : Option (Nat × Bool)} {t t' e n len : Nat} {d' : Option Nat} {x y : Operand} {k kk : IntKind} {m q r : Int} {l : List Value} {v : Value} {i : Nat}
theorem W.ai [ArrTy P t len e 1] [ScalarTy P e] (h : SL P C L Q rest (pt ρ d' v) H) (hx : ev ρ x = some (.agg l.toArray) := by exact rfl) (hy : ev ρ y = some (.int kk m) := by exact rfl) (i0 : NatI m i := by infer_instance) (hi : i < len := by omega) (hv : l[i]? = some v := by first | exact rfl | assumption)
    (hg : gd L ρ ⟨d, .index t x y, ty, pos, af, g⟩ = some true := by exact rfl) (hd : dk C.n d = some d' := by exact rfl) : SL P C L Q (⟨d, .index t x y, ty, pos, af, g⟩ :: rest) ρ H :=
  SL.pu (p_index rfl hx hy (by have := i0.ok; omega) (by have := i0.ok; omega) (by rw [i0.ok, Int.toNat_natCast, Nat.mul_one]; exact hv)) hg hd h
end
/-- Only these slots are wanted. -/
theorem SW.fr {P : Program} {C : Ctx} {Q : Exit → Fr → Hp → Prop} {ρ ρk : Fr} {H : Hp} {c : Code} (ts : List Nat) (h : SW P C c Q ρk H) (hk : selF ρ ts = some ρk := by exact rfl) : SW P C c Q ρ H :=
  SW.weaken (s := []) (selF.sub hk) ⟨by simp⟩ h
end Go.Proofs.Ytcmjkihddpppaaa
