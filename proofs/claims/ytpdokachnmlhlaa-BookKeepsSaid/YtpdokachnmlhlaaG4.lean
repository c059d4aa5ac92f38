/- Arrays of bytes are compared. -/
import Derived.Test.YtpdokachnmlhlaaEq
import Derived.Test.YtpdokachnmlhlaaG3
set_option linter.unusedVariables false
set_option linter.unusedSimpArgs false
namespace Go.Proofs.Ytpdokachnmlhlaa
open Go

/-- An array of bytes. -/
class EqB (P : Program) (t : TypeId) (len : outParam Nat) : Prop where
  guard : P.eqGuardType P.depth t = false
  row : RowTy P t len
  ok : ∃ e, P.underlying t = some (.array len e) ∧ P.underlying e = some (.int .u8) ∧ (P.info? e).map (·.size) = some 1 ∧ ScalarTy P e
theorem EqB.eq {P : Program} {t : TypeId} {len : Nat} [h : EqB P t len] (w : World) (a b : List UInt8) (ha : a.length = len) (hb : b.length = len) : (Op.equal t (.agg (cbs a).toArray) (.agg (cbs b).toArray)).run P w = .ok (decide (a = b)) w := by
  obtain ⟨e, hu, he, hs, hsc⟩ := h.ok
  have hr := h.row
  have hq : ∀ c : List UInt8, c.length = len → ((cbs c).length = len ∧ ∀ i, (i + 1) * 1 ≤ (cbs c).length → ∃ n, ((cbs c).drop (i * 1)).take 1 = [.int .u8 n]) := fun c hc => ⟨by rw [cbs_len, hc], fun i hi => by
    rw [cbs_len] at hi
    refine ⟨((c[i]'(by omega)).toNat : Int), ?_⟩
    rw [Nat.mul_one, cbs_drop, List.drop_eq_getElem_cons (by omega)]; rfl⟩
  obtain ⟨r, hr1, hr2⟩ := (EqOk.array (P := P) (t := t) (hr := hr) hu hs (by omega) (EqOk.int (t := e) he)).eq (9998) w (cbs a) (cbs b) (hq a ha) (hq b hb)
  have : r = decide (a = b) := by
    rw [Bool.eq_iff_iff, hr2, decide_eq_true_iff]
    constructor
    · intro h
      refine List.map_inj_right (f := fun b : UInt8 => Value.int .u8 (b.toNat : Int)) ?_ |>.1 h
      intro x y hxy
      injection hxy with _ hxy
      exact UInt8.toNat_inj.1 (by omega)
    · intro h; rw [h]
  subst this
  exact hr1
section
variable {P : Program} {C : Ctx} {Q : Exit → Fr → Hp → Prop} {ρ : Fr} {H : Hp} {L rest : List Oper} {d : Option Tmp} {ty : TypeId} {pos : String} {af : Array Edge} {g : Option (Nat × Bool)} {t t' len : Nat} {d' : Option Nat} {x y : Operand} {a b : List UInt8} {o : Oper}
theorem p_eqA (ho : o.op = .binOp .eql t x y t') (hx : ev ρ x = some (.agg (cbs a).toArray)) (hy : ev ρ y = some (.agg (cbs b).toArray)) [h : EqB P t len] (h1 : a.length = len) (h2 : b.length = len) : Pu P C ρ H o (.bool (decide (a = b))) := fun ac w hf _ => by
  unfold execOp; rw [ho]; simp [hf.eval hx, hf.eval hy, run_eqGuard_agg _ _ _ _ _ _ _ h.guard, binOp, EqB.eq w a b h1 h2]
theorem p_eqA_t (ho : o.op = .binOp .eql t x y t') (hx : ev ρ x = some (.agg (cbs a).toArray)) (hy : ev ρ y = some (.agg (cbs b).toArray)) [h : EqB P t len] (h1 : a.length = len) (he : a = b) : Pu P C ρ H o (.bool true) := by
  subst he
  have := p_eqA (P := P) (C := C) (H := H) ho hx hy h1 h1
  simpa using this
theorem p_neA_f (ho : o.op = .binOp .neq t x y t') (hx : ev ρ x = some (.agg (cbs a).toArray)) (hy : ev ρ y = some (.agg (cbs b).toArray)) [h : EqB P t len] (h1 : a.length = len) (he : a = b) : Pu P C ρ H o (.bool false) := fun ac w hf _ => by
  subst he
  unfold execOp; rw [ho]; simp [hf.eval hx, hf.eval hy, run_eqGuard_agg _ _ _ _ _ _ _ h.guard, binOp, EqB.eq w a a h1 h1]
theorem p_shrU {k kk : IntKind} {m q r : Int} [i0 : UShr k m q r] (ho : o.op = .binOp .shr t x y t') (hx : ev ρ x = some (.int k m)) (hy : ev ρ y = some (.int kk q)) : Pu P C ρ H o (.int k r) := p_shr ho hx hy i0.ok.1 i0.ok.2
theorem p_shlU {k kk : IntKind} {m q r : Int} [i0 : UShl k m q r] (ho : o.op = .binOp .shl t x y t') (hx : ev ρ x = some (.int k m)) (hy : ev ρ y = some (.int kk q)) : Pu P C ρ H o (.int k r) := p_shl ho hx hy i0.ok.1 i0.ok.2
theorem W.eA [h : EqB P t len] (hk : SL P C L Q rest (pt ρ d' (.bool true)) H) (h1 : a.length = len := by assumption) (he : a = b := by first | assumption | exact rfl) (hx : ev ρ x = some (.agg (cbs a).toArray) := by exact rfl) (hy : ev ρ y = some (.agg (cbs b).toArray) := by exact rfl) (hg : gd L ρ ⟨d, .binOp .eql t x y t', ty, pos, af, g⟩ = some true := by exact rfl) (hd : dk C.n d = some d' := by exact rfl) : SL P C L Q (⟨d, .binOp .eql t x y t', ty, pos, af, g⟩ :: rest) ρ H :=
  SL.pu (p_eqA_t rfl hx hy h1 he) hg hd hk
theorem W.nA [h : EqB P t len] (hk : SL P C L Q rest (pt ρ d' (.bool false)) H) (h1 : a.length = len := by assumption) (he : a = b := by first | assumption | exact rfl) (hx : ev ρ x = some (.agg (cbs a).toArray) := by exact rfl) (hy : ev ρ y = some (.agg (cbs b).toArray) := by exact rfl) (hg : gd L ρ ⟨d, .binOp .neq t x y t', ty, pos, af, g⟩ = some true := by exact rfl) (hd : dk C.n d = some d' := by exact rfl) : SL P C L Q (⟨d, .binOp .neq t x y t', ty, pos, af, g⟩ :: rest) ρ H :=
  SL.pu (p_neA_f rfl hx hy h1 he) hg hd hk
end
end Go.Proofs.Ytpdokachnmlhlaa
