/- Calls through interfaces. -/
import Derived.Test.YtcmjkihddpppaaaG1
set_option linter.unusedVariables false
set_option linter.unusedSimpArgs false
namespace Go.Proofs.Ytcmjkihddpppaaa
open Go

/-- A pointer type's method, of a pointer receiver. -/
class Meth (P : Program) (t : TypeId) (name : String) (f : outParam FuncId) : Prop where
  ptr : ∃ e, P.underlying t = some (.pointer e)
  row : ∃ i m, P.info? t = some i ∧ i.methods.find? (fun m => m.name == name) = some m ∧ m.path = #[] ∧ m.func = some (f, true)
/-- No interface type. -/
class ConT (P : Program) (t : TypeId) : Prop where
  ok : ∃ d, P.underlying t = some d ∧ (match d with | .interface _ => false | _ => true) = true
section
variable {P : Program}
theorem run_method {t : TypeId} {name : String} {f : FuncId} [h : Meth P t name f] (n : Nat) (v : Value) (w : World) : (method (n + 1) t v name).run P w = .ok (f, v) w := by
  obtain ⟨e, he⟩ := h.ptr
  obtain ⟨i, m, hi, hm, hp, hf⟩ := h.row
  unfold method
  simp [typeInfo, hi, hm, hp, hf, follow, receiverAt, run_underlying he, Place.get]
variable {C : Ctx} {Q : Exit → Fr → Hp → Prop} {ρ : Fr} {H : Hp} {L rest : List Oper} {d : Option Tmp} {ty : TypeId} {pos : String} {af : Array Edge} {g : Option (Nat × Bool)} {t t' : Nat} {d' : Option Nat} {x y : Operand} {o : Oper} {v : Value}
theorem SL.callInv {f : FuncId} {recv : Operand} {name : String} {xs : Array Operand} {ats : Array TypeId} {us : List Value} (Hc : Hp) {r : Hp} {Pre : World → Prop} {R : Value → Hp → Prop} (ho : o.op = .call { callee := .invoke recv name, args := xs, argTypes := ats }) (hg : gd L ρ o = some true) {d : Option Nat} (hd : dk C.n o.dst = some d) (hy : ev ρ recv = some (.iface t v)) (hx : evs ρ xs.toList = some us) [hM : Meth P t name f] [IsFn P f] [Part H Hc r] (ht : Tri P f (v :: us) Hc Pre R) (hpre : ∀ w, St C.K C.w0 H w → Pre w)
    (hk : ∀ v H', R v H' → SL P C L Q rest (pt ρ d v) (H' ++ r)) : SL P C L Q (o :: rest) ρ H :=
  SL.callAny Hc hg hd (fun a w hf => by
    have h1 : (xs.map a.eval) = us.toArray := by have := hf.evals hx; apply Array.ext'; simpa using this
    have hm : ∀ n, (method (n + Made.depth) t v name).run P w = .ok (f, v) w := fun n => by
      have : n + Made.depth = (n + Made.depth - 1) + 1 := by have : 0 < Made.depth := by decide
                                                             omega
      rw [this]; exact run_method _ v w
    unfold execOp; rw [ho]
    simp [resolve, invoke, callMethod, hf.eval hy, h1, hm, run_callFunc]) ht hpre hk
theorem p_mi [h : ConT P t] (ho : o.op = .makeInterface t x) (hx : ev ρ x = some v) : Pu P C ρ H o (.iface t v) := fun a w hf _ => by
  obtain ⟨e, he, hn⟩ := h.ok
  unfold execOp; rw [ho]
  cases e <;> first | (simp at hn; done) | simp [hf.eval hx, Instr.makeInterface, run_underlying he]
theorem W.mi [h : ConT P t] (hk : SL P C L Q rest (pt ρ d' (.iface t v)) H) (hx : ev ρ x = some v := by exact rfl) (hg : gd L ρ ⟨d, .makeInterface t x, ty, pos, af, g⟩ = some true := by exact rfl) (hd : dk C.n d = some d' := by exact rfl) : SL P C L Q (⟨d, .makeInterface t x, ty, pos, af, g⟩ :: rest) ρ H :=
  SL.pu (p_mi rfl hx) hg hd hk
theorem p_taT [h : ConT P t] (ho : o.op = .typeAssert x t' t true) (hx : ev ρ x = some (.iface t v)) : Pu P C ρ H o (.tuple #[v, .bool true]) := fun a w hf _ => by
  obtain ⟨e, he, hn⟩ := h.ok
  unfold execOp; rw [ho]
  cases e <;> first | (simp at hn; done) | simp [hf.eval hx, Instr.typeAssert, run_underlying he]
theorem W.taT [h : ConT P t] (hk : SL P C L Q rest (pt ρ d' (.tuple #[v, .bool true])) H) (hx : ev ρ x = some (.iface t v) := by exact rfl) (hg : gd L ρ ⟨d, .typeAssert x t' t true, ty, pos, af, g⟩ = some true := by exact rfl) (hd : dk C.n d = some d' := by exact rfl) : SL P C L Q (⟨d, .typeAssert x t' t true, ty, pos, af, g⟩ :: rest) ρ H :=
  SL.pu (p_taT rfl hx) hg hd hk
theorem W.inv {f : FuncId} {recv : Operand} {name : String} {xs : Array Operand} {ats : Array TypeId} {us : List Value} {Hc rr : Hp} {Pre : World → Prop} {R : Value → Hp → Prop} [hM : Meth P t name f] [IsFn P f] (ht : Tri P f (v :: us) Hc Pre R) [Part H Hc rr] (hk : ∀ v H', R v H' → SL P C L Q rest (pt ρ d' v) (H' ++ rr)) (hy : ev ρ recv = some (.iface t v) := by exact rfl) (hx : evs ρ xs.toList = some us := by exact rfl) (hpre : ∀ w, St C.K C.w0 H w → Pre w := by exact fun _ _ => trivial) (hg : gd L ρ ⟨d, .call { callee := .invoke recv name, args := xs, argTypes := ats }, ty, pos, af, g⟩ = some true := by exact rfl) (hd : dk C.n d = some d' := by exact rfl) :
    SL P C L Q (⟨d, .call { callee := .invoke recv name, args := xs, argTypes := ats }, ty, pos, af, g⟩ :: rest) ρ H := SL.callInv Hc rfl hg hd hy hx ht hpre hk
/-- Is a function value none? -/
class FunTy (P : Program) (t : TypeId) : Prop where
  ok : ∃ a b c, P.underlying t = some (.func a b c)
theorem eqGuard_fn (op : BinOp) (t : TypeId) (x y : Value) (hx : x = .nilFunc ∨ ∃ f fs cs, x = .func f fs cs) (w : World) (ox oy : Operand) : (eqGuard op t ox oy x y).run P w = .ok () w := by
  rcases hx with rfl | ⟨f, fs, cs, rfl⟩ <;> cases op <;> simp [eqGuard]
theorem p_nfT [h : FunTy P t] (ho : o.op = .binOp .eql t x y t') (hx : ev ρ x = some .nilFunc) (hy : ev ρ y = some .nilFunc) : Pu P C ρ H o (.bool true) := fun a w hf _ => by
  obtain ⟨p, q, r, hu⟩ := h.ok
  have he : (Op.equal t .nilFunc .nilFunc).run P w = .ok true w := by unfold Op.equal Op.maxDepth Op.equalIn; simp [run_underlying hu]
  unfold execOp; rw [ho]; simp [hf.eval hx, hf.eval hy, eqGuard_fn _ _ _ _ (.inl rfl), binOp, he]
theorem p_nfF [h : FunTy P t] {f : Go.Fn} {fs cs : Array Value} (ho : o.op = .binOp .eql t x y t') (hx : ev ρ x = some (.func f fs cs)) (hy : ev ρ y = some .nilFunc) : Pu P C ρ H o (.bool false) := fun a w hf _ => by
  obtain ⟨p, q, r, hu⟩ := h.ok
  have he : (Op.equal t (.func f fs cs) .nilFunc).run P w = .ok false w := by unfold Op.equal Op.maxDepth Op.equalIn; simp [run_underlying hu]
  unfold execOp; rw [ho]; simp [hf.eval hx, hf.eval hy, eqGuard_fn _ _ _ _ (.inr ⟨f, fs, cs, rfl⟩), binOp, he]
theorem W.nfT [h : FunTy P t] (hk : SL P C L Q rest (pt ρ d' (.bool true)) H) (hx : ev ρ x = some .nilFunc := by exact rfl) (hy : ev ρ y = some .nilFunc := by exact rfl) (hg : gd L ρ ⟨d, .binOp .eql t x y t', ty, pos, af, g⟩ = some true := by exact rfl) (hd : dk C.n d = some d' := by exact rfl) : SL P C L Q (⟨d, .binOp .eql t x y t', ty, pos, af, g⟩ :: rest) ρ H :=
  SL.pu (p_nfT rfl hx hy) hg hd hk
theorem W.nfF [h : FunTy P t] {f : Go.Fn} {fs cs : Array Value} (hk : SL P C L Q rest (pt ρ d' (.bool false)) H) (hx : ev ρ x = some (.func f fs cs) := by exact rfl) (hy : ev ρ y = some .nilFunc := by exact rfl) (hg : gd L ρ ⟨d, .binOp .eql t x y t', ty, pos, af, g⟩ = some true := by exact rfl) (hd : dk C.n d = some d' := by exact rfl) : SL P C L Q (⟨d, .binOp .eql t x y t', ty, pos, af, g⟩ :: rest) ρ H :=
  SL.pu (p_nfF rfl hx hy) hg hd hk
end
end Go.Proofs.Ytcmjkihddpppaaa
