/- Maps whose keys are arrays of bytes. -/
import Derived.Test.YtpdokachnmlhlaaG4
import Derived.MapKept
set_option linter.unusedVariables false
set_option linter.unusedSimpArgs false
namespace Go.Proofs.Ytpdokachnmlhlaa
open Go

section
variable {P : Program}
theorem run_checkKeyA {k len : Nat} [h : EqB P k len] (em : Bool) (b : List UInt8) (hb : b.length = len) (w : World) : (Instr.checkKey em 10000 k (.agg (cbs b).toArray)).run P w = .ok () w := by
  obtain ⟨e, hu, he, hs, hsc⟩ := h.ok
  rw [show 10000 = 9999 + 1 from rfl, Instr.checkKey]
  simp only [Sem.run_bind, run_underlying hu, Result.andThen_ok]
  simp only [Std.Legacy.Range.forIn_eq_forIn_range', Std.Legacy.Range.size, Nat.sub_zero, Nat.add_one_sub_one, Nat.div_one]
  have each : ∀ i ∈ List.range' 0 len, i < len := fun i hi => by have := List.mem_range'.1 hi; omega
  generalize List.range' 0 len = is at each
  induction is with
  | nil => simp
  | cons j is ih =>
    have hj := each j (by simp)
    have hp := part_s (P := P) (t := e) (cbs b) j w (by rw [cbs_len]; omega)
    have hx : ((cbs b).drop j).take 1 = [.int .u8 ((b[j]'(by omega)).toNat : Int)] := by
      rw [cbs_drop, List.drop_eq_getElem_cons (by omega)]; rfl
    rw [hx] at hp
    have hv : vof false [Value.int .u8 ((b[j]'(by omega)).toNat : Int)] = .int .u8 ((b[j]'(by omega)).toNat : Int) := rfl
    rw [hv] at hp
    have hc : (Instr.checkKey em 9999 e (.int .u8 ((b[j]'(by omega)).toNat : Int))).run P w = .ok () w := by
      rw [show 9999 = 9998 + 1 from rfl, Instr.checkKey]
      simp [run_underlying he]
    simp only [List.forIn_cons, Sem.run_bind, run_sizeOf hs, Result.andThen_ok, Nat.mul_one, hp, hc, Sem.run_pure]
    exact ih (fun i hi => each i (by simp [hi]))
/-- A map's entries. -/
def entF : Nat → List (List UInt8 × Value) → List MapEntry
  | _, [] => []
  | i, (k, v) :: r => ⟨.agg (cbs k).toArray, v, i⟩ :: entF (i + 1) r
theorem entF_len : ∀ (i : Nat) (l : List (List UInt8 × Value)), (entF i l).length = l.length
  | _, [] => rfl
  | i, (k, v) :: r => by simp [entF, entF_len (i + 1) r]
theorem entF_app : ∀ (i : Nat) (l : List (List UInt8 × Value)) (k : List UInt8) (v : Value), entF i (l ++ [(k, v)]) = entF i l ++ [⟨.agg (cbs k).toArray, v, i + l.length⟩]
  | i, [], k, v => rfl
  | i, (k', v') :: r, k, v => by
    rw [List.cons_append, entF, entF_app (i + 1) r k v, entF, List.cons_append, List.length_cons]
    congr 3
    simp; omega
/-- What a map has of a key. -/
def atK (l : List (List UInt8 × Value)) (k : List UInt8) : Option Value := (l.find? fun x => decide (k = x.1)).map Prod.snd
theorem run_findAsking {k len : Nat} [h : EqB P k len] (b : List UInt8) (hb : b.length = len) (w : World) : ∀ (l : List (List UInt8 × Value)) (i j : Nat), (∀ x ∈ l, x.1.length = len) →
    ∃ r, (Instr.findAsking k (.agg (cbs b).toArray) (entF i l) j).run P w = .ok r w ∧ r.map Prod.snd = atK l b
  | [], i, j, _ => ⟨none, by simp [entF, Instr.findAsking], rfl⟩
  | (k', v') :: r, i, j, hl => by
    have heq := EqB.eq (P := P) (t := k) w b k' hb (hl (k', v') (by simp))
    by_cases hk : b = k'
    · subst hk
      have heq' : (Op.equal k (.agg (cbs b).toArray) (.agg (cbs b).toArray)).run P w = .ok true w := by rw [heq]; simp
      refine ⟨some (j, v'), ?_, ?_⟩
      · simp only [entF, Instr.findAsking, Sem.run_bind, heq', Result.andThen_ok, if_true, Sem.run_pure]
      · simp [atK, List.find?]
    · obtain ⟨r', h1, h2⟩ := run_findAsking (k := k) b hb w r (i + 1) (j + 1) (fun x hx => hl x (by simp [hx]))
      refine ⟨r', ?_, ?_⟩
      · have heq' : (Op.equal k (.agg (cbs b).toArray) (.agg (cbs k').toArray)).run P w = .ok false w := by rw [heq, decide_eq_false hk]
        simp only [entF, Instr.findAsking, Sem.run_bind, heq', Result.andThen_ok]
        exact h1
      · rw [h2]; simp [atK, List.find?, hk]
theorem run_findKeyA {k len : Nat} [h : EqB P k len] (b : List UInt8) (hb : b.length = len) (w : World) (l : List (List UInt8 × Value)) (hl : ∀ x ∈ l, x.1.length = len) :
    ∃ r, (Instr.findKey k (.agg (cbs b).toArray) (entF 0 l)).run P w = .ok r w ∧ r.map Prod.snd = atK l b := by
  obtain ⟨e, hu, -⟩ := h.ok
  cases l with
  | nil => exact ⟨none, by simp [Instr.findKey, run_underlying hu, entF, Instr.findNow], rfl⟩
  | cons x r =>
    obtain ⟨k', v'⟩ := x
    obtain ⟨r', h1, h2⟩ := run_findAsking (P := P) (k := k) b hb w ((k', v') :: r) 0 0 hl
    refine ⟨r', ?_, h2⟩
    have hn : Instr.findNow (.array len e) (.agg (cbs b).toArray) (entF 0 ((k', v') :: r)) 0 = none := by
      simp [entF, Instr.findNow, Instr.sameNow]
    simp only [Instr.findKey, Sem.run_bind, run_underlying hu, Result.andThen_ok, hn]
    exact h1
/-- A map of this kind; 'z': what is read where there is nothing. -/
class MapB (P : Program) (t : TypeId) (len : outParam Nat) (z : outParam Value) : Prop where
  ok : ∃ k e, P.underlying t = some (.map k e) ∧ EqB P k len ∧ ((P.info? e).map fun i => i.zero) = some (some z)
abbrev mo (l : List (List UInt8 × Value)) : Obj := .map (entF 0 l).toArray l.length
theorem run_lookupA {t len r : Nat} {z : Value} [h : MapB P t len z] {w : World} {l : List (List UInt8 × Value)} (b : List UInt8) (hb : b.length = len) (hl : ∀ x ∈ l, x.1.length = len) (hr : w.heap[r]? = some (mo l)) :
    (Instr.lookup t (.map (some r)) (.agg (cbs b).toArray) true).run P w = .ok (.tuple #[(atK l b).getD z, .bool (atK l b).isSome]) w := by
  obtain ⟨k, e, hu, hE, hz⟩ := h.ok
  obtain ⟨q, h1, h2⟩ := run_findKeyA (P := P) (k := k) b hb w l hl
  have hc := fun em => run_checkKeyA (P := P) (k := k) em b hb w
  have hg := MapKept.run_getObj_map (P := P) hr
  rw [← h2]
  cases q with
  | none => simp [Instr.lookup, run_underlying hu, hg, hc, h1, run_zeroValue hz]
  | some x => obtain ⟨i, v⟩ := x; simp [Instr.lookup, run_underlying hu, hg, hc, h1]
theorem run_pushA {t len r : Nat} {z : Value} [h : MapB P t len z] {w : World} {l : List (List UInt8 × Value)} (b : List UInt8) (v : Value) (hb : b.length = len) (hl : ∀ x ∈ l, x.1.length = len) (hr : w.heap[r]? = some (mo l)) (hn : atK l b = none) :
    (Instr.mapUpdate t (.map (some r)) (.agg (cbs b).toArray) v).run P w = .ok () { w with heap := w.heap.setIfInBounds r (mo (l ++ [(b, v)])) } := by
  obtain ⟨k, e, hu, hE, hz⟩ := h.ok
  obtain ⟨q, h1, h2⟩ := run_findKeyA (P := P) (k := k) b hb w l hl
  have hc := fun em => run_checkKeyA (P := P) (k := k) em b hb w
  have hg := MapKept.run_getObj_map (P := P) hr
  rw [hn] at h2
  have hq : q = none := by cases q <;> simp at h2 ⊢
  subst hq
  have hs := fun o => MapKept.run_setObj_map (P := P) o hr
  have he : mo (l ++ [(b, v)]) = .map ((entF 0 l).toArray.push ⟨.agg (cbs b).toArray, v, l.length⟩) (l.length + 1) := by
    unfold mo
    rw [entF_app]
    simp
  rw [he]
  simp [Instr.mapUpdate, run_underlying hu, hg, hc, h1, hs]
end
section
variable {P : Program} {C : Ctx} {Q : Exit → Fr → Hp → Prop} {ρ : Fr} {H H' : Hp} {L rest : List Oper} {d : Option Tmp} {ty : TypeId} {pos : String} {af : Array Edge} {g : Option (Nat × Bool)} {t t' len r : Nat} {d' : Option Nat} {x y u : Operand} {b : List UInt8} {o : Oper} {z v : Value} {l : List (List UInt8 × Value)}
theorem W.mkm (hk : ∀ r, SL P C L Q rest (pt ρ d' (.map (some r))) ((r, mo []) :: H)) (hg : gd L ρ ⟨d, .makeMap t none, ty, pos, af, g⟩ = some true := by exact rfl) (hd : dk C.n d = some d' := by exact rfl) : SL P C L Q (⟨d, .makeMap t none, ty, pos, af, g⟩ :: rest) ρ H :=
  SL.eff hg hd fun a w hf hs => ⟨_, _, _, .inl (by unfold execOp; simp [Instr.makeMap, newObj]; rfl), hs.alloc _, hk w.heap.size⟩
theorem p_lookA [h : MapB P t len z] (ho : o.op = .lookup t x y true) (hx : ev ρ x = some (.map (some r))) (hy : ev ρ y = some (.agg (cbs b).toArray)) (hat : At H r (mo l)) (hb : b.length = len) (hl : ∀ x ∈ l, x.1.length = len) : Pu P C ρ H o (.tuple #[(atK l b).getD z, .bool (atK l b).isSome]) := fun a w hf hs => by
  unfold execOp; rw [ho]; simp [hf.eval hx, hf.eval hy, run_lookupA b hb hl hs.at]
theorem p_lenM [h : MapB P t len z] (ho : o.op = .call { callee := .builtin .len, args := #[x], argTypes := #[t] }) (hx : ev ρ x = some (.map (some r))) (hat : At H r (mo l)) : Pu P C ρ H o (.int .i64 (l.length : Int)) := fun a w hf hs => by
  obtain ⟨k, e, hu, -⟩ := h.ok
  unfold execOp; rw [ho]; simp [resolve, invoke, builtin, hf.eval hx, Builtin.len_, run_underlying hu, MapKept.run_getObj_map (hs.at (b := r)), goInt, entF_len]
theorem W.lnm [h : MapB P t len z] (hk : SL P C L Q rest (pt ρ d' (.int .i64 (l.length : Int))) H) (hx : ev ρ x = some (.map (some r)) := by exact rfl) (hat : At H r (mo l) := by infer_instance) (hg : gd L ρ ⟨d, .call { callee := .builtin .len, args := #[x], argTypes := #[t] }, ty, pos, af, g⟩ = some true := by exact rfl) (hd : dk C.n d = some d' := by exact rfl) : SL P C L Q (⟨d, .call { callee := .builtin .len, args := #[x], argTypes := #[t] }, ty, pos, af, g⟩ :: rest) ρ H :=
  SL.pu (p_lenM rfl hx hat) hg hd hk
theorem W.mup [h : MapB P t len z] (hk : SL P C L Q rest (pt ρ d' undef) H') (hb : b.length = len) (hl : ∀ x ∈ l, x.1.length = len) (hn : atK l b = none) (hx : ev ρ x = some (.map (some r)) := by exact rfl) (hy : ev ρ y = some (.agg (cbs b).toArray) := by exact rfl) (hu : ev ρ u = some v := by exact rfl) (hat : At H r (mo l) := by infer_instance) (hup : Upd H r (mo (l ++ [(b, v)])) H' := by infer_instance) (hg : gd L ρ ⟨d, .mapUpdate t x y u, ty, pos, af, g⟩ = some true := by exact rfl) (hd : dk C.n d = some d' := by exact rfl) : SL P C L Q (⟨d, .mapUpdate t x y u, ty, pos, af, g⟩ :: rest) ρ H :=
  SL.eff hg hd fun a w hf hs => by
    have hat2 := hs.at (b := r)
    have hlt : r < w.heap.size := (Array.getElem?_eq_some_iff.1 hat2).1
    refine ⟨undef, { w with heap := w.heap.setIfInBounds r (mo (l ++ [(b, v)])) }, H', .inr ⟨?_, rfl⟩, ?_, hk⟩
    · unfold execOp; simp [hf.eval hx, hf.eval hy, hf.eval hu, run_pushA b v hb hl hat2 hn]
    · refine hs.set (b := r) (o' := mo (l ++ [(b, v)])) (by simp) ?_ ?_ rfl rfl rfl
      · simp [hlt]
      · intro k hk; simp [Array.getElem?_setIfInBounds, Ne.symm hk]
end
end Go.Proofs.Ytpdokachnmlhlaa
