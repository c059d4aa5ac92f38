/- The operations that make or write memory, calls, and a function's beginning and end. -/
import Derived.Test.YtcmjkihddpppaaaSl3
set_option linter.unusedVariables false
set_option linter.unusedSimpArgs false
namespace Go.Proofs.Ytcmjkihddpppaaa
open Go

/-- The value of one cell. -/
class One (v : Value) : Prop where
  ok : v.oneCell' = true
class OC (l : List Value) : Prop where
  ok : ∀ v ∈ l, v.oneCell' = true
instance (b : Bool) : One (.bool b) := ⟨rfl⟩
instance (k : IntKind) (n : Int) : One (.int k n) := ⟨rfl⟩
instance (s : ByteArray) : One (.string s) := ⟨rfl⟩
instance (p : Option Addr) : One (.pointer p) := ⟨rfl⟩
instance (p : Option Addr) (n c : Nat) : One (.slice p n c) := ⟨rfl⟩
instance (m : Option Nat) : One (.map m) := ⟨rfl⟩
instance (f : Fn) (x y : Array Value) : One (.func f x y) := ⟨rfl⟩
instance : One .nilFunc := ⟨rfl⟩
instance : One .nilIface := ⟨rfl⟩
instance (t : TypeId) (v : Value) : One (.iface t v) := ⟨rfl⟩
instance : OC [] := ⟨by simp⟩
instance (v : Value) (l : List Value) [h1 : One v] [h2 : OC l] : OC (v :: l) := ⟨fun u hu => by
  rcases List.mem_cons.1 hu with rfl | hu
  · exact h1.ok
  · exact h2.ok u hu⟩
instance (l r : List Value) [h1 : OC l] [h2 : OC r] : OC (l ++ r) := ⟨fun u hu => by
  rcases List.mem_append.1 hu with hu | hu
  · exact h1.ok u hu
  · exact h2.ok u hu⟩
instance (n : Nat) (v : Value) [h1 : One v] : OC (List.replicate n v) := ⟨fun u hu => by rw [List.eq_of_mem_replicate hu]; exact h1.ok⟩
instance (n : Nat) (l : List Value) [h : OC l] : OC (l.take n) := ⟨fun u hu => h.ok u (List.mem_of_mem_take hu)⟩
instance (n : Nat) (l : List Value) [h : OC l] : OC (l.drop n) := ⟨fun u hu => h.ok u (List.mem_of_mem_drop hu)⟩
instance (n : Nat) (l : List Value) (v : Value) [h : OC l] [h1 : One v] : OC (l.set n v) := ⟨fun u hu => by
  rcases List.mem_or_eq_of_mem_set hu with hu | rfl
  · exact h.ok u hu
  · exact h1.ok⟩
instance {α : Type} (f : α → Value) (l : List α) [h : ∀ x, One (f x)] : OC (l.map f) := ⟨fun u hu => by
  obtain ⟨x, _, rfl⟩ := List.mem_map.1 hu
  exact (h x).ok⟩
instance {α : Type} (f : α → List Value) (l : List α) [h : ∀ x, OC (f x)] : OC (l.flatMap f) := ⟨fun u hu => by
  obtain ⟨x, _, hx⟩ := List.mem_flatMap.1 hu
  exact (h x).ok u hx⟩

instance At.appL (l r : Hp) (b : Nat) (o : Obj) [h : At l b o] : At (l ++ r) b o := ⟨List.mem_append_left _ h.mem⟩
instance At.appR (l r : Hp) (b : Nat) (o : Obj) [h : At r b o] : At (l ++ r) b o := ⟨List.mem_append_right _ h.mem⟩
instance Upd.appL (l l' r : Hp) (b : Nat) (o' : Obj) [h : Upd l b o' l'] : Upd (l ++ r) b o' (l' ++ r) :=
  ⟨let ⟨x, o, y, e1, e2⟩ := h.split; ⟨x, o, y ++ r, by rw [e1]; simp, by rw [e2]; simp⟩⟩
instance Upd.appR (l r r' : Hp) (b : Nat) (o' : Obj) [h : Upd r b o' r'] : Upd (l ++ r) b o' (l ++ r') :=
  ⟨let ⟨x, o, y, e1, e2⟩ := h.split; ⟨l ++ x, o, y, by rw [e1]; simp, by rw [e2]; simp⟩⟩
instance Out.appL (l r r' : Hp) (b : Nat) (o : Obj) [h : Out l b o r'] : Out (l ++ r) b o (r' ++ r) := ⟨by simpa using h.perm.append_right r⟩
instance Out.appR (l r r' : Hp) (b : Nat) (o : Obj) [h : Out r b o r'] : Out (l ++ r) b o (l ++ r') := ⟨(h.perm.append_left l).trans List.perm_middle⟩

def tup : List Value → Value
  | [v] => v
  | vs => .tuple vs.toArray

/-- What a call owns, asks and hands back. -/
def Tri (P : Program) (f : FuncId) (vs : List Value) (Hc : Hp) (Pre : World → Prop) (R : Value → Hp → Prop) : Prop :=
  ∀ w, Own Hc w → Pre w → Calls P f vs.toArray w fun e w' => ∃ v H', e = .returned v ∧ St (Hc.map Prod.fst) w H' w' ∧ R v H'

def frOf (vs : List Value) : Nat → Fr
  | k => match vs with
    | [] => []
    | v :: r => (k, v) :: frOf r (k + 1)

section
variable {P : Program} {C : Ctx} {Q : Exit → Fr → Hp → Prop} {ρ : Fr} {H H' : Hp} {L rest : List Oper} {o : Oper}

theorem set_eq_splice {l : List Value} {i : Nat} (v : Value) (hi : i < l.length) : l.take i ++ [v] ++ l.drop (i + 1) = l.set i v := by
  rw [List.set_eq_take_append_cons_drop, if_pos hi]; simp

theorem St.setRow {K : List Nat} {w0 w : World} (h : St K w0 H w) {b : Nat} {l l' : List Value} {T : TypeId} [At H b (cl l T)] [Upd H b (cl l' T) H'] : St K w0 H' (w.setRow b l'.toArray) :=
  h.set (b := b) (o' := cl l' T) (by simp) (setRow_heap w b _ _ T _ h.at) (fun k hk => setRow_other w b k _ hk) rfl rfl rfl

theorem run_store_one {w : World} {t : TypeId} [ht : OneTy P t] {b i : Nat} {l : List Value} {T : TypeId} {v : Value} [h1 : One v] (hb : w.heap[b]? = some (cl l T)) (hi : i < l.length) :
    (storeVar t ⟨b, i, none⟩ v).run P w = .ok () (w.setRow b (l.set i v).toArray) := by
  have hv : v.cells = #[v] := by have := h1.ok; cases v <;> first | rfl | simp [Value.oneCell'] at this
  have := run_storeCells_at P b i T [v] 0 l.toArray w hb (by simp; omega) (by simp [h1.ok])
  simp only [Nat.add_zero, List.length_singleton, set_eq_splice v hi] at this
  simp [storeVar, run_sizeOf ht.size, hv, this]
theorem run_store_row {w : World} {t : TypeId} {n : Nat} [ht : RowTy P t n] {b i : Nat} {l r : List Value} {T : TypeId} [h1 : OC r] (hr : r.length = n) (hb : w.heap[b]? = some (cl l T)) (hi : i + n ≤ l.length) :
    (storeVar t ⟨b, i, none⟩ (.agg r.toArray)).run P w = .ok () (w.setRow b (l.take i ++ r ++ l.drop (i + n)).toArray) := by
  have := run_storeCells_at P b i T r 0 l.toArray w hb (by simp; omega) h1.ok
  simp only [Nat.add_zero, hr] at this
  simp [storeVar, run_sizeOf ht.size, Value.cells, hr, this]

theorem SL.eff (hg : gd L ρ o = some true) {d : Option Nat} (hd : dk C.n o.dst = some d)
    (h : ∀ a w, Fits C.n ρ a → St C.K C.w0 H w → ∃ v w' H', ((execOp a.eval o).run P w = .ok (.value v) w' ∨ (execOp a.eval o).run P w = .ok .skip w' ∧ v = undef) ∧ St C.K C.w0 H' w' ∧ SL P C L Q rest (pt ρ d v) H') :
    SL P C L Q (o :: rest) ρ H := fun a w hf hs => by
  obtain ⟨v, w', H', he, hs', hk⟩ := h a w hf hs
  unfold wpList
  rw [if_pos (gd_wanted hf hg)]
  refine .inl ?_
  unfold Oper.wp
  rcases he with he | ⟨he, rfl⟩
  · rw [he, Oper.upon_value]; exact hk _ _ (hf.put hd v) hs'
  · rw [he, Oper.upon_skip]; exact hk _ _ (hf.put hd _) hs'

theorem SL.store {t : TypeId} {x y : Operand} {b i : Nat} {l : List Value} {T : TypeId} {v : Value} (ho : o.op = .store t x y) (hg : gd L ρ o = some true) {d : Option Nat} (hd : dk C.n o.dst = some d)
    (hx : ev ρ x = some (.pointer (some ⟨b, i, none⟩))) (hy : ev ρ y = some v) [OneTy P t] [One v] [At H b (cl l T)] (hi : i < l.length) [Upd H b (cl (l.set i v) T) H']
    (hk : SL P C L Q rest (pt ρ d undef) H') : SL P C L Q (o :: rest) ρ H :=
  SL.eff hg hd fun a w hf hs => ⟨undef, w.setRow b (l.set i v).toArray, H', .inr ⟨by unfold execOp; rw [ho]; simp only [hf.eval hx, hf.eval hy, Instr.storeAt, Instr.sureAddr, Sem.run_bind, Sem.run_pure, Result.andThen_ok, run_store_one hs.at hi], rfl⟩, hs.setRow (l := l) (T := T), hk⟩
theorem SL.store_a {t : TypeId} {n : Nat} {x y : Operand} {b i : Nat} {l r : List Value} {T : TypeId} (ho : o.op = .store t x y) (hg : gd L ρ o = some true) {d : Option Nat} (hd : dk C.n o.dst = some d)
    (hx : ev ρ x = some (.pointer (some ⟨b, i, none⟩))) (hy : ev ρ y = some (.agg r.toArray)) [RowTy P t n] (hr : r.length = n) [OC r] [At H b (cl l T)] (hi : i + n ≤ l.length) {l' : List Value} (hl : l.take i ++ r ++ l.drop (i + n) = l') [Upd H b (cl l' T) H']
    (hk : SL P C L Q rest (pt ρ d undef) H') : SL P C L Q (o :: rest) ρ H :=
  SL.eff hg hd fun a w hf hs => ⟨undef, w.setRow b l'.toArray, H', .inr ⟨by subst hl; unfold execOp; rw [ho]; simp only [hf.eval hx, hf.eval hy, Instr.storeAt, Instr.sureAddr, Sem.run_bind, Sem.run_pure, Result.andThen_ok, run_store_row hr hs.at hi], rfl⟩, hs.setRow (l := l) (T := T), hk⟩

theorem run_zeroValue {t : TypeId} {v : Value} (h : ((P.info? t).map fun i => i.zero) = some (some v)) (w : World) : (zeroValue t).run P w = .ok v w := by
  cases hq : P.info? t with
  | none => simp [hq] at h
  | some i => simp [hq] at h; simp [zeroValue, typeInfo, hq, h]

theorem SL.alloc {t : TypeId} {z : List Value} (ho : o.op = .alloc t) (hg : gd L ρ o = some true) {d : Option Nat} (hd : dk C.n o.dst = some d) [hz : ZeroTy P t z]
    (hk : ∀ b, SL P C L Q rest (pt ρ d (.pointer (some ⟨b, 0, none⟩))) ((b, cl z t) :: H)) : SL P C L Q (o :: rest) ρ H :=
  SL.eff hg hd fun a w hf hs => by
    obtain ⟨v, hv, hc⟩ := hz.ok
    exact ⟨_, _, _, .inl (by unfold execOp; rw [ho]; simp [Instr.alloc, run_zeroValue hv, newVar, newRow, hc]), hs.alloc _, hk w.heap.size⟩
theorem SL.box {t : TypeId} {x : Operand} {v : Value} (ho : o.op = .box t x) (hg : gd L ρ o = some true) {d : Option Nat} (hd : dk C.n o.dst = some d) (hx : ev ρ x = some v) [h1 : One v]
    (hk : ∀ b, SL P C L Q rest (pt ρ d (.pointer (some ⟨b, 0, none⟩))) ((b, cl [v] t) :: H)) : SL P C L Q (o :: rest) ρ H :=
  SL.eff hg hd fun a w hf hs => by
    have hv : v.cells = #[v] := by have := h1.ok; cases v <;> first | rfl | simp [Value.oneCell'] at this
    exact ⟨_, _, _, .inl (by unfold execOp; rw [ho]; simp [Instr.box, newVar, newRow, hf.eval hx, hv]), hs.alloc _, hk w.heap.size⟩
theorem SL.box_a {t : TypeId} {x : Operand} {l : List Value} (ho : o.op = .box t x) (hg : gd L ρ o = some true) {d : Option Nat} (hd : dk C.n o.dst = some d) (hx : ev ρ x = some (.agg l.toArray))
    (hk : ∀ b, SL P C L Q rest (pt ρ d (.pointer (some ⟨b, 0, none⟩))) ((b, cl l t) :: H)) : SL P C L Q (o :: rest) ρ H :=
  SL.eff hg hd fun a w hf hs => ⟨_, _, _, .inl (by unfold execOp; rw [ho]; simp [Instr.box, newVar, newRow, hf.eval hx, Value.cells]), hs.alloc _, hk w.heap.size⟩

/-! ### Calls -/
theorem run_callFunc {f : FuncId} [h : IsFn P f] (args : Array Value) (w : World) : (callFunc f args).run P w = .ok (.enter f args) w := by
  obtain ⟨fn, h1, h2, h3⟩ := h.ok
  unfold callFunc
  simp only [Sem.run_bind, run_program, Result.andThen_ok, h1, h2, h3, Bool.false_eq_true, if_false, Sem.run_pure]

theorem SL.callAny {f : FuncId} {vs : List Value} (Hc : Hp) {r : Hp} {Pre : World → Prop} {R : Value → Hp → Prop} (hg : gd L ρ o = some true) {d : Option Nat} (hd : dk C.n o.dst = some d)
    (he : ∀ a w, Fits C.n ρ a → (execOp a.eval o).run P w = .ok (.enter f vs.toArray) w) [hp : Part H Hc r] (ht : Tri P f vs Hc Pre R) (hpre : ∀ w, St C.K C.w0 H w → Pre w)
    (hk : ∀ v H', R v H' → SL P C L Q rest (pt ρ d v) (H' ++ r)) : SL P C L Q (o :: rest) ρ H := fun a w hf hs => by
  unfold wpList
  rw [if_pos (gd_wanted hf hg)]
  refine .inl ?_
  unfold Oper.wp
  rw [he a w hf, Oper.upon_enter]
  have hs2 := hs.perm hp.perm
  refine (ht w hs2.drop.toOwn (hpre w hs)).mono fun e w' ⟨v, H', he, hst, hR⟩ => ?_
  subst he
  exact hk v H' hR _ _ (hf.put hd v) (hs2.comp hst)
theorem SL.call {f : FuncId} {xs : Array Operand} {ats : Array TypeId} {vs : List Value} (Hc : Hp) {r : Hp} {Pre : World → Prop} {R : Value → Hp → Prop} (ho : o.op = .call { callee := .value (.func f), args := xs, argTypes := ats }) (hg : gd L ρ o = some true) {d : Option Nat} (hd : dk C.n o.dst = some d) (hx : evs ρ xs.toList = some vs) [IsFn P f] [Part H Hc r] (ht : Tri P f vs Hc Pre R) (hpre : ∀ w, St C.K C.w0 H w → Pre w)
    (hk : ∀ v H', R v H' → SL P C L Q rest (pt ρ d v) (H' ++ r)) : SL P C L Q (o :: rest) ρ H :=
  SL.callAny Hc hg hd (fun a w hf => by
    have h1 : (xs.map a.eval) = vs.toArray := by have := hf.evals hx; apply Array.ext'; simpa using this
    unfold execOp; rw [ho]
    simp [resolve, Deferred.ofValue, invoke, Act.eval, run_callFunc]
    exact h1) ht hpre hk
/-- Through a function value. -/
theorem SL.callv {f : FuncId} {y : Operand} {xs : Array Operand} {ats : Array TypeId} {us vs fs cs : List Value} (Hc : Hp) {r : Hp} {Pre : World → Prop} {R : Value → Hp → Prop} (ho : o.op = .call { callee := .value y, args := xs, argTypes := ats }) (hg : gd L ρ o = some true) {d : Option Nat} (hd : dk C.n o.dst = some d) (hy : ev ρ y = some (.func (.func f) fs.toArray cs.toArray)) (hx : evs ρ xs.toList = some us) (hv : fs ++ us ++ cs = vs) [IsFn P f] [Part H Hc r] (ht : Tri P f vs Hc Pre R) (hpre : ∀ w, St C.K C.w0 H w → Pre w)
    (hk : ∀ v H', R v H' → SL P C L Q rest (pt ρ d v) (H' ++ r)) : SL P C L Q (o :: rest) ρ H :=
  SL.callAny Hc hg hd (fun a w hf => by
    subst hv
    have h1 : (xs.map a.eval) = us.toArray := by have := hf.evals hx; apply Array.ext'; simpa using this
    unfold execOp; rw [ho]
    simp only [resolve, Deferred.ofValue, invoke, hf.eval hy, Sem.run_bind, Sem.run_pure, Result.andThen_ok, run_callFunc, h1]
    simp) ht hpre hk

/-! ### A function -/
/-- How a body ends. -/
def Fin (P : Program) (C : Ctx) (fn : Func) (R : Value → Hp → Prop) : Exit → Fr → Hp → Prop
  | .normal, ρ, H | .ret, ρ, H => ∃ v Hc s, H.Perm (Hc ++ s) ∧ R v Hc ∧ ∀ a w, Fits C.n ρ a → St C.K C.w0 H w → (results fn a.tmps).run P w = .ok v w
  | _, _, _ => False

theorem fits_args (vs : List Value) (n : Nat) (hn : vs.length ≤ n) : Fits n (frOf vs 0) { tmps := vs.toArray ++ Array.replicate (n - vs.toArray.size) undef, defers := [] } := by
  refine ⟨rfl, by simp; omega, ?_⟩
  have key : ∀ (us : List Value) (k t : Nat) (v : Value), lk (frOf us k) t = some v → k ≤ t ∧ us[t - k]? = some v := by
    intro us
    induction us with
    | nil => intro k t v h; simp [frOf, lk] at h
    | cons u r ih =>
      intro k t v h
      simp only [frOf, lk_cons] at h
      by_cases hk : k = t
      · subst hk; simp at h; simp [h]
      · simp only [hk, if_false] at h
        obtain ⟨h1, h2⟩ := ih _ _ _ h
        refine ⟨by omega, ?_⟩
        rw [show t - k = (t - (k + 1)) + 1 by omega]
        simpa using h2
  intro t v h
  obtain ⟨_, h2⟩ := key vs 0 t v h
  have hlt : t < vs.length := (List.getElem?_eq_some_iff.1 h2).1
  rw [Array.getElem?_append_left (by simpa using hlt)]
  simpa using h2

theorem Tri.mk {f : FuncId} {fn : Func} {c : Code} {n : Nat} {vs : List Value} {Hc : Hp} {Pre : World → Prop} {R : Value → Hp → Prop} (hf : P.funcs[f]? = some fn) (hb : fn.body = some c) (hn : fn.ntmps = n) (hl : Nat.ble vs.length n = true)
    (h : ∀ w, Pre w → SW P ⟨n, Hc.map Prod.fst, w⟩ c (Fin P ⟨n, Hc.map Prod.fst, w⟩ fn R) (frOf vs 0) Hc) : Tri P f vs Hc Pre R := fun w ho hp => by
  refine calls_of_wp hf hb ?_
  rw [hn]
  refine wp_mono (h w hp _ w (fits_args vs n (Nat.le_of_ble_eq_true hl)) (St.start ho)) fun e a w' ⟨ρ, H, hfit, hst, hq⟩ => ?_
  cases e <;> first
    | exact hq.elim
    | exact (let ⟨v, Hc', s, hp, hR, hres⟩ := hq; ⟨hfit.d, v, hres a w' hfit hst, v, Hc', rfl, (hst.perm hp).drop, hR⟩)

theorem Tri.mono {f : FuncId} {vs : List Value} {Hc : Hp} {Pre : World → Prop} {R R' : Value → Hp → Prop} (h : Tri P f vs Hc Pre R) (hr : ∀ v H, R v H → R' v H) : Tri P f vs Hc Pre R' := fun w ho hp =>
  (h w ho hp).mono fun e w' ⟨v, H', he, hst, hR⟩ => ⟨v, H', he, hst, hr v H' hR⟩

theorem tmps_getD {n t : Nat} {a : Act} {v : Value} (hf : Fits n ρ a) (h : lk ρ t = some v) : a.tmps.getD t undef = v := by
  have := hf.t t v h; simp [Array.getD_eq_getD_getElem?, this]

section
variable {fn : Func} {R : Value → Hp → Prop} {e : Exit} (he : e = .ret ∨ e = .normal)
include he
theorem Fin.of {v : Value} {Hc s : Hp} (hp : H.Perm (Hc ++ s)) (hR : R v Hc) (hr : ∀ a w, Fits C.n ρ a → St C.K C.w0 H w → (results fn a.tmps).run P w = .ok v w) : Fin P C fn R e ρ H := by
  rcases he with rfl | rfl <;> exact ⟨v, Hc, s, hp, hR, hr⟩
theorem Fin.r0 (hrs : fn.results = #[]) (Hc : Hp) {s : Hp} [hp : Part H Hc s] (hR : R (.tuple #[]) Hc) : Fin P C fn R e ρ H :=
  Fin.of he hp.perm hR fun a w _ _ => results_none hrs _ _ _
theorem Fin.r1 {t : Nat} {v : Value} (hrs : fn.results = #[.tmp t]) (ht : lk ρ t = some v) (Hc : Hp) {s : Hp} [hp : Part H Hc s] (hR : R v Hc) : Fin P C fn R e ρ H :=
  Fin.of he hp.perm hR fun a w hf _ => by rw [results_tmp hrs, tmps_getD hf ht]
theorem Fin.r2 {t u : Nat} {v v2 : Value} (hrs : fn.results = #[.tmp t, .tmp u]) (ht : lk ρ t = some v) (hu : lk ρ u = some v2) (Hc : Hp) {s : Hp} [hp : Part H Hc s] (hR : R (.tuple #[v, v2]) Hc) : Fin P C fn R e ρ H :=
  Fin.of he hp.perm hR fun a w hf _ => by rw [results_tmp2 hrs, tmps_getD hf ht, tmps_getD hf hu]
theorem Fin.r3 {t u x : Nat} {v v2 v3 : Value} (hrs : fn.results = #[.tmp t, .tmp u, .tmp x]) (ht : lk ρ t = some v) (hu : lk ρ u = some v2) (hx : lk ρ x = some v3) (Hc : Hp) {s : Hp} [hp : Part H Hc s] (hR : R (.tuple #[v, v2, v3]) Hc) : Fin P C fn R e ρ H :=
  Fin.of he hp.perm hR fun a w hf _ => by rw [results_tmp3 hrs, tmps_getD hf ht, tmps_getD hf hu, tmps_getD hf hx]
/-- A struct or an array: it lies in a block. -/
theorem Fin.c1 {t ty n b : Nat} {l : List Value} {T : TypeId} (hrs : fn.results = #[.cell t ty]) (ht : lk ρ t = some (.pointer (some ⟨b, 0, none⟩))) [RowTy P ty n] [At H b (cl l T)] (hn : l.length = n) (Hc : Hp) {s : Hp} [hp : Part H Hc s] (hR : R (.agg l.toArray) Hc) : Fin P C fn R e ρ H :=
  Fin.of he hp.perm hR fun a w hf hs => by
    have := run_load_a (P := P) (w := w) (t := ty) (b := b) (l := l) (T := T) (fz := (0, 0)) (r := l) (i := 0) hs.at (by rw [← hn]; simp) hn
    have h2 := tmps_getD hf ht
    rw [Array.getD_eq_getD_getElem?] at h2
    simp [results, hrs, h2, asAddr, this]
theorem Fin.c1t1 {t ty n b u : Nat} {l : List Value} {T : TypeId} {v2 : Value} (hrs : fn.results = #[.cell t ty, .tmp u]) (ht : lk ρ t = some (.pointer (some ⟨b, 0, none⟩))) (hu : lk ρ u = some v2) [RowTy P ty n] [At H b (cl l T)] (hn : l.length = n) (Hc : Hp) {s : Hp} [hp : Part H Hc s] (hR : R (.tuple #[.agg l.toArray, v2]) Hc) : Fin P C fn R e ρ H :=
  Fin.of he hp.perm hR fun a w hf hs => by
    have := run_load_a (P := P) (w := w) (t := ty) (b := b) (l := l) (T := T) (fz := (0, 0)) (r := l) (i := 0) hs.at (by rw [← hn]; simp) hn
    have h2 := tmps_getD hf ht
    rw [results_cell_tmp hrs, h2, tmps_getD hf hu]
    simp [asAddr, this]
end
end
end Go.Proofs.Ytcmjkihddpppaaa
