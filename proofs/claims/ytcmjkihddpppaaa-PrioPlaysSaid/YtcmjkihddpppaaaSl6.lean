/- Slices, structs and small builtins, as the walk meets them. -/
import Derived.Test.YtcmjkihddpppaaaSl5
set_option linter.unusedVariables false
set_option linter.unusedSimpArgs false
namespace Go.Proofs.Ytcmjkihddpppaaa
open Go

section
variable {P : Program} {C : Ctx} {Q : Exit → Fr → Hp → Prop} {ρ : Fr} {H H' : Hp} {L rest : List Oper} {o : Oper}

theorem SL.append {t t2 e n bytes m : Nat} {x y : Operand} {v sv : Value} {xs ys z : List Value} (Hs : Hp) {r : Hp} (ho : o.op = .call { callee := .builtin .append, args := #[x, y], argTypes := #[t, t2] }) (hg : gd L ρ o = some true) {d : Option Nat} (hd : dk C.n o.dst = some d) (hx : ev ρ x = some v) (hy : ev ρ y = some sv)
    [ht : SliceTy P t e n] [hb : BytesTy P e bytes] [hz : ZeroTy P e z] [h2 : NInt P t2] [hp : Part H Hs r]
    (hv : Sl e n v xs Hs) (hsrc : ∀ w, St C.K C.w0 H w → SrcOf P w sv n m ys) (hys : ys.length = m * n) [hoc : OC ys] (hzn : z.length = n) (hn : 0 < n) (hb1 : 1 ≤ bytes) (hbytes : (xs.length + ys.length) * bytes ≤ 140737488355328 * n)
    (hk : ∀ v' Hs', Sl e n v' (xs ++ ys) Hs' → SL P C L Q rest (pt ρ d v') (Hs' ++ r)) : SL P C L Q (o :: rest) ρ H :=
  SL.eff hg hd fun a w hf hs => by
    obtain ⟨v', w', Hs', hrun, hv', hst⟩ := run_append (P := P) (t := t) (t2 := t2) (ty := o.type) hzn hv (hs.perm hp.perm) (hsrc w hs) hys hoc hn hbytes hb1
    exact ⟨v', w', Hs' ++ r, .inl (by unfold execOp; rw [ho]; simp [resolve, invoke, builtin, hf.eval hx, hf.eval hy, hrun]), hst, hk v' Hs' hv'⟩

theorem p_len_slice {t e n : Nat} {x : Operand} {b : Option Addr} {len cap : Nat} (ho : o.op = .call { callee := .builtin .len, args := #[x], argTypes := #[t] }) (hx : ev ρ x = some (.slice b len cap)) [ht : SliceTy P t e n] : Pu P C ρ H o (.int .i64 len) := fun a w hf _ => by
  unfold execOp; rw [ho]; simp [resolve, invoke, builtin, hf.eval hx, Builtin.len_, run_underlying ht.ok, goInt]
theorem p_len_str {t : Nat} {x : Operand} {s : ByteArray} (ho : o.op = .call { callee := .builtin .len, args := #[x], argTypes := #[t] }) (hx : ev ρ x = some (.string s)) [ht : StrTy P t] : Pu P C ρ H o (.int .i64 s.size) := fun a w hf _ => by
  unfold execOp; rw [ho]; simp [resolve, invoke, builtin, hf.eval hx, Builtin.len_, run_underlying ht.ok, goInt]
theorem p_len_arr {t n e sz : Nat} {x : Operand} {v : Value} (ho : o.op = .call { callee := .builtin .len, args := #[x], argTypes := #[t] }) (hx : ev ρ x = some v) [ht : ArrTy P t n e sz] : Pu P C ρ H o (.int .i64 n) := fun a w hf _ => by
  unfold execOp; rw [ho]; simp [resolve, invoke, builtin, hf.eval hx, Builtin.len_, run_underlying ht.ok, goInt]
theorem p_cap_slice {t e n : Nat} {x : Operand} {b : Option Addr} {len cap : Nat} (ho : o.op = .call { callee := .builtin .cap, args := #[x], argTypes := #[t] }) (hx : ev ρ x = some (.slice b len cap)) [ht : SliceTy P t e n] : Pu P C ρ H o (.int .i64 cap) := fun a w hf _ => by
  unfold execOp; rw [ho]; simp [resolve, invoke, builtin, hf.eval hx, Builtin.cap_, run_underlying ht.ok, goInt]
theorem p_min {ats : Array TypeId} {x y : Operand} {k : IntKind} {m n r : Int} (ho : o.op = .call { callee := .builtin .min, args := #[x, y], argTypes := ats }) (hx : ev ρ x = some (.int k m)) (hy : ev ρ y = some (.int k n)) (hr : min m n = r) : Pu P C ρ H o (.int k r) := fun a w hf _ => by
  have : (if n < m then n else m) = r := by rw [← hr]; split <;> omega
  unfold execOp; rw [ho]; simp [resolve, invoke, builtin, hf.eval hx, hf.eval hy, Builtin.min_, Builtin.min2, this]
theorem p_max {ats : Array TypeId} {x y : Operand} {k : IntKind} {m n r : Int} (ho : o.op = .call { callee := .builtin .max, args := #[x, y], argTypes := ats }) (hx : ev ρ x = some (.int k m)) (hy : ev ρ y = some (.int k n)) (hr : max m n = r) : Pu P C ρ H o (.int k r) := fun a w hf _ => by
  have : (if m < n then n else m) = r := by rw [← hr]; split <;> omega
  unfold execOp; rw [ho]; simp [resolve, invoke, builtin, hf.eval hx, hf.eval hy, Builtin.max_, Builtin.max2, this]
theorem p_conv {t t' : Nat} {x : Operand} {k k2 : IntKind} {m r : Int} (ho : o.op = .convert t t' x) (hx : ev ρ x = some (.int k m)) (h1 : ∃ d, P.underlying t = some d) (h2 : P.underlying t' = some (.int k2)) (hr : k2.wrap m = r) : Pu P C ρ H o (.int k2 r) := fun a w hf _ => by
  obtain ⟨d, hd⟩ := h1
  unfold execOp; rw [ho]; simp [hf.eval hx, convert, run_underlying hd, run_underlying h2, Conv.intToInt, hr]
theorem p_makeFunc {f : Fn} {xs ys : Array Operand} {vs us : List Value} (ho : o.op = .makeFunc f xs ys) (hx : evs ρ xs.toList = some vs) (hy : evs ρ ys.toList = some us) : Pu P C ρ H o (.func f vs.toArray us.toArray) := fun a w hf _ => by
  have h1 : (xs.map a.eval) = vs.toArray := by have := hf.evals hx; apply Array.ext'; simpa using this
  have h2 : (ys.map a.eval) = us.toArray := by have := hf.evals hy; apply Array.ext'; simpa using this
  unfold execOp; rw [ho]; simp only [Instr.makeFunc, h1, h2, Sem.run_bind, Sem.run_pure, Result.andThen_ok]

/-! ### make -/
/-- n elements of cells z. -/
def zs (z : List Value) (n : Nat) : List Value := (List.replicate n z).flatten
theorem zs_length (z : List Value) (n : Nat) : (zs z n).length = n * z.length := by simp [zs]
theorem zs_one (v : Value) (n : Nat) : zs [v] n = List.replicate n v := by
  induction n with
  | zero => rfl
  | succ n ih => simp only [zs, List.replicate_succ, List.flatten_cons] at ih ⊢; rw [ih]; rfl
instance (z : List Value) (n : Nat) [h : OC z] : OC (zs z n) := ⟨fun u hu => by
  obtain ⟨l, hl, hu⟩ := List.mem_flatten.1 hu
  rw [List.eq_of_mem_replicate hl] at hu
  exact h.ok u hu⟩
theorem zs_get (z : List Value) : ∀ (n i : Nat), i < n * z.length → (zs z n)[i]? = z[i % z.length]?
  | 0, i, h => by simp at h
  | n + 1, i, h => by
    have e : zs z (n + 1) = z ++ zs z n := by simp [zs, List.replicate_succ]
    rw [e]
    by_cases hi : i < z.length
    · rw [List.getElem?_append_left hi, Nat.mod_eq_of_lt hi]
    · rw [List.getElem?_append_right (by omega), zs_get z n (i - z.length) (by rw [Nat.add_mul] at h; omega)]
      congr 1
      rw [Nat.mod_eq_sub_mod (Nat.le_of_not_lt hi)]
theorem madeCells_zs (z : List Value) (n : Nat) (hz : 0 < z.length) : madeCells z.toArray (n * z.length) = (zs z n).toArray := by
  apply Array.ext'
  apply List.ext_getElem?
  intro i
  simp only [madeCells, Array.toList_map, Array.toList_range, List.getElem?_map]
  by_cases hi : i < n * z.length
  · have hm : i % z.length < z.length := Nat.mod_lt _ hz
    rw [List.getElem?_range hi, zs_get z n i hi]
    simp [hm]
  · rw [List.getElem?_eq_none (by simpa using hi), List.getElem?_eq_none (by simpa [zs_length] using hi)]
    rfl

theorem SL.make {t e n bytes : Nat} {x y : Operand} {kl kc : IntKind} {l c : Nat} {li ci : Int} {z : List Value} (ho : o.op = .makeSlice t x y) (hg : gd L ρ o = some true) {d : Option Nat} (hd : dk C.n o.dst = some d) (hx : ev ρ x = some (.int kl li)) (hy : ev ρ y = some (.int kc ci)) [ht : SliceTy P t e n] [hb : BytesTy P e bytes] [hz : ZeroTy P e z] (hl : li = l) (hc : ci = c) (hzn : z.length = n) (hn : 0 < n) (hlc : l ≤ c) (hbytes : bytes * c ≤ 281474976710656) (hb1 : 1 ≤ bytes)
    (hk : ∀ b, SL P C L Q rest (pt ρ d (.slice (some ⟨b, 0, none⟩) l c)) ((b, cl (zs z c) e) :: H)) : SL P C L Q (o :: rest) ρ H :=
  SL.eff hg hd fun a w hf hs => by
    subst hl hc
    obtain ⟨i, hi, hisz⟩ := info_some ht.size
    have hby : i.bytes = bytes := by have := hb.ok; simpa [hi] using this
    obtain ⟨zv, hzv, hzc⟩ := hz.ok
    have hzi : i.zero = some zv := by simpa [hi] using hzv
    have hcb : c ≤ 281474976710656 := Nat.le_trans (Nat.le_mul_of_pos_left c hb1) hbytes
    have hrun := run_make (P := P) w t e i zv ht.ok hi hzi kl kc (l : Int) (c : Int) (by omega) (by omega) (by rw [hby]; have h := Int.ofNat_le.2 hbytes; rw [Int.natCast_mul] at h; exact h) (by omega)
    have hm : madeCells zv.cells ((c : Int).toNat * i.size) = (zs z c).toArray := by
      rw [hzc, hisz, ← hzn, Int.toNat_natCast]
      exact madeCells_zs z c (by rw [hzn]; exact hn)
    rw [hm] at hrun
    simp only [Int.toNat_natCast] at hrun
    exact ⟨_, _, _, .inl (by unfold execOp; rw [ho]; simp [hf.eval hx, hf.eval hy, hrun]), hs.alloc _, hk w.heap.size⟩

/-! ### reslice -/
/-- Where a part of a slice begins. -/
def sadr (a : Option Addr) (cap l n : Nat) : Option Addr := if cap = l then a else a.map (·.add (l * n))
def bnd (ρ : Fr) (x : Option Operand) (d : Nat) : Option (Option Value × Nat) :=
  match x with
  | none => some (none, d)
  | some y => match ev ρ y with
    | some (.int k i) => some (some (.int k i), i.toNat)
    | _ => none
theorem p_slice {t e n len cap l h : Nat} {x : Operand} {lo hi : Option Operand} {a : Option Addr} {vl vh : Option Value} (ho : o.op = .slice t x lo hi none) (hx : ev ρ x = some (.slice a len cap)) [ht : SliceTy P t e n]
    (hl : lo = none ∧ l = 0 ∨ ∃ y k i, lo = some y ∧ ev ρ y = some (.int k i) ∧ i = (l : Int)) (hh : hi = none ∧ h = len ∨ ∃ y k i, hi = some y ∧ ev ρ y = some (.int k i) ∧ i = (h : Int)) (h1 : l ≤ h) (h2 : h ≤ cap) :
    Pu P C ρ H o (.slice (sadr a cap l n) (h - l) (cap - l)) := fun ac w hf _ => by
  unfold execOp; rw [ho]
  rcases hl with ⟨rfl, rfl⟩ | ⟨y, k, i, rfl, hy, rfl⟩ <;> rcases hh with ⟨rfl, rfl⟩ | ⟨y2, k2, i2, rfl, hy2, rfl⟩
  · simp [hf.eval hx, Instr.sliceAt, run_underlying ht.ok, Instr.slice, Instr.sliceBounds, run_sizeOf ht.size, sadr]
  · simp [hf.eval hx, hf.eval hy2, Instr.sliceAt, run_underlying ht.ok, Instr.slice, Instr.sliceBounds, Instr.sliceBound, asIntOf, h2, run_sizeOf ht.size, sadr]
  · simp [hf.eval hx, hf.eval hy, Instr.sliceAt, run_underlying ht.ok, Instr.slice, Instr.sliceBounds, Instr.sliceBound, asIntOf, h1, run_sizeOf ht.size, sadr]
  · simp [hf.eval hx, hf.eval hy, hf.eval hy2, Instr.sliceAt, run_underlying ht.ok, Instr.slice, Instr.sliceBounds, Instr.sliceBound, asIntOf, h1, h2, run_sizeOf ht.size, sadr]
/-- A part of an array. -/
theorem p_slice_arr {t e n len l h b j : Nat} {x : Operand} {lo hi : Option Operand} (ho : o.op = .slice t x lo hi none) (hx : ev ρ x = some (.pointer (some ⟨b, j, none⟩))) [ht : ArrTy P t len e n]
    (hl : lo = none ∧ l = 0 ∨ ∃ y k i, lo = some y ∧ ev ρ y = some (.int k i) ∧ i = (l : Int)) (hh : hi = none ∧ h = len ∨ ∃ y k i, hi = some y ∧ ev ρ y = some (.int k i) ∧ i = (h : Int)) (h1 : l ≤ h) (h2 : h ≤ len) :
    Pu P C ρ H o (.slice (some (if len = l then ⟨b, j, none⟩ else ⟨b, j + l * n, none⟩)) (h - l) (len - l)) := fun ac w hf _ => by
  unfold execOp; rw [ho]
  rcases hl with ⟨rfl, rfl⟩ | ⟨y, k, i, rfl, hy, rfl⟩ <;> rcases hh with ⟨rfl, rfl⟩ | ⟨y2, k2, i2, rfl, hy2, rfl⟩
  · simp [hf.eval hx, Instr.sliceAt, run_underlying ht.ok, Instr.sureAddr, Instr.sliceBounds, run_sizeOf ht.size, add_mid]
  · simp [hf.eval hx, hf.eval hy2, Instr.sliceAt, run_underlying ht.ok, Instr.sureAddr, Instr.sliceBounds, Instr.sliceBound, asIntOf, h2, run_sizeOf ht.size, add_mid]
  · simp [hf.eval hx, hf.eval hy, Instr.sliceAt, run_underlying ht.ok, Instr.sureAddr, Instr.sliceBounds, Instr.sliceBound, asIntOf, h1, run_sizeOf ht.size, add_mid]
  · simp [hf.eval hx, hf.eval hy, hf.eval hy2, Instr.sliceAt, run_underlying ht.ok, Instr.sureAddr, Instr.sliceBounds, Instr.sliceBound, asIntOf, h1, h2, run_sizeOf ht.size, add_mid]

/-! ### copy -/
theorem SL.copy {t t2 e n m b j len cap : Nat} {x y : Operand} {sv : Value} {l ys : List Value} {T : TypeId} (ho : o.op = .call { callee := .builtin .copy, args := #[x, y], argTypes := #[t, t2] }) (hg : gd L ρ o = some true) {d : Option Nat} (hd : dk C.n o.dst = some d) (hx : ev ρ x = some (.slice (some ⟨b, j, none⟩) len cap)) (hy : ev ρ y = some sv) [ht : SliceTy P t e n] [At H b (cl l T)]
    (hsrc : ∀ w, St C.K C.w0 H w → (Builtin.lenOf sv).run P w = .ok m w ∧ (Builtin.firstCells n (Nat.min m len) sv).run P w = .ok ys.toArray w) [hoc : OC ys] (hfit : j + ys.length ≤ l.length) {l' : List Value} (hl : l.take j ++ ys ++ l.drop (j + ys.length) = l') [Upd H b (cl l' T) H']
    (hk : SL P C L Q rest (pt ρ d (.int .i64 (Nat.min m len))) H') : SL P C L Q (o :: rest) ρ H :=
  SL.eff hg hd fun a w hf hs => by
    subst hl
    obtain ⟨h1, h2⟩ := hsrc w hs
    have hst := run_storeCells_at P b j T ys 0 l.toArray w hs.at (by simpa using hfit) hoc.ok
    simp only [Nat.add_zero] at hst
    refine ⟨_, _, H', .inl ?_, hs.setRow (b := b) (l := l) (l' := l.take j ++ ys ++ l.drop (j + ys.length)) (T := T), hk⟩
    unfold execOp; rw [ho]
    simp only [List.map_toArray, List.map_cons, List.map_nil, resolve, invoke, builtin, hf.eval hx, hf.eval hy, Builtin.copy_, Sem.run_bind, Sem.run_pure, Result.andThen_ok, List.getElem?_toArray, List.getElem?_cons_zero, List.getElem?_cons_succ, run_underlying ht.ok, h1, run_sizeOf ht.size, h2, hst, goInt]

/-! ### structs and arrays built -/
def vl : Value → List Value
  | .agg cs => cs.toList
  | v => [v]
def bfill (pl : Nat → Option (Nat × Nat)) : List Value → List (Nat × Value) → Option (List Value)
  | z, [] => some z
  | z, (i, v) :: r =>
    match pl i with
    | none => none
    | some (off, n) => if (vl v).length = n ∧ off + n ≤ z.length then bfill pl (z.take off ++ vl v ++ z.drop (off + n)) r else none
theorem foldl_set (cs : List Value) : ∀ (k : Nat) (z : List Value), k + cs.length ≤ z.length →
    ((cs.zipIdx).foldl (fun (a : Array Value) (p : Value × Nat) => a.setIfInBounds (k + p.2) p.1) z.toArray) = (z.take k ++ cs ++ z.drop (k + cs.length)).toArray := by
  have key : ∀ (cs : List Value) (k s : Nat) (z : List Value), k + s + cs.length ≤ z.length →
      ((cs.zipIdx s).foldl (fun (a : Array Value) (p : Value × Nat) => a.setIfInBounds (k + p.2) p.1) z.toArray) = (z.take (k + s) ++ cs ++ z.drop (k + s + cs.length)).toArray := by
    intro cs
    induction cs with
    | nil => intro k s z h; simp
    | cons c r ih =>
      intro k s z h
      simp only [List.zipIdx_cons, List.foldl_cons, List.setIfInBounds_toArray]
      have := ih k (s + 1) (z.set (k + s) c) (by simp at h ⊢; omega)
      rw [this]
      congr 1
      have h2 := list_seg_step z (k + s) c r (by simp at h; omega)
      rw [show k + (s + 1) = k + s + 1 by omega, show k + s + (c :: r).length = k + s + (r.length + 1) by simp]
      exact h2
  intro k z h
  exact key cs k 0 z (by simpa using h)
theorem fill_eq (pl : Nat → Option (Nat × Nat)) : ∀ (ps : List (Nat × Value)) (z r : List Value), bfill pl z ps = some r → Instr.fill pl z.toArray ps = some r.toArray
  | [], z, r, h => by simp [bfill] at h; simp [Instr.fill, h]
  | (i, v) :: ps, z, r, h => by
    simp only [bfill] at h
    simp only [Instr.fill]
    have hc : v.cells = (vl v).toArray := by cases v <;> simp [Value.cells, vl]
    cases hp : pl i with
    | none => simp [hp] at h
    | some q =>
      obtain ⟨off, n⟩ := q
      simp only [hp] at h
      split at h
      · rename_i hcond
        have hcond2 : ¬ (v.cells.size ≠ n ∨ off + v.cells.size > z.toArray.size) := by rw [hc]; simp; omega
        simp only [hcond2]
        have := foldl_set (vl v) off z (by omega)
        rw [hc]
        have e : Array.foldl (fun (cs : Array Value) (x : Value × Nat) => cs.setIfInBounds (off + x.2) x.1) z.toArray (vl v).toArray.zipIdx = ((vl v).zipIdx).foldl (fun (a : Array Value) (p : Value × Nat) => a.setIfInBounds (off + p.2) p.1) z.toArray := by
          rw [← Array.foldl_toList]; simp
        have h3 := fill_eq pl ps (z.take off ++ vl v ++ z.drop (off + (vl v).length)) r (by rw [hcond.1]; exact h)
        rw [← this] at h3
        simpa [hcond.1, hcond.2] using h3
      · cases h

def evp (ρ : Fr) : List (Nat × Operand) → Option (List (Nat × Value))
  | [] => some []
  | (i, x) :: r => match ev ρ x, evp ρ r with
    | some v, some vs => some ((i, v) :: vs)
    | _, _ => none
theorem Fits.evalp {n : Nat} {a : Act} (h : Fits n ρ a) : ∀ {xs : List (Nat × Operand)} {vs : List (Nat × Value)}, evp ρ xs = some vs → xs.map (fun (i, x) => (i, a.eval x)) = vs
  | [], vs, hx => by simp [evp] at hx; simp [hx]
  | (i, x) :: r, vs, hx => by
    simp only [evp] at hx
    cases h1 : ev ρ x with
    | none => simp [h1] at hx
    | some v =>
      cases h2 : evp ρ r with
      | none => simp [h1, h2] at hx
      | some us =>
        simp [h1, h2] at hx
        subst hx
        simp [h.eval h1, Fits.evalp h h2]

theorem run_mapM_list {α β : Type} (g : α → Sem β) (w : World) : ∀ (l : List α) (r : List β), (∀ (i : Nat) (x : α), l[i]? = some x → ∃ y, r[i]? = some y ∧ (g x).run P w = .ok y w) → l.length = r.length → (l.mapM g).run P w = .ok r w
  | [], [], _, _ => by simp
  | [], _ :: _, _, h => by simp at h
  | _ :: _, [], _, h => by simp at h
  | x :: l, y :: r, h, hl => by
    obtain ⟨y', hy, hx⟩ := h 0 x (by simp)
    simp at hy
    subst hy
    have ih := run_mapM_list g w l r (fun i x hx => by have := h (i + 1) x (by simpa using hx); simpa using this) (by simpa using hl)
    simp only [List.mapM_cons, Sem.run_bind, hx, Result.andThen_ok, ih, Sem.run_pure]
theorem run_places {fs : Array Field} {pl : List (Nat × Nat)} (h : fs.toList.map (fun f => ((P.info? f.type).map (·.size)).map fun n => (f.offset, n)) = pl.map some) (w : World) :
    (fs.mapM (fun f => do pure (f.offset, ← sizeOf f.type)) : Sem (Array (Nat × Nat))).run P w = .ok pl.toArray w := by
  rw [Array.mapM_eq_mapM_toList, Sem.run_map]
  have hl : fs.toList.length = pl.length := by have := congrArg List.length h; simpa using this
  rw [run_mapM_list (P := P) _ w fs.toList pl (fun i f hf => ?_) hl]
  · rfl
  · have hi : (fs.toList.map (fun f => ((P.info? f.type).map (·.size)).map fun n => (f.offset, n)))[i]? = (pl.map some)[i]? := by rw [h]
    rw [List.getElem?_map, List.getElem?_map, hf] at hi
    cases hp : pl[i]? with
    | none => rw [hp] at hi; simp at hi
    | some q =>
      refine ⟨q, rfl, ?_⟩
      rw [hp] at hi
      simp only [Option.map_some, Option.some.injEq] at hi
      cases hq : (P.info? f.type).map (·.size) with
      | none => rw [hq] at hi; simp at hi
      | some n =>
        rw [hq] at hi
        simp at hi
        subst hi
        simp [run_sizeOf hq]

theorem p_build {t : TypeId} {ps : Array (Nat × Operand)} {vs : List (Nat × Value)} {pl : List (Nat × Nat)} {z r : List Value} (ho : o.op = .build t ps) (hp : evp ρ ps.toList = some vs) [h : StructTy P t pl] [hz : ZeroTy P t z] (hr : bfill (fun i => pl[i]?) z vs = some r) : Pu P C ρ H o (.agg r.toArray) := fun a w hf _ => by
  obtain ⟨fs, hu, hpl⟩ := h.ok
  obtain ⟨zv, hzv, hzc⟩ := hz.ok
  have he : ps.map (fun (i, x) => (i, a.eval x)) = vs.toArray := by have := hf.evalp hp; apply Array.ext'; simpa using this
  have hfill := fill_eq (fun i => pl[i]?) vs z r hr
  have hfill2 : Instr.fill (fun i => pl.toArray[i]?) z.toArray vs = some r.toArray := by simpa using hfill
  unfold execOp; rw [ho]
  simp only [Instr.build, Sem.run_bind, run_zeroValue hzv, Result.andThen_ok, run_underlying hu, run_places hpl, hzc, he, hfill2, Sem.run_pure]
theorem p_build_arr {t len e n : Nat} {ps : Array (Nat × Operand)} {vs : List (Nat × Value)} {z r : List Value} (ho : o.op = .build t ps) (hp : evp ρ ps.toList = some vs) [h : ArrTy P t len e n] [hz : ZeroTy P t z] (hr : bfill (fun i => some (i * n, n)) z vs = some r) : Pu P C ρ H o (.agg r.toArray) := fun a w hf _ => by
  obtain ⟨zv, hzv, hzc⟩ := hz.ok
  have he : ps.map (fun (i, x) => (i, a.eval x)) = vs.toArray := by have := hf.evalp hp; apply Array.ext'; simpa using this
  have hfill := fill_eq (fun i => some (i * n, n)) vs z r hr
  unfold execOp; rw [ho]
  simp [Instr.build, run_zeroValue hzv, run_underlying h.ok, run_sizeOf h.size, hzc, he, hfill]
/-- A slice's literal. -/
theorem SL.buildSlice {t e n len : Nat} {ps : Array (Nat × Operand)} {vs : List (Nat × Value)} {z r : List Value} (ho : o.op = .buildSlice t len ps) (hg : gd L ρ o = some true) {d : Option Nat} (hd : dk C.n o.dst = some d) (hp : evp ρ ps.toList = some vs) [h : SliceTy P t e n] [hz : ZeroTy P e z] (hzn : z.length = n) (hn : 0 < n)
    (hr : bfill (fun i => some (i * n, n)) (zs z len) vs = some r) (hsm : len * n ≤ 16777216) (hk : ∀ b, SL P C L Q rest (pt ρ d (.slice (some ⟨b, 0, none⟩) len len)) ((b, cl r e) :: H)) : SL P C L Q (o :: rest) ρ H :=
  SL.eff hg hd fun a w hf hs => by
    obtain ⟨zv, hzv, hzc⟩ := hz.ok
    have he : ps.map (fun (i, x) => (i, a.eval x)) = vs.toArray := by have := hf.evalp hp; apply Array.ext'; simpa using this
    have hfill := fill_eq (fun i => some (i * n, n)) vs (zs z len) r hr
    have hm := madeCells_zs z len (by rw [hzn]; exact hn)
    rw [hzn] at hm
    have hsm' : ¬ (16777216 < len * n) := by omega
    refine ⟨_, _, _, .inl ?_, hs.alloc _, hk w.heap.size⟩
    unfold execOp; rw [ho]
    by_cases h0 : len * n = 0
    · have hl0 : len = 0 := by rcases Nat.mul_eq_zero.1 h0 with h | h <;> omega
      subst hl0
      have hz0 : zs z 0 = [] := rfl
      rw [hz0] at hfill
      have hr0 : Array.range 0 = #[] := rfl
      simp [Instr.buildSlice, run_underlying h.ok, run_sizeOf h.size, newRow, he, hr0, hfill]
    · simp [Instr.buildSlice, run_underlying h.ok, run_sizeOf h.size, hsm', h0, run_zeroValue hzv, hzc, newRow, he]
      have hm2 : Array.map (fun (x : Nat) => z[x % z.length]?.getD default) (Array.range (len * n)) = (zs z len).toArray := by
        rw [← hm]; unfold madeCells; simp
      rw [hm2, hfill]
      simp
end
end Go.Proofs.Ytcmjkihddpppaaa
