/- Making and growing slices, copies. -/
import Derived.Test.YtcmjkihddpppaaaW3
set_option linter.unusedVariables false
set_option linter.unusedSimpArgs false
namespace Go.Proofs.Ytcmjkihddpppaaa
open Go
section
variable {P : Program} {C : Ctx} {Q : Exit → Fr → Hp → Prop} {ρ : Fr} {H H' : Hp} {L rest : List Oper} {d : Option Tmp} {ty : TypeId} {pos : String} {af : Array Edge} {g : Option (Nat × Bool)} {t t' t2 e n len cap b i j off c l h bytes : Nat} {d' : Option Nat} {x y z : Operand} {v u sv : Value} {k kk : IntKind} {m q r : Int} {p : Option Addr}
theorem W.ma {zv : List Value} [SliceTy P t e n] [BytesTy P e bytes] [ZeroTy P e zv] (hk : ∀ b, SL P C L Q rest (pt ρ d' (.slice (some ⟨b, 0, none⟩) l c)) ((b, cl (zs zv c) e) :: H)) (hx : ev ρ x = some (.int k m) := by exact rfl) (hy : ev ρ y = some (.int kk q) := by exact rfl) (hi : NatI m l := by infer_instance) (hj : NatI q c := by infer_instance) (hzn : zv.length = n := by exact rfl) (hn : 0 < n := by decide) (hlc : l ≤ c := by omega) (hb : bytes * c ≤ 281474976710656 := by omega) (hb1 : 1 ≤ bytes := by decide) (hg : gd L ρ ⟨d, .makeSlice t x y, ty, pos, af, g⟩ = some true := by exact rfl) (hd : dk C.n d = some d' := by exact rfl) : SL P C L Q (⟨d, .makeSlice t x y, ty, pos, af, g⟩ :: rest) ρ H :=
  SL.make rfl hg hd hx hy hi.ok hj.ok hzn hn hlc hb hb1 hk
theorem W.ap {bytes mm : Nat} {xs ys zv : List Value} {Hs rr : Hp} [ht : SliceTy P t e n] [BytesTy P e bytes] [ZeroTy P e zv] [NInt P t2] (hv : Sl e n v xs Hs) [hp : Part H Hs rr] (hsrc : ∀ w, St C.K C.w0 H w → SrcOf P w sv n mm ys) (hk : ∀ v' Hs', Sl e n v' (xs ++ ys) Hs' → SL P C L Q rest (pt ρ d' v') (Hs' ++ rr)) (hx : ev ρ x = some v := by exact rfl) (hy : ev ρ y = some sv := by exact rfl) (hys : ys.length = mm * n := by first | assumption | (simp; done) | omega) (hoc : OC ys := by infer_instance) (hzn : zv.length = n := by exact rfl) (hn : 0 < n := by decide) (hb1 : 1 ≤ bytes := by decide) (hbytes : (xs.length + ys.length) * bytes ≤ 140737488355328 * n := by omega) (hg : gd L ρ ⟨d, .call { callee := .builtin .append, args := #[x, y], argTypes := #[t, t2] }, ty, pos, af, g⟩ = some true := by exact rfl) (hd : dk C.n d = some d' := by exact rfl) :
    SL P C L Q (⟨d, .call { callee := .builtin .append, args := #[x, y], argTypes := #[t, t2] }, ty, pos, af, g⟩ :: rest) ρ H := SL.append Hs rfl hg hd hx hy hv hsrc hys hzn hn hb1 hbytes hk
/-- A slice's literal without elements. -/
theorem W.bs0 {zv : List Value} [SliceTy P t e n] [ZeroTy P e zv] (hk : ∀ b, SL P C L Q rest (pt ρ d' (.slice (some ⟨b, 0, none⟩) 0 0)) ((b, cl [] e) :: H)) (hzn : zv.length = n := by exact rfl) (hn : 0 < n := by decide) (hg : gd L ρ ⟨d, .buildSlice t 0 #[], ty, pos, af, g⟩ = some true := by exact rfl) (hd : dk C.n d = some d' := by exact rfl) : SL P C L Q (⟨d, .buildSlice t 0 #[], ty, pos, af, g⟩ :: rest) ρ H :=
  SL.buildSlice (r := []) (vs := []) rfl hg hd rfl hzn hn rfl (by omega) hk
theorem W.bsl {ln : Nat} {ps : Array (Nat × Operand)} {vs : List (Nat × Value)} {zv rv : List Value} [SliceTy P t e n] [ZeroTy P e zv] (hk : ∀ b, SL P C L Q rest (pt ρ d' (.slice (some ⟨b, 0, none⟩) ln ln)) ((b, cl rv e) :: H)) (hp : evp ρ ps.toList = some vs := by exact rfl) (hr : bfill (fun i => some (i * n, n)) (zs zv ln) vs = some rv := by first | assumption | exact rfl) (hzn : zv.length = n := by exact rfl) (hn : 0 < n := by decide) (hsm : ln * n ≤ 16777216 := by decide) (hg : gd L ρ ⟨d, .buildSlice t ln ps, ty, pos, af, g⟩ = some true := by exact rfl) (hd : dk C.n d = some d' := by exact rfl) : SL P C L Q (⟨d, .buildSlice t ln ps, ty, pos, af, g⟩ :: rest) ρ H :=
  SL.buildSlice rfl hg hd hp hzn hn hr hsm hk
/-- All of an array, as a slice. -/
theorem W.sar [ArrTy P t len e n] (hk : SL P C L Q rest (pt ρ d' (.slice (some ⟨b, j, none⟩) len len)) H) (hx : ev ρ x = some (.pointer (some ⟨b, j, none⟩)) := by exact rfl) (hg : gd L ρ ⟨d, .slice t x none none none, ty, pos, af, g⟩ = some true := by exact rfl) (hd : dk C.n d = some d' := by exact rfl) : SL P C L Q (⟨d, .slice t x none none none, ty, pos, af, g⟩ :: rest) ρ H :=
  SL.pu (by
    have := p_slice_arr (P := P) (C := C) (ρ := ρ) (H := H) (o := ⟨d, .slice t x none none none, ty, pos, af, g⟩) (l := 0) (h := len) rfl hx (.inl ⟨rfl, rfl⟩) (.inl ⟨rfl, rfl⟩) (Nat.zero_le _) (Nat.le_refl _)
    simpa using this) hg hd hk
theorem W.s10e [SliceTy P t e n] (hk : SL P C L Q rest (pt ρ d' (.slice (some ⟨b, j, none⟩) 0 0)) H) (hx : ev ρ x = some (.slice (some ⟨b, j, none⟩) len len) := by exact rfl) (hy : ev ρ y = some (.int k m) := by exact rfl) (hi : NatI m l := by infer_instance) (hh : l = len := by omega) (hg : gd L ρ ⟨d, .slice t x (some y) none none, ty, pos, af, g⟩ = some true := by exact rfl) (hd : dk C.n d = some d' := by exact rfl) : SL P C L Q (⟨d, .slice t x (some y) none none, ty, pos, af, g⟩ :: rest) ρ H := by
  subst hh
  refine SL.pu (v := .slice (some ⟨b, j, none⟩) 0 0) ?_ hg hd hk
  have := p_slice (P := P) (C := C) (ρ := ρ) (H := H) (o := ⟨d, .slice t x (some y) none none, ty, pos, af, g⟩) (vl := none) (vh := none) rfl hx (l := l) (h := l) (.inr ⟨y, k, m, rfl, hy, hi.ok⟩) (.inl ⟨rfl, rfl⟩) (Nat.le_refl _) (Nat.le_refl _)
  simpa [sadr] using this
/-- copy, where the source is not longer. -/
theorem W.cy {mm : Nat} {lv ys : List Value} {T : TypeId} [SliceTy P t e n] (hsrc : ∀ w, St C.K C.w0 H w → SrcOf P w sv n mm ys) (hk : SL P C L Q rest (pt ρ d' (.int .i64 mm)) H') (hx : ev ρ x = some (.slice (some ⟨b, j, none⟩) len cap) := by exact rfl) (hy : ev ρ y = some sv := by exact rfl) (hat : At H b (cl lv T) := by infer_instance) (hup : Upd H b (cl (lv.take j ++ ys ++ lv.drop (j + ys.length)) T) H' := by infer_instance) (hm : mm ≤ len := by omega) (hoc : OC ys := by infer_instance) (hfit : j + ys.length ≤ lv.length := by first | assumption | omega) (hg : gd L ρ ⟨d, .call { callee := .builtin .copy, args := #[x, y], argTypes := #[t, t2] }, ty, pos, af, g⟩ = some true := by exact rfl) (hd : dk C.n d = some d' := by exact rfl) : SL P C L Q (⟨d, .call { callee := .builtin .copy, args := #[x, y], argTypes := #[t, t2] }, ty, pos, af, g⟩ :: rest) ρ H := by
  have e : Nat.min mm len = mm := Nat.min_eq_left hm
  refine SL.copy (m := mm) (l := lv) (T := T) (l' := lv.take j ++ ys ++ lv.drop (j + ys.length)) rfl hg hd hx hy (fun w hs => ?_) hfit rfl (by rw [e]; exact hk)
  rw [e]; exact hsrc w hs w rfl
end
/-- Of a block that the call owns. -/
theorem SrcOf.own {P : Program} {K : List Nat} {w0 w : World} {H : Hp} {b o n m c : Nat} {l ys : List Value} {T : TypeId} [ha : At H b (cl l T)] (hs : St K w0 H w) (hy : (l.drop o).take (m * n) = ys) (hl : ys.length = m * n) : SrcOf P w (.slice (some ⟨b, o, none⟩) m c) n m ys := SrcOf.block hs.at hy hl
/-- Of a slice that is read. -/
theorem Rd.get {K : List Nat} {w : World} {n : Nat} {v : Value} {ys : List Value} (h : Rd K w n v ys) : ∃ a len cap, v = .slice a len cap ∧ ys.length = len * n ∧ len ≤ cap ∧ (0 < len → ∃ b o l T fz, a = some ⟨b, o, none⟩ ∧ w.heap[b]? = some (.cells (List.toArray l) T fz) ∧ b ∉ K ∧ (l.drop o).take (len * n) = ys) := by
  obtain ⟨a, len, cap, rfl, hl, hc, hb⟩ := h
  exact ⟨a, len, cap, rfl, hl, hc, fun h0 => hb.resolve_left (by omega)⟩
theorem take_get {l ys : List Value} {o m k : Nat} {v : Value} (h : (l.drop o).take m = ys) (hk : ys[k]? = some v) : l[o + k]? = some v := by
  subst h
  rw [List.getElem?_take] at hk
  split at hk
  · rwa [List.getElem?_drop] at hk
  · cases hk
/-- The blocks in another order; some are let go. -/
theorem Fin.to {P : Program} {C : Ctx} {fn : Func} {R : Value → Hp → Prop} {e : Exit} {ρ : Fr} {H s : Hp} (H' : Hp) [hp : Part H H' s] (h : Fin P C fn R e ρ H') : Fin P C fn R e ρ H := by
  have hq := hp.perm
  cases e <;> first
    | exact h
    | (obtain ⟨v, Hc, s2, h1, h2, h3⟩ := h
       exact ⟨v, Hc, s2 ++ s, by rw [← List.append_assoc]; exact hq.trans (h1.append_right s), h2, fun a w hf hs => h3 a w hf (hs.perm hq).drop⟩)
theorem set_same {α : Type} {l : List α} {k : Nat} {u : α} (h : l[k]? = some u) : l.set k u = l := by
  apply List.ext_getElem?
  intro i
  rw [List.getElem?_set]
  split
  · rename_i e; subst e
    rw [if_pos (List.getElem?_eq_some_iff.1 h).1, h]
  · rfl
end Go.Proofs.Ytcmjkihddpppaaa
