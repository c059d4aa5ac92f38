/- Slices that are only read; parts of lists. -/
import Derived.Test.YtcmjkihddpppaaaSl7
set_option linter.unusedVariables false
set_option linter.unusedSimpArgs false
namespace Go.Proofs.Ytcmjkihddpppaaa
open Go

/-- A slice that is read, in a block that is none of K. -/
def Rd (K : List Nat) (w : World) (n : Nat) (v : Value) (ys : List Value) : Prop :=
  ∃ a len cap, v = .slice a len cap ∧ ys.length = len * n ∧ len ≤ cap ∧
    (len = 0 ∨ ∃ (b o : Nat) (l : List Value) (T : TypeId) (fz : Nat × Nat), a = some ⟨b, o, none⟩ ∧ w.heap[b]? = some (.cells l.toArray T fz) ∧ b ∉ K ∧ (l.drop o).take (len * n) = ys)

theorem Rd.nil (K : List Nat) (w : World) (n : Nat) : Rd K w n (.slice none 0 0) [] := ⟨none, 0, 0, rfl, by simp, Nat.le_refl _, .inl rfl⟩
theorem Rd.empty (K : List Nat) (w : World) (n : Nat) (a : Option Addr) (c : Nat) : Rd K w n (.slice a 0 c) [] := ⟨a, 0, c, rfl, by simp, Nat.zero_le _, .inl rfl⟩

theorem St.lt0 {K : List Nat} {w0 w : World} {H : Hp} (h : St K w0 H w) {b : Nat} {o : Obj} (hb : w0.heap[b]? = some o) (hk : b ∉ K) {Hc r : Hp} (hp : H.Perm (Hc ++ r)) : b ∉ Hc.map Prod.fst := fun hm => by
  obtain ⟨⟨x, o'⟩, hx, rfl⟩ := List.mem_map.1 hm
  have hlt := (Array.getElem?_eq_some_iff.1 hb).1
  rcases h.fresh x o' (hp.mem_iff.2 (List.mem_append_left _ hx)) with h1 | h1
  · exact hk h1
  · simp at hlt; omega

/-- What the caller may read, the callee may read. -/
theorem Rd.ro {K : List Nat} {w0 w : World} {H Hc r : Hp} {n : Nat} {v : Value} {ys : List Value} (h : Rd K w0 n v ys) (hs : St K w0 H w) [hp : Part H Hc r] : Rd (Hc.map Prod.fst) w n v ys := by
  obtain ⟨a, len, cap, rfl, hl, hc, hb⟩ := h
  refine ⟨a, len, cap, rfl, hl, hc, hb.imp id fun ⟨b, o, l, T, fz, ha, hb, hk, hy⟩ => ⟨b, o, l, T, fz, ha, hs.ro hb hk, hs.lt0 hb hk hp.perm, hy⟩⟩
/-- A slice of the caller's own that the callee does not own. -/
theorem Rd.own {K : List Nat} {w0 w : World} {H Hc Hs r : Hp} {e n : Nat} {v : Value} {ys : List Value} (hv : Sl e n v ys Hs) (hs : St K w0 H w) (hp : Part H (Hc ++ Hs) r) : Rd (Hc.map Prod.fst) w n v ys := by
  rcases hv with ⟨rfl, rfl, rfl⟩ | ⟨b, len, cap, junk, rfl, hx, hj, hlc, rfl⟩
  · exact Rd.nil _ _ _
  · have hs2 := hs.perm hp.perm
    have hn := hs2.nodup
    refine ⟨some ⟨b, 0, none⟩, len, cap, rfl, hx, hlc, .inr ⟨b, 0, ys ++ junk, e, (0, 0), rfl, hs2.own b (cl (ys ++ junk) e) (by simp), fun hm => ?_, by rw [List.drop_zero, ← hx, List.take_left']; rfl⟩⟩
    simp only [List.map_append, List.append_assoc] at hn
    exact (List.nodup_append.1 hn).2.2 b hm b (by simp) rfl
theorem Rd.src {P : Program} {K : List Nat} {w : World} {n : Nat} {v : Value} {ys : List Value} (h : Rd K w n v ys) : ∃ m, SrcOf P w v n m ys ∧ ys.length = m * n := by
  obtain ⟨a, len, cap, rfl, hl, hc, hb⟩ := h
  refine ⟨len, ?_, hl⟩
  rcases hb with rfl | ⟨b, o, l, T, fz, rfl, hb, hk, hy⟩
  · have : ys = [] := by simpa using hl
    subst this
    exact SrcOf.empty _ _ _ _
  · exact SrcOf.block hb hy hl
/-- A source that the caller may read, at any later time. -/
theorem Rd.srcAt {P : Program} {K : List Nat} {w0 w : World} {H : Hp} {n : Nat} {a : Option Addr} {len cap : Nat} {ys : List Value} (h : Rd K w0 n (.slice a len cap) ys) (hs : St K w0 H w) : SrcOf P w (.slice a len cap) n len ys := by
  obtain ⟨a', len', cap', he, hl, hc, hb⟩ := h
  cases he
  rcases hb with rfl | ⟨b, o, l, T, fz, rfl, hb, hk, hy⟩
  · have : ys = [] := by simpa using hl
    subst this
    exact SrcOf.empty _ _ _ _
  · exact SrcOf.block (hs.ro hb hk) hy hl
theorem Sl.srcAt {P : Program} {K : List Nat} {w0 w : World} {H Hs r : Hp} {e n : Nat} {a : Option Addr} {len cap : Nat} {ys : List Value} (hv : Sl e n (.slice a len cap) ys Hs) (hs : St K w0 H w) (hp : Part H Hs r) : SrcOf P w (.slice a len cap) n len ys := by
  have hs2 := (hs.perm hp.perm)
  rcases hv with ⟨he, rfl, rfl⟩ | ⟨b, len, cap, junk, he, hx, hj, hlc, rfl⟩
  · cases he; exact SrcOf.empty _ _ _ _
  · cases he
    exact SrcOf.block (hs2.own b (cl (ys ++ junk) e) (by simp)) (by rw [List.drop_zero, ← hx, List.take_left']; rfl) hx

section
variable {P : Program} {C : Ctx} {ρ : Fr} {H : Hp} {o : Oper}
theorem p_indexAddr' {t e n : Nat} {x y : Operand} {b j len cap : Nat} {a : Option Addr} {kk : IntKind} {i : Int} (ho : o.op = .indexAddr t x y) (hx : ev ρ x = some (.slice a len cap)) (hy : ev ρ y = some (.int kk i)) (ha : a = some ⟨b, j, none⟩) [h : SliceTy P t e n]
    (h0 : 0 ≤ i) (h1 : i < len) {j' : Nat} (hj : j + i.toNat * n = j') : Pu P C ρ H o (.pointer (some ⟨b, j', none⟩)) := by
  subst ha; exact p_indexAddr ho hx hy h0 h1 hj
end

section
variable {P : Program} {C : Ctx} {ρ : Fr} {H : Hp} {fn : Func} {R : Value → Hp → Prop} {e : Exit} (he : e = .ret ∨ e = .normal)
include he
theorem Fin.s0 (hrs : fn.results = #[]) (hR : R (.tuple #[]) H) : Fin P C fn R e ρ H := Fin.r0 he hrs H hR
theorem Fin.s1 {t : Nat} {v : Value} (hrs : fn.results = #[.tmp t]) (ht : lk ρ t = some v) (hR : R v H) : Fin P C fn R e ρ H := Fin.r1 he hrs ht H hR
theorem Fin.s2 {t u : Nat} {v v2 : Value} (hrs : fn.results = #[.tmp t, .tmp u]) (ht : lk ρ t = some v) (hu : lk ρ u = some v2) (hR : R (.tuple #[v, v2]) H) : Fin P C fn R e ρ H := Fin.r2 he hrs ht hu H hR
end

/-! ### Parts of lists -/
theorem get_mid (A X B : List Value) (i j : Nat) (hj : j = A.length + i) (hi : i < X.length) : (A ++ (X ++ B))[j]? = X[i]? := by
  subst hj
  rw [List.getElem?_append_right (Nat.le_add_right _ _), Nat.add_sub_cancel_left, List.getElem?_append_left hi]
theorem set_mid (A X B : List Value) (i j : Nat) (v : Value) (hj : j = A.length + i) (hi : i < X.length) : (A ++ (X ++ B)).set j v = A ++ (X.set i v ++ B) := by
  subst hj
  rw [List.set_append_right _ _ (Nat.le_add_right _ _), Nat.add_sub_cancel_left, List.set_append_left _ _ hi]
theorem take_mid (A X B : List Value) (i n j : Nat) (hj : j = A.length + i) (hi : i + n ≤ X.length) : ((A ++ (X ++ B)).drop j).take n = (X.drop i).take n := by
  subst hj
  rw [← List.drop_drop, List.drop_left']
  · rw [List.drop_append_of_le_length (by omega), List.take_append_of_le_length (by simp; omega)]
  · rfl
theorem splice_mid (A X B r : List Value) (i j : Nat) (hj : j = A.length + i) (hi : i + r.length ≤ X.length) : (A ++ (X ++ B)).take j ++ r ++ (A ++ (X ++ B)).drop (j + r.length) = A ++ (X.take i ++ r ++ X.drop (i + r.length) ++ B) := by
  subst hj
  rw [List.take_append, List.drop_append, List.take_append_of_le_length (by omega), Nat.add_sub_cancel_left, List.take_of_length_le (by omega)]
  rw [List.drop_eq_nil_of_le (by omega), Nat.add_assoc, Nat.add_sub_cancel_left, List.drop_append_of_le_length (by omega)]
  simp
theorem fm_len {α : Type} (f : α → List Value) (n : Nat) : ∀ (l : List α), (∀ x ∈ l, (f x).length = n) → (l.flatMap f).length = l.length * n
  | [], _ => by simp
  | x :: l, h => by
    rw [List.flatMap_cons, List.length_append, h x (by simp), fm_len f n l (fun y hy => h y (by simp [hy])), List.length_cons, Nat.add_mul]
    omega
theorem fm_split {α : Type} (f : α → List Value) (l : List α) (k : Nat) (x : α) (hx : l[k]? = some x) : l.flatMap f = (l.take k).flatMap f ++ (f x ++ (l.drop (k + 1)).flatMap f) := by
  obtain ⟨hk, rfl⟩ := List.getElem?_eq_some_iff.1 hx
  have h1 : l = l.take k ++ (l[k] :: l.drop (k + 1)) := by rw [List.getElem_cons_drop, List.take_append_drop]
  have h2 := congrArg (List.flatMap f) h1
  rwa [List.flatMap_append, List.flatMap_cons] at h2
theorem fm_set {α : Type} (f : α → List Value) (l : List α) (k : Nat) (x : α) (hk : k < l.length) : (l.set k x).flatMap f = (l.take k).flatMap f ++ (f x ++ (l.drop (k + 1)).flatMap f) := by
  rw [List.set_eq_take_append_cons_drop, if_pos hk, List.flatMap_append, List.flatMap_cons]
/-! ### Loops -/
section
variable {P : Program} {C : Ctx} {Q : Exit → Fr → Hp → Prop} {ρ : Fr} {H : Hp} {α : Type}
/-- What a round hands on: 'a' is what it turns. -/
def HandN (F : α → Fr) (G : α → Hp) (M : α → Nat) (I : α → Prop) (a : α) (ρ : Fr) (H : Hp) : Prop := ∃ a' s, M a' < M a ∧ subF (F a') ρ ∧ H.Perm (G a' ++ s) ∧ I a'
theorem HandN.mk {F : α → Fr} {G : α → Hp} {M : α → Nat} {I : α → Prop} {a : α} (a' : α) {s : Hp} (hM : M a' < M a) (hr : subF (F a') ρ) (hp : Part H (G a') s) (hi : I a') : HandN F G M I a ρ H := ⟨a', s, hM, hr, hp.perm, hi⟩
theorem HandN.eq {F : α → Fr} {G : α → Hp} {M : α → Nat} {I : α → Prop} {a : α} (a' : α) (hM : M a' < M a) (hr : subF (F a') ρ) (hH : H = G a') (hi : I a') : HandN F G M I a ρ H := ⟨a', [], hM, hr, by rw [hH, List.append_nil], hi⟩
theorem SW.loopN {c : Code} (F : α → Fr) (G : α → Hp) (M : α → Nat) (I : α → Prop) (a0 : α) {s : Hp} (hr : subF (F a0) ρ) (hp : Part H (G a0) s) (h0 : I a0)
    (round : ∀ a, I a → SW P C c (thn (HandN F G M I a) Q) (F a) (G a)) : SW P C (.loop c) Q ρ H :=
  SW.loop (fun m ρ H => ∃ a, I a ∧ M a = m ∧ ρ = F a ∧ H = G a) (M a0) hr hp ⟨a0, h0, rfl, rfl, rfl⟩ fun k ρ H ⟨a, hi, hm, h1, h2⟩ => by
    subst hm h1 h2
    refine SW.mono (round a hi) fun e ρ' H' hq => ?_
    cases e <;> first
      | exact hq
      | exact (let ⟨a', s, hM, hr, hp, hi⟩ := hq; ⟨M a', F a', G a', s, hM, hr, hp, a', hi, rfl, rfl, rfl⟩)
end

/-! ### Which operation stands next (looked at by a tactic, before it tries a law) -/
section
variable {P : Program} {C : Ctx} {Q : Exit → Fr → Hp → Prop} {Q' : Fr → Prop} {ρ : Fr} {H : Hp} {L rest : List Oper} {d : Option Tmp} {ty : TypeId} {pos : String} {af : Array Edge} {g : Option (Nat × Bool)} {gg : Nat × Bool} {op : Op}
theorem SL.isMove {x : Operand} (h : SL P C L Q (⟨d, .move x, ty, pos, af, g⟩ :: rest) ρ H) : SL P C L Q (⟨d, .move x, ty, pos, af, g⟩ :: rest) ρ H := h
theorem SQ.isMove {x : Operand} (h : SQ P C L Q' (⟨d, .move x, ty, pos, af, g⟩ :: rest) ρ H) : SQ P C L Q' (⟨d, .move x, ty, pos, af, g⟩ :: rest) ρ H := h
theorem SL.isAssign {x : Operand} (h : SL P C L Q (⟨d, .assign x, ty, pos, af, g⟩ :: rest) ρ H) : SL P C L Q (⟨d, .assign x, ty, pos, af, g⟩ :: rest) ρ H := h
theorem SQ.isAssign {x : Operand} (h : SQ P C L Q' (⟨d, .assign x, ty, pos, af, g⟩ :: rest) ρ H) : SQ P C L Q' (⟨d, .assign x, ty, pos, af, g⟩ :: rest) ρ H := h
theorem SL.isPick {c x y : Operand} (h : SL P C L Q (⟨d, .pick c x y, ty, pos, af, g⟩ :: rest) ρ H) : SL P C L Q (⟨d, .pick c x y, ty, pos, af, g⟩ :: rest) ρ H := h
theorem SQ.isPick {c x y : Operand} (h : SQ P C L Q' (⟨d, .pick c x y, ty, pos, af, g⟩ :: rest) ρ H) : SQ P C L Q' (⟨d, .pick c x y, ty, pos, af, g⟩ :: rest) ρ H := h
theorem SL.isAlloc {t : TypeId} (h : SL P C L Q (⟨d, .alloc t, ty, pos, af, g⟩ :: rest) ρ H) : SL P C L Q (⟨d, .alloc t, ty, pos, af, g⟩ :: rest) ρ H := h
theorem SQ.isAlloc {t : TypeId} (h : SQ P C L Q' (⟨d, .alloc t, ty, pos, af, g⟩ :: rest) ρ H) : SQ P C L Q' (⟨d, .alloc t, ty, pos, af, g⟩ :: rest) ρ H := h
theorem SL.isBox {t : TypeId} {x : Operand} (h : SL P C L Q (⟨d, .box t x, ty, pos, af, g⟩ :: rest) ρ H) : SL P C L Q (⟨d, .box t x, ty, pos, af, g⟩ :: rest) ρ H := h
theorem SQ.isBox {t : TypeId} {x : Operand} (h : SQ P C L Q' (⟨d, .box t x, ty, pos, af, g⟩ :: rest) ρ H) : SQ P C L Q' (⟨d, .box t x, ty, pos, af, g⟩ :: rest) ρ H := h
theorem SL.isBuild {t : TypeId} {ps : Array (Nat × Operand)} (h : SL P C L Q (⟨d, .build t ps, ty, pos, af, g⟩ :: rest) ρ H) : SL P C L Q (⟨d, .build t ps, ty, pos, af, g⟩ :: rest) ρ H := h
theorem SQ.isBuild {t : TypeId} {ps : Array (Nat × Operand)} (h : SQ P C L Q' (⟨d, .build t ps, ty, pos, af, g⟩ :: rest) ρ H) : SQ P C L Q' (⟨d, .build t ps, ty, pos, af, g⟩ :: rest) ρ H := h
theorem SL.isBuildS {t : TypeId} {n : Nat} {ps : Array (Nat × Operand)} (h : SL P C L Q (⟨d, .buildSlice t n ps, ty, pos, af, g⟩ :: rest) ρ H) : SL P C L Q (⟨d, .buildSlice t n ps, ty, pos, af, g⟩ :: rest) ρ H := h
theorem SQ.isBuildS {t : TypeId} {n : Nat} {ps : Array (Nat × Operand)} (h : SQ P C L Q' (⟨d, .buildSlice t n ps, ty, pos, af, g⟩ :: rest) ρ H) : SQ P C L Q' (⟨d, .buildSlice t n ps, ty, pos, af, g⟩ :: rest) ρ H := h
theorem SL.isLoad {t : TypeId} {x : Operand} (h : SL P C L Q (⟨d, .load t x, ty, pos, af, g⟩ :: rest) ρ H) : SL P C L Q (⟨d, .load t x, ty, pos, af, g⟩ :: rest) ρ H := h
theorem SQ.isLoad {t : TypeId} {x : Operand} (h : SQ P C L Q' (⟨d, .load t x, ty, pos, af, g⟩ :: rest) ρ H) : SQ P C L Q' (⟨d, .load t x, ty, pos, af, g⟩ :: rest) ρ H := h
theorem SL.isStore {t : TypeId} {x y : Operand} (h : SL P C L Q (⟨d, .store t x y, ty, pos, af, g⟩ :: rest) ρ H) : SL P C L Q (⟨d, .store t x y, ty, pos, af, g⟩ :: rest) ρ H := h
theorem SQ.isStore {t : TypeId} {x y : Operand} (h : SQ P C L Q' (⟨d, .store t x y, ty, pos, af, g⟩ :: rest) ρ H) : SQ P C L Q' (⟨d, .store t x y, ty, pos, af, g⟩ :: rest) ρ H := h
theorem SL.isNil {x : Operand} (h : SL P C L Q (⟨d, .nilCheck x, ty, pos, af, g⟩ :: rest) ρ H) : SL P C L Q (⟨d, .nilCheck x, ty, pos, af, g⟩ :: rest) ρ H := h
theorem SQ.isNil {x : Operand} (h : SQ P C L Q' (⟨d, .nilCheck x, ty, pos, af, g⟩ :: rest) ρ H) : SQ P C L Q' (⟨d, .nilCheck x, ty, pos, af, g⟩ :: rest) ρ H := h
theorem SL.isBin {b : BinOp} {t t2 : TypeId} {x y : Operand} (h : SL P C L Q (⟨d, .binOp b t x y t2, ty, pos, af, g⟩ :: rest) ρ H) : SL P C L Q (⟨d, .binOp b t x y t2, ty, pos, af, g⟩ :: rest) ρ H := h
theorem SQ.isBin {b : BinOp} {t t2 : TypeId} {x y : Operand} (h : SQ P C L Q' (⟨d, .binOp b t x y t2, ty, pos, af, g⟩ :: rest) ρ H) : SQ P C L Q' (⟨d, .binOp b t x y t2, ty, pos, af, g⟩ :: rest) ρ H := h
theorem SL.isUn {u : UnOp} {t : TypeId} {x : Operand} (h : SL P C L Q (⟨d, .unOp u t x, ty, pos, af, g⟩ :: rest) ρ H) : SL P C L Q (⟨d, .unOp u t x, ty, pos, af, g⟩ :: rest) ρ H := h
theorem SQ.isUn {u : UnOp} {t : TypeId} {x : Operand} (h : SQ P C L Q' (⟨d, .unOp u t x, ty, pos, af, g⟩ :: rest) ρ H) : SQ P C L Q' (⟨d, .unOp u t x, ty, pos, af, g⟩ :: rest) ρ H := h
theorem SL.isConv {t t2 : TypeId} {x : Operand} (h : SL P C L Q (⟨d, .convert t t2 x, ty, pos, af, g⟩ :: rest) ρ H) : SL P C L Q (⟨d, .convert t t2 x, ty, pos, af, g⟩ :: rest) ρ H := h
theorem SQ.isConv {t t2 : TypeId} {x : Operand} (h : SQ P C L Q' (⟨d, .convert t t2 x, ty, pos, af, g⟩ :: rest) ρ H) : SQ P C L Q' (⟨d, .convert t t2 x, ty, pos, af, g⟩ :: rest) ρ H := h
theorem SL.isMkFn {f : Fn} {xs ys : Array Operand} (h : SL P C L Q (⟨d, .makeFunc f xs ys, ty, pos, af, g⟩ :: rest) ρ H) : SL P C L Q (⟨d, .makeFunc f xs ys, ty, pos, af, g⟩ :: rest) ρ H := h
theorem SQ.isMkFn {f : Fn} {xs ys : Array Operand} (h : SQ P C L Q' (⟨d, .makeFunc f xs ys, ty, pos, af, g⟩ :: rest) ρ H) : SQ P C L Q' (⟨d, .makeFunc f xs ys, ty, pos, af, g⟩ :: rest) ρ H := h
theorem SL.isMkSl {t : TypeId} {x y : Operand} (h : SL P C L Q (⟨d, .makeSlice t x y, ty, pos, af, g⟩ :: rest) ρ H) : SL P C L Q (⟨d, .makeSlice t x y, ty, pos, af, g⟩ :: rest) ρ H := h
theorem SQ.isMkSl {t : TypeId} {x y : Operand} (h : SQ P C L Q' (⟨d, .makeSlice t x y, ty, pos, af, g⟩ :: rest) ρ H) : SQ P C L Q' (⟨d, .makeSlice t x y, ty, pos, af, g⟩ :: rest) ρ H := h
theorem SL.isSlice {t : TypeId} {x : Operand} {a b c : Option Operand} (h : SL P C L Q (⟨d, .slice t x a b c, ty, pos, af, g⟩ :: rest) ρ H) : SL P C L Q (⟨d, .slice t x a b c, ty, pos, af, g⟩ :: rest) ρ H := h
theorem SQ.isSlice {t : TypeId} {x : Operand} {a b c : Option Operand} (h : SQ P C L Q' (⟨d, .slice t x a b c, ty, pos, af, g⟩ :: rest) ρ H) : SQ P C L Q' (⟨d, .slice t x a b c, ty, pos, af, g⟩ :: rest) ρ H := h
theorem SL.isFldA {t : TypeId} {x : Operand} {n : Nat} (h : SL P C L Q (⟨d, .fieldAddr t x n, ty, pos, af, g⟩ :: rest) ρ H) : SL P C L Q (⟨d, .fieldAddr t x n, ty, pos, af, g⟩ :: rest) ρ H := h
theorem SQ.isFldA {t : TypeId} {x : Operand} {n : Nat} (h : SQ P C L Q' (⟨d, .fieldAddr t x n, ty, pos, af, g⟩ :: rest) ρ H) : SQ P C L Q' (⟨d, .fieldAddr t x n, ty, pos, af, g⟩ :: rest) ρ H := h
theorem SL.isFld {t : TypeId} {x : Operand} {n : Nat} (h : SL P C L Q (⟨d, .field t x n, ty, pos, af, g⟩ :: rest) ρ H) : SL P C L Q (⟨d, .field t x n, ty, pos, af, g⟩ :: rest) ρ H := h
theorem SQ.isFld {t : TypeId} {x : Operand} {n : Nat} (h : SQ P C L Q' (⟨d, .field t x n, ty, pos, af, g⟩ :: rest) ρ H) : SQ P C L Q' (⟨d, .field t x n, ty, pos, af, g⟩ :: rest) ρ H := h
theorem SL.isIdxA {t : TypeId} {x y : Operand} (h : SL P C L Q (⟨d, .indexAddr t x y, ty, pos, af, g⟩ :: rest) ρ H) : SL P C L Q (⟨d, .indexAddr t x y, ty, pos, af, g⟩ :: rest) ρ H := h
theorem SQ.isIdxA {t : TypeId} {x y : Operand} (h : SQ P C L Q' (⟨d, .indexAddr t x y, ty, pos, af, g⟩ :: rest) ρ H) : SQ P C L Q' (⟨d, .indexAddr t x y, ty, pos, af, g⟩ :: rest) ρ H := h
theorem SL.isIdx {t : TypeId} {x y : Operand} (h : SL P C L Q (⟨d, .index t x y, ty, pos, af, g⟩ :: rest) ρ H) : SL P C L Q (⟨d, .index t x y, ty, pos, af, g⟩ :: rest) ρ H := h
theorem SQ.isIdx {t : TypeId} {x y : Operand} (h : SQ P C L Q' (⟨d, .index t x y, ty, pos, af, g⟩ :: rest) ρ H) : SQ P C L Q' (⟨d, .index t x y, ty, pos, af, g⟩ :: rest) ρ H := h
theorem SL.isCallB {b : Builtin} {xs : Array Operand} {ats : Array TypeId} (h : SL P C L Q (⟨d, .call { callee := .builtin b, args := xs, argTypes := ats }, ty, pos, af, g⟩ :: rest) ρ H) : SL P C L Q (⟨d, .call { callee := .builtin b, args := xs, argTypes := ats }, ty, pos, af, g⟩ :: rest) ρ H := h
theorem SQ.isCallB {b : Builtin} {xs : Array Operand} {ats : Array TypeId} (h : SQ P C L Q' (⟨d, .call { callee := .builtin b, args := xs, argTypes := ats }, ty, pos, af, g⟩ :: rest) ρ H) : SQ P C L Q' (⟨d, .call { callee := .builtin b, args := xs, argTypes := ats }, ty, pos, af, g⟩ :: rest) ρ H := h
theorem SL.isCallV {f : Operand} {xs : Array Operand} {ats : Array TypeId} (h : SL P C L Q (⟨d, .call { callee := .value f, args := xs, argTypes := ats }, ty, pos, af, g⟩ :: rest) ρ H) : SL P C L Q (⟨d, .call { callee := .value f, args := xs, argTypes := ats }, ty, pos, af, g⟩ :: rest) ρ H := h
theorem SQ.isCallV {f : Operand} {xs : Array Operand} {ats : Array TypeId} (h : SQ P C L Q' (⟨d, .call { callee := .value f, args := xs, argTypes := ats }, ty, pos, af, g⟩ :: rest) ρ H) : SQ P C L Q' (⟨d, .call { callee := .value f, args := xs, argTypes := ats }, ty, pos, af, g⟩ :: rest) ρ H := h
theorem SL.isGd (h : SL P C L Q (⟨d, op, ty, pos, af, some gg⟩ :: rest) ρ H) : SL P C L Q (⟨d, op, ty, pos, af, some gg⟩ :: rest) ρ H := h
theorem SL.b_add {t t2 : TypeId} {x y : Operand} (h : SL P C L Q (⟨d, .binOp .add t x y t2, ty, pos, af, g⟩ :: rest) ρ H) : SL P C L Q (⟨d, .binOp .add t x y t2, ty, pos, af, g⟩ :: rest) ρ H := h
theorem SL.b_sub {t t2 : TypeId} {x y : Operand} (h : SL P C L Q (⟨d, .binOp .sub t x y t2, ty, pos, af, g⟩ :: rest) ρ H) : SL P C L Q (⟨d, .binOp .sub t x y t2, ty, pos, af, g⟩ :: rest) ρ H := h
theorem SL.b_mul {t t2 : TypeId} {x y : Operand} (h : SL P C L Q (⟨d, .binOp .mul t x y t2, ty, pos, af, g⟩ :: rest) ρ H) : SL P C L Q (⟨d, .binOp .mul t x y t2, ty, pos, af, g⟩ :: rest) ρ H := h
theorem SL.b_quo {t t2 : TypeId} {x y : Operand} (h : SL P C L Q (⟨d, .binOp .quo t x y t2, ty, pos, af, g⟩ :: rest) ρ H) : SL P C L Q (⟨d, .binOp .quo t x y t2, ty, pos, af, g⟩ :: rest) ρ H := h
theorem SL.b_rem {t t2 : TypeId} {x y : Operand} (h : SL P C L Q (⟨d, .binOp .rem t x y t2, ty, pos, af, g⟩ :: rest) ρ H) : SL P C L Q (⟨d, .binOp .rem t x y t2, ty, pos, af, g⟩ :: rest) ρ H := h
theorem SL.b_and {t t2 : TypeId} {x y : Operand} (h : SL P C L Q (⟨d, .binOp .and t x y t2, ty, pos, af, g⟩ :: rest) ρ H) : SL P C L Q (⟨d, .binOp .and t x y t2, ty, pos, af, g⟩ :: rest) ρ H := h
theorem SL.b_or {t t2 : TypeId} {x y : Operand} (h : SL P C L Q (⟨d, .binOp .or t x y t2, ty, pos, af, g⟩ :: rest) ρ H) : SL P C L Q (⟨d, .binOp .or t x y t2, ty, pos, af, g⟩ :: rest) ρ H := h
theorem SL.b_xor {t t2 : TypeId} {x y : Operand} (h : SL P C L Q (⟨d, .binOp .xor t x y t2, ty, pos, af, g⟩ :: rest) ρ H) : SL P C L Q (⟨d, .binOp .xor t x y t2, ty, pos, af, g⟩ :: rest) ρ H := h
theorem SL.b_shl {t t2 : TypeId} {x y : Operand} (h : SL P C L Q (⟨d, .binOp .shl t x y t2, ty, pos, af, g⟩ :: rest) ρ H) : SL P C L Q (⟨d, .binOp .shl t x y t2, ty, pos, af, g⟩ :: rest) ρ H := h
theorem SL.b_shr {t t2 : TypeId} {x y : Operand} (h : SL P C L Q (⟨d, .binOp .shr t x y t2, ty, pos, af, g⟩ :: rest) ρ H) : SL P C L Q (⟨d, .binOp .shr t x y t2, ty, pos, af, g⟩ :: rest) ρ H := h
theorem SL.b_lss {t t2 : TypeId} {x y : Operand} (h : SL P C L Q (⟨d, .binOp .lss t x y t2, ty, pos, af, g⟩ :: rest) ρ H) : SL P C L Q (⟨d, .binOp .lss t x y t2, ty, pos, af, g⟩ :: rest) ρ H := h
theorem SL.b_leq {t t2 : TypeId} {x y : Operand} (h : SL P C L Q (⟨d, .binOp .leq t x y t2, ty, pos, af, g⟩ :: rest) ρ H) : SL P C L Q (⟨d, .binOp .leq t x y t2, ty, pos, af, g⟩ :: rest) ρ H := h
theorem SL.b_gtr {t t2 : TypeId} {x y : Operand} (h : SL P C L Q (⟨d, .binOp .gtr t x y t2, ty, pos, af, g⟩ :: rest) ρ H) : SL P C L Q (⟨d, .binOp .gtr t x y t2, ty, pos, af, g⟩ :: rest) ρ H := h
theorem SL.b_geq {t t2 : TypeId} {x y : Operand} (h : SL P C L Q (⟨d, .binOp .geq t x y t2, ty, pos, af, g⟩ :: rest) ρ H) : SL P C L Q (⟨d, .binOp .geq t x y t2, ty, pos, af, g⟩ :: rest) ρ H := h
theorem SL.b_eql {t t2 : TypeId} {x y : Operand} (h : SL P C L Q (⟨d, .binOp .eql t x y t2, ty, pos, af, g⟩ :: rest) ρ H) : SL P C L Q (⟨d, .binOp .eql t x y t2, ty, pos, af, g⟩ :: rest) ρ H := h
theorem SL.b_neq {t t2 : TypeId} {x y : Operand} (h : SL P C L Q (⟨d, .binOp .neq t x y t2, ty, pos, af, g⟩ :: rest) ρ H) : SL P C L Q (⟨d, .binOp .neq t x y t2, ty, pos, af, g⟩ :: rest) ρ H := h
theorem SQ.isGd (h : SQ P C L Q' (⟨d, op, ty, pos, af, some gg⟩ :: rest) ρ H) : SQ P C L Q' (⟨d, op, ty, pos, af, some gg⟩ :: rest) ρ H := h
theorem SQ.b_add {t t2 : TypeId} {x y : Operand} (h : SQ P C L Q' (⟨d, .binOp .add t x y t2, ty, pos, af, g⟩ :: rest) ρ H) : SQ P C L Q' (⟨d, .binOp .add t x y t2, ty, pos, af, g⟩ :: rest) ρ H := h
theorem SQ.b_sub {t t2 : TypeId} {x y : Operand} (h : SQ P C L Q' (⟨d, .binOp .sub t x y t2, ty, pos, af, g⟩ :: rest) ρ H) : SQ P C L Q' (⟨d, .binOp .sub t x y t2, ty, pos, af, g⟩ :: rest) ρ H := h
theorem SQ.b_mul {t t2 : TypeId} {x y : Operand} (h : SQ P C L Q' (⟨d, .binOp .mul t x y t2, ty, pos, af, g⟩ :: rest) ρ H) : SQ P C L Q' (⟨d, .binOp .mul t x y t2, ty, pos, af, g⟩ :: rest) ρ H := h
theorem SQ.b_quo {t t2 : TypeId} {x y : Operand} (h : SQ P C L Q' (⟨d, .binOp .quo t x y t2, ty, pos, af, g⟩ :: rest) ρ H) : SQ P C L Q' (⟨d, .binOp .quo t x y t2, ty, pos, af, g⟩ :: rest) ρ H := h
theorem SQ.b_rem {t t2 : TypeId} {x y : Operand} (h : SQ P C L Q' (⟨d, .binOp .rem t x y t2, ty, pos, af, g⟩ :: rest) ρ H) : SQ P C L Q' (⟨d, .binOp .rem t x y t2, ty, pos, af, g⟩ :: rest) ρ H := h
theorem SQ.b_and {t t2 : TypeId} {x y : Operand} (h : SQ P C L Q' (⟨d, .binOp .and t x y t2, ty, pos, af, g⟩ :: rest) ρ H) : SQ P C L Q' (⟨d, .binOp .and t x y t2, ty, pos, af, g⟩ :: rest) ρ H := h
theorem SQ.b_or {t t2 : TypeId} {x y : Operand} (h : SQ P C L Q' (⟨d, .binOp .or t x y t2, ty, pos, af, g⟩ :: rest) ρ H) : SQ P C L Q' (⟨d, .binOp .or t x y t2, ty, pos, af, g⟩ :: rest) ρ H := h
theorem SQ.b_xor {t t2 : TypeId} {x y : Operand} (h : SQ P C L Q' (⟨d, .binOp .xor t x y t2, ty, pos, af, g⟩ :: rest) ρ H) : SQ P C L Q' (⟨d, .binOp .xor t x y t2, ty, pos, af, g⟩ :: rest) ρ H := h
theorem SQ.b_shl {t t2 : TypeId} {x y : Operand} (h : SQ P C L Q' (⟨d, .binOp .shl t x y t2, ty, pos, af, g⟩ :: rest) ρ H) : SQ P C L Q' (⟨d, .binOp .shl t x y t2, ty, pos, af, g⟩ :: rest) ρ H := h
theorem SQ.b_shr {t t2 : TypeId} {x y : Operand} (h : SQ P C L Q' (⟨d, .binOp .shr t x y t2, ty, pos, af, g⟩ :: rest) ρ H) : SQ P C L Q' (⟨d, .binOp .shr t x y t2, ty, pos, af, g⟩ :: rest) ρ H := h
theorem SQ.b_lss {t t2 : TypeId} {x y : Operand} (h : SQ P C L Q' (⟨d, .binOp .lss t x y t2, ty, pos, af, g⟩ :: rest) ρ H) : SQ P C L Q' (⟨d, .binOp .lss t x y t2, ty, pos, af, g⟩ :: rest) ρ H := h
theorem SQ.b_leq {t t2 : TypeId} {x y : Operand} (h : SQ P C L Q' (⟨d, .binOp .leq t x y t2, ty, pos, af, g⟩ :: rest) ρ H) : SQ P C L Q' (⟨d, .binOp .leq t x y t2, ty, pos, af, g⟩ :: rest) ρ H := h
theorem SQ.b_gtr {t t2 : TypeId} {x y : Operand} (h : SQ P C L Q' (⟨d, .binOp .gtr t x y t2, ty, pos, af, g⟩ :: rest) ρ H) : SQ P C L Q' (⟨d, .binOp .gtr t x y t2, ty, pos, af, g⟩ :: rest) ρ H := h
theorem SQ.b_geq {t t2 : TypeId} {x y : Operand} (h : SQ P C L Q' (⟨d, .binOp .geq t x y t2, ty, pos, af, g⟩ :: rest) ρ H) : SQ P C L Q' (⟨d, .binOp .geq t x y t2, ty, pos, af, g⟩ :: rest) ρ H := h
theorem SQ.b_eql {t t2 : TypeId} {x y : Operand} (h : SQ P C L Q' (⟨d, .binOp .eql t x y t2, ty, pos, af, g⟩ :: rest) ρ H) : SQ P C L Q' (⟨d, .binOp .eql t x y t2, ty, pos, af, g⟩ :: rest) ρ H := h
theorem SQ.b_neq {t t2 : TypeId} {x y : Operand} (h : SQ P C L Q' (⟨d, .binOp .neq t x y t2, ty, pos, af, g⟩ :: rest) ρ H) : SQ P C L Q' (⟨d, .binOp .neq t x y t2, ty, pos, af, g⟩ :: rest) ρ H := h
end
end Go.Proofs.Ytcmjkihddpppaaa
