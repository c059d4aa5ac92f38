/- Slices: make, reslice, append, copy; structs and arrays built; small builtins. -/
import Derived.Test.YtcmjkihddpppaaaSl4
set_option linter.unusedVariables false
set_option linter.unusedSimpArgs false
namespace Go.Proofs.Ytcmjkihddpppaaa
open Go

instance (priority := 1500) Part.here (Hs r : Hp) : Part (Hs ++ r) Hs r := ⟨.refl _⟩
instance (priority := 2000) Part.self (Hs : Hp) : Part Hs Hs [] := ⟨by simp⟩
instance Part.tail (x : Nat × Obj) (H Hs r : Hp) [h : Part H Hs r] : Part (x :: H) Hs (x :: r) := ⟨(h.perm.cons x).trans List.perm_middle.symm⟩
instance Part.appR (l H Hs r : Hp) [h : Part H Hs r] : Part (l ++ H) Hs (l ++ r) := ⟨by
  refine (h.perm.append_left l).trans ?_
  rw [← List.append_assoc, ← List.append_assoc]
  exact List.perm_append_comm.append_right r⟩
instance Part.appL (l H Hs r : Hp) [h : Part l Hs r] : Part (l ++ H) Hs (r ++ H) := ⟨by rw [← List.append_assoc]; exact h.perm.append_right H⟩
instance Part.two (H A B r r' : Hp) [h1 : Part H A r] [h2 : Part r B r'] : Part H (A ++ B) r' := ⟨by rw [List.append_assoc]; exact h1.perm.trans (h2.perm.append_left A)⟩

section
variable {P : Program} {C : Ctx} {Q : Exit → Fr → Hp → Prop} {ρ : Fr} {H H' : Hp} {L rest : List Oper} {o : Oper}

theorem info_some {t : TypeId} {n : Nat} (h : (P.info? t).map (·.size) = some n) : ∃ i, P.info? t = some i ∧ i.size = n := by
  cases hq : P.info? t with
  | none => simp [hq] at h
  | some i => exact ⟨i, rfl, by simpa [hq] using h⟩

/-! ### A source -/
def SrcOf (P : Program) (w : World) (v : Value) (size m : Nat) (ys : List Value) : Prop :=
  ∀ w', w'.heap = w.heap → (Builtin.lenOf v).run P w' = .ok m w' ∧ (Builtin.firstCells size m v).run P w' = .ok ys.toArray w'
theorem SrcOf.empty (w : World) (a : Option Addr) (c size : Nat) : SrcOf P w (.slice a 0 c) size 0 [] := fun w' _ => by
  refine ⟨by simp [Builtin.lenOf], ?_⟩
  cases a with
  | none => simp [Builtin.firstCells]
  | some a => simp [Builtin.firstCells, loadCells, loadCellsFrom]
theorem SrcOf.block {w : World} {b i m c size : Nat} {l ys : List Value} {T : TypeId} {fz : Nat × Nat} (hb : w.heap[b]? = some (.cells l.toArray T fz)) (hy : (l.drop i).take (m * size) = ys) (hl : ys.length = m * size) :
    SrcOf P w (.slice (some ⟨b, i, none⟩) m c) size m ys := fun w' hw => by
  refine ⟨by simp [Builtin.lenOf], ?_⟩
  refine run_firstCells_some (P := P) w' size m ⟨b, i, none⟩ m c ys hl fun j v hj => ?_
  rw [add_mid, cell_cl (by rw [hw]; exact hb), ← hj, ← hy, List.getElem?_take]
  have : j < m * size := by have := (List.getElem?_eq_some_iff.1 hj).1; omega
  simp [this]
theorem SrcOf.str (w : World) (s : ByteArray) : SrcOf P w (.string s) 1 s.size (s.data.toList.map fun b => .int .u8 b.toNat) := fun w' _ => by
  refine ⟨by simp [Builtin.lenOf], ?_⟩
  have : s.extract 0 s.size = s := ByteArray.extract_zero_size
  simp only [Builtin.firstCells, this, Sem.run_pure]
  congr 1
  apply Array.ext'
  simp

/-! ### What is made, reckoned on lists -/
theorem zeroCells_list (z : List Value) (n : Nat) : ∃ j : List Value, Builtin.zeroCells z.toArray n = j.toArray ∧ j.length = n * z.length := ⟨(Builtin.zeroCells z.toArray n).toList, by simp, by simp [Builtin.zeroCells]⟩

/-- A slice that the call owns: what it holds, and its block. -/
def Sl (e n : Nat) (v : Value) (xs : List Value) (Hs : Hp) : Prop :=
  (v = .slice none 0 0 ∧ xs = [] ∧ Hs = []) ∨
  ∃ b len cap junk, v = .slice (some ⟨b, 0, none⟩) len cap ∧ xs.length = len * n ∧ len * n + junk.length = cap * n ∧ len ≤ cap ∧ Hs = [(b, cl (xs ++ junk) e)]
theorem Sl.nil (e n : Nat) : Sl e n (.slice none 0 0) [] [] := .inl ⟨rfl, rfl, rfl⟩
theorem Sl.mk {e n b len cap : Nat} {xs junk : List Value} (h1 : xs.length = len * n) (h2 : len * n + junk.length = cap * n) (h3 : len ≤ cap) : Sl e n (.slice (some ⟨b, 0, none⟩) len cap) xs [(b, cl (xs ++ junk) e)] :=
  .inr ⟨b, len, cap, junk, rfl, h1, h2, h3, rfl⟩

theorem list_splice (xs ys junk : List Value) (hj : ys.length ≤ junk.length) : (xs ++ junk).take xs.length ++ ys ++ (xs ++ junk).drop (xs.length + ys.length) = xs ++ ys ++ junk.drop ys.length := by
  rw [List.take_left']
  · congr 1
    rw [← List.drop_drop, List.drop_left']
    rfl
  · rfl

/-- The builtin, where there is no room. -/
theorem run_append_new {w : World} {t t2 : TypeId} {ty e m sLen sCap : Nat} {base : Option Addr} {sv zv : Value} {xs ys : List Value} {i : TypeInfo} (ht : P.underlying t = some (.slice e)) (hi : P.info? e = some i) (hz : i.zero = some zv) (h2 : NInt P t2)
    (hl1 : (Builtin.lenOf sv).run P w = .ok m w) (hf1 : (Builtin.firstCells i.size sLen (.slice base sLen sCap)).run P w.drew = .ok xs.toArray w.drew) (hf2 : (Builtin.firstCells i.size m sv).run P w.drew = .ok ys.toArray w.drew)
    (hg : sCap < sLen + m) (hbytes : (sLen + m) * i.bytes ≤ 140737488355328) (h63 : sLen + m ≤ 9223372036854775807) :
    (Builtin.append_ #[t, t2] ty #[.slice base sLen sCap, sv]).run P w = .ok (.slice (some ⟨w.heap.size, 0, none⟩) (sLen + m) (grownCap w (sLen + m) sCap e))
      (w.drew.alloc (cl (xs ++ ys ++ (Builtin.zeroCells zv.cells (grownCap w (sLen + m) sCap e - (sLen + m))).toList) e)) := by
  have hn : ¬ (sLen + m ≤ sCap) := by omega
  have h63' : ¬ (9223372036854775807 < ((sLen : Int) + (m : Int))) := by omega
  have h48' : ¬ (281474976710656 < Builtin.nextslicecap (sLen + m) sCap * i.bytes) := by have := growslice_fits hg hbytes; omega
  rcases h2.ok with ⟨e2, he2⟩ | he2
  all_goals
    simp [Builtin.append_, run_underlying ht, run_underlying he2, sizeOf, typeInfo, zeroValue, hi, hz, hl1, hn, h63', h48', Question.forced, hf1, hf2, newRow, grownCap]
    congr 2
    apply Array.ext'
    simp
theorem run_append_in {w : World} {t t2 : TypeId} {ty e m sLen sCap b : Nat} {sv : Value} {l ys : List Value} {i : TypeInfo} {T : TypeId} (ht : P.underlying t = some (.slice e)) (hi : P.info? e = some i) (h2 : NInt P t2)
    (hl1 : (Builtin.lenOf sv).run P w = .ok m w) (hf2 : (Builtin.firstCells i.size m sv).run P w = .ok ys.toArray w) (hys : ys.length = m * i.size) (hoc : OC ys)
    (hb : w.heap[b]? = some (cl l T)) (hg : sLen + m ≤ sCap) (hfit : sLen * i.size + ys.length ≤ l.length) :
    (Builtin.append_ #[t, t2] ty #[.slice (some ⟨b, 0, none⟩) sLen sCap, sv]).run P w = .ok (.slice (some ⟨b, 0, none⟩) (sLen + m) sCap)
      (w.setRow b (l.take (sLen * i.size) ++ ys ++ l.drop (sLen * i.size + ys.length)).toArray) := by
  have hst := run_storeCells_at P b (sLen * i.size) T ys 0 l.toArray w hb (by simpa using hfit) hoc.ok
  simp only [Nat.add_zero] at hst
  rcases h2.ok with ⟨e2, he2⟩ | he2
  all_goals
    simp [Builtin.append_, run_underlying ht, run_underlying he2, sizeOf, typeInfo, hi, hl1, hg, hf2, add_mid, hst]

theorem mul_fit {a b n c : Nat} (hn : 0 < n) (h : a * n * b ≤ c * n) : a * b ≤ c := by
  have e1 : a * n * b = a * b * n := by rw [Nat.mul_assoc, Nat.mul_comm n, ← Nat.mul_assoc]
  rw [e1] at h
  exact Nat.le_of_mul_le_mul_right h hn

/-- The builtin, over an owned slice. -/
theorem run_append {w : World} {K : List Nat} {w0 : World} {t t2 e n bytes m : Nat} {ty : TypeId} {v sv : Value} {xs ys z : List Value} {Hs r : Hp} [ht : SliceTy P t e n] [hb : BytesTy P e bytes] [hz : ZeroTy P e z] [h2 : NInt P t2]
    (hzn : z.length = n) (hv : Sl e n v xs Hs) (hs : St K w0 (Hs ++ r) w) (hsrc : SrcOf P w sv n m ys) (hys : ys.length = m * n) (hoc : OC ys) (hn : 0 < n) (hbytes : (xs.length + ys.length) * bytes ≤ 140737488355328 * n) (hb1 : 1 ≤ bytes) :
    ∃ v' w' Hs', (Builtin.append_ #[t, t2] ty #[v, sv]).run P w = .ok v' w' ∧ Sl e n v' (xs ++ ys) Hs' ∧ St K w0 (Hs' ++ r) w' := by
  obtain ⟨i, hi, hisz⟩ := info_some ht.size
  have hby : i.bytes = bytes := by have := hb.ok; simpa [hi] using this
  obtain ⟨zv, hzv, hzc⟩ := hz.ok
  have hzi : i.zero = some zv := by simpa [hi] using hzv
  have hzl : zv.cells.size = n := by rw [hzc]; simpa using hzn
  have hl1 := (hsrc w rfl).1
  subst hisz hby
  rcases hv with ⟨rfl, rfl, rfl⟩ | ⟨b, len, cap, junk, rfl, hx, hj, hlc, rfl⟩
  · by_cases hm : m = 0
    · subst hm
      have hy0 : ys = [] := by simpa using hys
      subst hy0
      refine ⟨.slice none 0 0, w, [], ?_, .inl ⟨rfl, rfl, rfl⟩, hs⟩
      have hf := (hsrc w rfl).2
      rcases h2.ok with ⟨e2, he2⟩ | he2
      all_goals simp [Builtin.append_, run_underlying ht.ok, run_underlying he2, sizeOf, typeInfo, hi, hl1, hf]
    · have hmb : (0 + m) * i.bytes ≤ 140737488355328 := by
        refine mul_fit hn ?_
        simpa [hys] using hbytes
      have hm63 : 0 + m ≤ 9223372036854775807 := by
        have : (0 + m) * 1 ≤ (0 + m) * i.bytes := Nat.mul_le_mul_left _ hb1
        omega
      have hrun := run_append_new (P := P) (w := w) (ty := ty) (sLen := 0) (sCap := 0) (base := none) (xs := []) ht.ok hi hzi h2 hl1 (by simp [Builtin.firstCells]) (hsrc w.drew rfl).2 (by omega) hmb hm63
      refine ⟨_, _, [(w.heap.size, _)], hrun, ?_, hs.drew.alloc _⟩
      have hge := grownCap_ge w (0 + m) 0 e
      exact .inr ⟨w.heap.size, 0 + m, grownCap w (0 + m) 0 e, (Builtin.zeroCells zv.cells (grownCap w (0 + m) 0 e - (0 + m))).toList, rfl, by simpa using hys, by rw [Array.length_toList, size_zeroCells, hzl, ← Nat.add_mul]; congr 1; omega, hge, rfl⟩
  · have hbe : w.heap[b]? = some (cl (xs ++ junk) e) := hs.own b _ (by simp)
    have hle : len * i.size ≤ cap * i.size := Nat.mul_le_mul_right _ hlc
    by_cases hg : len + m ≤ cap
    · have hfit : len * i.size + ys.length ≤ (xs ++ junk).length := by
        have : (len + m) * i.size ≤ cap * i.size := Nat.mul_le_mul_right _ hg
        rw [Nat.add_mul] at this
        rw [List.length_append, hx, hys]; omega
      have hrun := run_append_in (P := P) (w := w) (ty := ty) (sLen := len) (sCap := cap) (b := b) ht.ok hi h2 hl1 (hsrc w rfl).2 hys hoc hbe hg hfit
      have hyj : ys.length ≤ junk.length := by rw [List.length_append, hx] at hfit; omega
      rw [← hx, list_splice xs ys junk hyj] at hrun
      refine ⟨_, _, [(b, cl (xs ++ ys ++ junk.drop ys.length) e)], hrun, .inr ⟨b, len + m, cap, junk.drop ys.length, rfl, by rw [List.length_append, hx, hys, Nat.add_mul], ?_, hg, rfl⟩, ?_⟩
      · rw [List.length_drop, Nat.add_mul, hys]; rw [hys] at hyj; omega
      · exact hs.setRow (l := xs ++ junk) (T := e)
    · have hbb : (len + m) * i.bytes ≤ 140737488355328 := by
        refine mul_fit hn ?_
        rw [hx, hys, ← Nat.add_mul] at hbytes
        exact hbytes
      have hm63 : len + m ≤ 9223372036854775807 := by
        have : (len + m) * 1 ≤ (len + m) * i.bytes := Nat.mul_le_mul_left _ hb1
        omega
      have hold : (Builtin.firstCells i.size len (.slice (some ⟨b, 0, none⟩) len cap)).run P w.drew = .ok xs.toArray w.drew := by
        refine ((SrcOf.block (P := P) (w := w.drew) (i := 0) (m := len) (c := cap) (size := i.size) (ys := xs) hbe ?_ hx) w.drew rfl).2
        rw [List.drop_zero, ← hx, List.take_left']; rfl
      have hrun := run_append_new (P := P) (w := w) (ty := ty) (sLen := len) (sCap := cap) (base := some ⟨b, 0, none⟩) (xs := xs) ht.ok hi hzi h2 hl1 hold (hsrc w.drew rfl).2 (by omega) hbb hm63
      refine ⟨_, _, [(w.heap.size, cl (xs ++ ys ++ (Builtin.zeroCells zv.cells (grownCap w (len + m) cap e - (len + m))).toList) e)], hrun, ?_, ?_⟩
      · have hge := grownCap_ge w (len + m) cap e
        exact .inr ⟨w.heap.size, len + m, grownCap w (len + m) cap e, (Builtin.zeroCells zv.cells (grownCap w (len + m) cap e - (len + m))).toList, rfl, by rw [List.length_append, hx, hys, Nat.add_mul], by rw [Array.length_toList, size_zeroCells, hzl, ← Nat.add_mul]; congr 1; omega, hge, rfl⟩
      · have hs2 : St K w0 r w := (hs.perm (H' := r ++ [(b, cl (xs ++ junk) e)]) (List.perm_append_comm (l₁ := [(b, cl (xs ++ junk) e)]))).drop
        exact hs2.drew.alloc _
end
end Go.Proofs.Ytcmjkihddpppaaa
