/- Noughts are appended. -/
import Derived.Test.YtpdokachnmlhlaaG1
set_option linter.unusedVariables false
set_option linter.unusedSimpArgs false
namespace Go.Proofs.Ytpdokachnmlhlaa
open Go

section
variable {P : Program} {C : Ctx} {Q : Exit → Fr → Hp → Prop} {ρ : Fr} {H H' : Hp} {L rest : List Oper} {o : Oper}
def zc (z : List Value) (m : Nat) : List Value := (Builtin.zeroCells z.toArray m).toList
theorem zc_len (z : List Value) (m : Nat) : (zc z m).length = m * z.length := by simp [zc, Builtin.zeroCells]
theorem zc_one (v : Value) (m : Nat) : zc [v] m = List.replicate m v := by
  unfold zc Builtin.zeroCells
  apply List.ext_getElem?
  intro i
  by_cases hi : i < m
  · simp [List.getElem?_range, List.getElem?_replicate, hi, Nat.mod_one]
  · rw [List.getElem?_eq_none (by simp; omega), List.getElem?_eq_none (by simp; omega)]
theorem wrap_nat {m : Nat} (h : m ≤ 9223372036854775807) : IntKind.i64.wrap (m : Int) = (m : Int) := w64 (by omega)
theorem zc_if {n m : Nat} {z : List Value} (hn : 0 < n) (hz : z.length = n) (w : World) : (if m * n = 0 then pure #[] else do pure (Builtin.zeroCells z.toArray m) : Sem (Array Value)).run P w = .ok (zc z m).toArray w := by
  by_cases h : m * n = 0
  · have hm : m = 0 := by
      rcases Nat.mul_eq_zero.1 h with h | h
      · exact h
      · omega
    subst hm
    simp [zc, Builtin.zeroCells]
  · simp [h, zc]
theorem run_appendZ_new {w : World} {t t2 : TypeId} {ty e m sLen sCap : Nat} {base : Option Addr} {zv : Value} {xs z : List Value} {i : TypeInfo} (ht : P.underlying t = some (.slice e)) (hi : P.info? e = some i) (hz : i.zero = some zv) (hzc : zv.cells = z.toArray) (hzn : z.length = i.size) (hn : 0 < i.size) (h2 : IntTy P t2 .i64)
    (hf1 : (Builtin.firstCells i.size sLen (.slice base sLen sCap)).run P w.drew = .ok xs.toArray w.drew)
    (hg : sCap < sLen + m) (hbytes : (sLen + m) * i.bytes ≤ 140737488355328) (h63 : sLen + m ≤ 9223372036854775807) :
    (Builtin.append_ #[t, t2] ty #[.slice base sLen sCap, .int .i64 (m : Int)]).run P w = .ok (.slice (some ⟨w.heap.size, 0, none⟩) (sLen + m) (grownCap w (sLen + m) sCap e))
      (w.drew.alloc (cl (xs ++ zc z m ++ (Builtin.zeroCells zv.cells (grownCap w (sLen + m) sCap e - (sLen + m))).toList) e)) := by
  have hn' : ¬ (sLen + m ≤ sCap) := by omega
  have h63' : ¬ (9223372036854775807 < ((sLen : Int) + (m : Int))) := by omega
  have h48' : ¬ (281474976710656 < Builtin.nextslicecap (sLen + m) sCap * i.bytes) := by have := growslice_fits hg hbytes; omega
  have hw := wrap_nat (show m ≤ 9223372036854775807 by omega)
  have hneg : ¬ ((m : Int) < 0) := by omega
  have hb0 : m * i.bytes ≤ (sLen + m) * i.bytes := Nat.mul_le_mul_right _ (by omega)
  have hb : ¬ (281474976710656 < (m : Int) * (i.bytes : Int)) := by
    have := Int.ofNat_le.2 (Nat.le_trans hb0 hbytes)
    rw [Int.natCast_mul] at this
    omega
  have hzi := zc_if (P := P) (m := m) hn hzn w.drew
  rw [← hzc] at hzi
  simp [Builtin.append_, run_underlying ht, run_underlying h2.ok, sizeOf, typeInfo, zeroValue, hi, hz, hn', h63', h48', Question.forced, hf1, newRow, grownCap, asInt, asIntOf, hw, hneg, hb]
  by_cases h0 : m * i.size = 0
  · have : m = 0 := by
      rcases Nat.mul_eq_zero.1 h0 with h | h
      · exact h
      · omega
    subst this
    simp [zc, Builtin.zeroCells]
    congr 2
    apply Array.ext'
    simp
  · have hm : ¬ (m = 0 ∨ i.size = 0) := fun h => h0 (Nat.mul_eq_zero.2 h)
    simp only [if_neg h0]
    simp [hm, hzc, zc, h0]
    congr 2
    apply Array.ext'
    simp
theorem run_appendZ_in {w : World} {t t2 : TypeId} {ty e m sLen sCap b : Nat} {l z : List Value} {zv : Value} {i : TypeInfo} {T : TypeId} (ht : P.underlying t = some (.slice e)) (hi : P.info? e = some i) (hz : i.zero = some zv) (hzc : zv.cells = z.toArray) (hzn : z.length = i.size) (hn : 0 < i.size) (h2 : IntTy P t2 .i64)
    (hoc : OC (zc z m)) (h63 : m ≤ 9223372036854775807) (hbytes : m * i.bytes ≤ 281474976710656)
    (hb : w.heap[b]? = some (cl l T)) (hg : sLen + m ≤ sCap) (hfit : sLen * i.size + m * i.size ≤ l.length) :
    (Builtin.append_ #[t, t2] ty #[.slice (some ⟨b, 0, none⟩) sLen sCap, .int .i64 (m : Int)]).run P w = .ok (.slice (some ⟨b, 0, none⟩) (sLen + m) sCap)
      (w.setRow b (l.take (sLen * i.size) ++ zc z m ++ l.drop (sLen * i.size + m * i.size)).toArray) := by
  have hlen : (zc z m).length = m * i.size := by rw [zc_len, hzn]
  have hst := run_storeCells_at P b (sLen * i.size) T (zc z m) 0 l.toArray w hb (by rw [hlen]; simpa using hfit) hoc.ok
  simp only [Nat.add_zero, hlen] at hst
  have hw := wrap_nat h63
  have hneg : ¬ ((m : Int) < 0) := by omega
  have hb' : ¬ (281474976710656 < (m : Int) * (i.bytes : Int)) := by
    have := Int.ofNat_le.2 hbytes
    rw [Int.natCast_mul] at this
    omega
  by_cases h0 : m * i.size = 0
  · have : m = 0 := by
      rcases Nat.mul_eq_zero.1 h0 with h | h
      · exact h
      · omega
    subst this
    have e0 : zc z 0 = [] := by simp [zc, Builtin.zeroCells]
    rw [e0] at hst ⊢
    have w0 : IntKind.i64.wrap 0 = 0 := rfl
    have hg' : sLen ≤ sCap := by omega
    simp [w0, hg', Builtin.append_, run_underlying ht, run_underlying h2.ok, sizeOf, typeInfo, zeroValue, hi, hz, asInt, asIntOf, hw, hg, add_mid] at hst ⊢
    first | done | exact fun hc => absurd hg (by omega) | simp [hst]
  · have hm : ¬ (m = 0 ∨ i.size = 0) := fun h => h0 (Nat.mul_eq_zero.2 h)
    have ez : (Builtin.zeroCells z.toArray m).toList = zc z m := rfl
    simp [Builtin.append_, run_underlying ht, run_underlying h2.ok, sizeOf, typeInfo, zeroValue, hi, hz, asInt, asIntOf, hw, hneg, hb', hg, add_mid, hm, h0, hzc, ez, hst]

/-- The builtin, over an owned slice. -/
theorem run_appendZ {w : World} {K : List Nat} {w0 : World} {t t2 e n bytes m : Nat} {ty : TypeId} {v : Value} {xs z : List Value} {Hs r : Hp} [ht : SliceTy P t e n] [hb : BytesTy P e bytes] [hz : ZeroTy P e z] [h2 : IntTy P t2 .i64]
    (hzn : z.length = n) (hv : Sl e n v xs Hs) (hs : St K w0 (Hs ++ r) w) (hoc : OC (zc z m)) (hn : 0 < n) (hbytes : (xs.length + m * n) * bytes ≤ 140737488355328 * n) (hb1 : 1 ≤ bytes) :
    ∃ v' w' Hs', (Builtin.append_ #[t, t2] ty #[v, .int .i64 (m : Int)]).run P w = .ok v' w' ∧ Sl e n v' (xs ++ zc z m) Hs' ∧ St K w0 (Hs' ++ r) w' := by
  obtain ⟨i, hi, hisz⟩ := info_some ht.size
  have hby : i.bytes = bytes := by have := hb.ok; simpa [hi] using this
  obtain ⟨zv, hzv, hzc⟩ := hz.ok
  have hzi : i.zero = some zv := by simpa [hi] using hzv
  have hzl : zv.cells.size = n := by rw [hzc]; simpa using hzn
  have hlen : (zc z m).length = m * n := by rw [zc_len, hzn]
  subst hisz hby
  have hmb0 : m * i.size * i.bytes ≤ 140737488355328 * i.size := Nat.le_trans (Nat.mul_le_mul_right _ (Nat.le_add_left _ _)) hbytes
  have hmb : m * i.bytes ≤ 140737488355328 := mul_fit hn hmb0
  have hm63 : m ≤ 9223372036854775807 := by
    have : m * 1 ≤ m * i.bytes := Nat.mul_le_mul_left _ hb1
    omega
  rcases hv with ⟨rfl, rfl, rfl⟩ | ⟨b, len, cap, junk, rfl, hx, hj, hlc, rfl⟩
  · by_cases hm : m = 0
    · subst hm
      refine ⟨.slice none 0 0, w, [], ?_, .inl ⟨rfl, by simp [zc, Builtin.zeroCells], rfl⟩, hs⟩
      have hw := wrap_nat (show 0 ≤ 9223372036854775807 by omega)
      simp [Builtin.append_, run_underlying ht.ok, run_underlying h2.ok, sizeOf, typeInfo, hi, asInt, asIntOf, hw]
      simp at hw
      simp [hw]
    · have hrun := run_appendZ_new (P := P) (w := w) (ty := ty) (m := m) (sLen := 0) (sCap := 0) (base := none) (xs := []) ht.ok hi hzi hzc hzn hn h2 (by simp [Builtin.firstCells]) (by omega) (by simpa using hmb) (by omega)
      refine ⟨_, _, [(w.heap.size, _)], hrun, ?_, hs.drew.alloc _⟩
      have hge := grownCap_ge w (0 + m) 0 e
      exact .inr ⟨w.heap.size, 0 + m, grownCap w (0 + m) 0 e, (Builtin.zeroCells zv.cells (grownCap w (0 + m) 0 e - (0 + m))).toList, rfl, by simpa using hlen, by rw [Array.length_toList, size_zeroCells, hzl, ← Nat.add_mul]; congr 1; omega, hge, rfl⟩
  · have hbe : w.heap[b]? = some (cl (xs ++ junk) e) := hs.own b _ (by simp)
    have hle : len * i.size ≤ cap * i.size := Nat.mul_le_mul_right _ hlc
    by_cases hg : len + m ≤ cap
    · have hfit : len * i.size + m * i.size ≤ (xs ++ junk).length := by
        have : (len + m) * i.size ≤ cap * i.size := Nat.mul_le_mul_right _ hg
        rw [Nat.add_mul] at this
        rw [List.length_append, hx]; omega
      have hrun := run_appendZ_in (P := P) (w := w) (ty := ty) (sLen := len) (sCap := cap) (b := b) (m := m) ht.ok hi hzi hzc hzn hn h2 hoc hm63 (by omega) hbe hg hfit
      have hyj : (zc z m).length ≤ junk.length := by rw [hlen]; rw [List.length_append, hx] at hfit; omega
      rw [← hlen, ← hx, list_splice xs (zc z m) junk hyj] at hrun
      refine ⟨_, _, [(b, cl (xs ++ zc z m ++ junk.drop (zc z m).length) e)], hrun, .inr ⟨b, len + m, cap, junk.drop (zc z m).length, rfl, by rw [List.length_append, hx, hlen, Nat.add_mul], ?_, hg, rfl⟩, ?_⟩
      · rw [List.length_drop, Nat.add_mul, hlen]; rw [hlen] at hyj; omega
      · exact hs.setRow (l := xs ++ junk) (T := e)
    · have hbb : (len + m) * i.bytes ≤ 140737488355328 := by
        refine mul_fit hn ?_
        rw [hx, ← Nat.add_mul] at hbytes
        exact hbytes
      have hm63 : len + m ≤ 9223372036854775807 := by
        have : (len + m) * 1 ≤ (len + m) * i.bytes := Nat.mul_le_mul_left _ hb1
        omega
      have hold : (Builtin.firstCells i.size len (.slice (some ⟨b, 0, none⟩) len cap)).run P w.drew = .ok xs.toArray w.drew := by
        refine ((SrcOf.block (P := P) (w := w.drew) (i := 0) (m := len) (c := cap) (size := i.size) (ys := xs) hbe ?_ hx) w.drew rfl).2
        rw [List.drop_zero, ← hx, List.take_left']; rfl
      have hrun := run_appendZ_new (P := P) (w := w) (ty := ty) (m := m) (sLen := len) (sCap := cap) (base := some ⟨b, 0, none⟩) (xs := xs) ht.ok hi hzi hzc hzn hn h2 hold (by omega) hbb hm63
      refine ⟨_, _, [(w.heap.size, cl (xs ++ zc z m ++ (Builtin.zeroCells zv.cells (grownCap w (len + m) cap e - (len + m))).toList) e)], hrun, ?_, ?_⟩
      · have hge := grownCap_ge w (len + m) cap e
        exact .inr ⟨w.heap.size, len + m, grownCap w (len + m) cap e, (Builtin.zeroCells zv.cells (grownCap w (len + m) cap e - (len + m))).toList, rfl, by rw [List.length_append, hx, hlen, Nat.add_mul], by rw [Array.length_toList, size_zeroCells, hzl, ← Nat.add_mul]; congr 1; omega, hge, rfl⟩
      · have hs2 : St K w0 r w := (hs.perm (H' := r ++ [(b, cl (xs ++ junk) e)]) (List.perm_append_comm (l₁ := [(b, cl (xs ++ junk) e)]))).drop
        exact hs2.drew.alloc _
instance (v : Value) (m : Nat) [One v] : OC (zc [v] m) := by rw [zc_one]; infer_instance
end
section
variable {P : Program} {C : Ctx} {Q : Exit → Fr → Hp → Prop} {ρ : Fr} {H : Hp} {L rest : List Oper} {d : Option Tmp} {ty : TypeId} {pos : String} {af : Array Edge} {g : Option (Nat × Bool)} {t t' t2 e n len : Nat} {d' : Option Nat} {x y : Operand} {k kk : IntKind} {m : Nat} {v : Value}
/-- So many noughts are appended. -/
theorem W.apz {bytes : Nat} {xs : List Value} {zv : Value} {Hs rr : Hp} {mi : Int} [ht : SliceTy P t e n] [BytesTy P e bytes] [ZeroTy P e [zv]] [IntTy P t2 .i64] (hv : Sl e n v xs Hs) [hp : Part H Hs rr] (hk : ∀ v' Hs', Sl e n v' (xs ++ List.replicate m zv) Hs' → SL P C L Q rest (pt ρ d' v') (Hs' ++ rr)) (hx : ev ρ x = some v := by exact rfl) (hy : ev ρ y = some (.int .i64 mi) := by exact rfl) (i0 : NatI mi m := by infer_instance) (i1 : One zv := by infer_instance) (hn : n = 1 := by exact rfl) (hb1 : 1 ≤ bytes := by decide) (hbytes : (xs.length + m) * bytes ≤ 140737488355328 := by omega) (hg : gd L ρ ⟨d, .call { callee := .builtin .append, args := #[x, y], argTypes := #[t, t2] }, ty, pos, af, g⟩ = some true := by exact rfl) (hd : dk C.n d = some d' := by exact rfl) :
    SL P C L Q (⟨d, .call { callee := .builtin .append, args := #[x, y], argTypes := #[t, t2] }, ty, pos, af, g⟩ :: rest) ρ H := by
  subst hn
  have hm := i0.ok
  subst hm
  exact SL.eff hg hd fun a w hf hs => by
    obtain ⟨v', w', Hs', hrun, hv', hst⟩ := run_appendZ (P := P) (t := t) (t2 := t2) (ty := ty) (z := [zv]) (m := m) (n := 1) rfl hv (hs.perm hp.perm) inferInstance (by decide) (by simpa using hbytes) hb1
    rw [zc_one] at hv'
    exact ⟨v', w', Hs' ++ rr, .inl (by unfold execOp; simp [resolve, invoke, builtin, hf.eval hx, hf.eval hy, hrun]), hst, hk v' Hs' hv'⟩
end
end Go.Proofs.Ytpdokachnmlhlaa
