/- Appending where the old slice is still read; slices of byte slices. -/
import Derived.Test.YtpdokachnmlhlaaG2
set_option linter.unusedVariables false
set_option linter.unusedSimpArgs false
namespace Go.Proofs.Ytpdokachnmlhlaa
open Go

section
variable {P : Program}
/-- The builtin, over an owned slice; the old one is there still. -/
theorem run_appendK {w : World} {K : List Nat} {w0 : World} {t t2 e n bytes m : Nat} {ty : TypeId} {v sv : Value} {xs ys z : List Value} {Hs r : Hp} [ht : SliceTy P t e n] [hb : BytesTy P e bytes] [hz : ZeroTy P e z] [h2 : NInt P t2]
    (hzn : z.length = n) (hv : Sl e n v xs Hs) (hs : St K w0 (Hs ++ r) w) (hsrc : SrcOf P w sv n m ys) (hys : ys.length = m * n) (hoc : OC ys) (hn : 0 < n) (hbytes : (xs.length + ys.length) * bytes ≤ 140737488355328 * n) (hb1 : 1 ≤ bytes) :
    ∃ v' w' Hv Hf Hr Ho, (Builtin.append_ #[t, t2] ty #[v, sv]).run P w = .ok v' w' ∧ Sl e n v' (xs ++ ys) Hv ∧ St K w0 ((Hv ++ Hf) ++ r) w' ∧ Sl e n v xs Hr ∧ (Hv ++ Hf).Perm (Hr ++ Ho) := by
  obtain ⟨i, hi, hisz⟩ := info_some ht.size
  have hby : i.bytes = bytes := by have := hb.ok; simpa [hi] using this
  obtain ⟨zv, hzv, hzc⟩ := hz.ok
  have hzi : i.zero = some zv := by simpa [hi] using hzv
  have hzl : zv.cells.size = n := by rw [hzc]; simpa using hzn
  have hl1 := (hsrc w rfl).1
  subst hisz hby
  rcases hv with ⟨rfl, rfl, rfl⟩ | ⟨b, len, cap, junk, rfl, hx, hj, hlc, rfl⟩
  · obtain ⟨v', w', Hs', h1, h2, h3⟩ := run_append (P := P) (t := t) (t2 := t2) (ty := ty) hzn (Sl.nil e i.size) hs hsrc hys hoc hn hbytes hb1
    refine ⟨v', w', Hs', [], [], Hs', h1, h2, by simpa using h3, Sl.nil _ _, by simp⟩
  · have hbe : w.heap[b]? = some (cl (xs ++ junk) e) := hs.own b _ (by simp)
    have hle : len * i.size ≤ cap * i.size := Nat.mul_le_mul_right _ hlc
    by_cases hg : len + m ≤ cap
    · have hfit : len * i.size + ys.length ≤ (xs ++ junk).length := by
        have : (len + m) * i.size ≤ cap * i.size := Nat.mul_le_mul_right _ hg
        rw [Nat.add_mul] at this
        rw [List.length_append, hx, hys]; omega
      have hrun := run_append_in (P := P) (w := w) (ty := ty) (sLen := len) (sCap := cap) (b := b) ht.ok hi h2 hl1 (hsrc w rfl).2 hys hoc hbe hg hfit
      have hyj : ys.length ≤ junk.length := by rw [List.length_append, hx] at hfit; omega
      rw [← hx, list_splice xs ys junk hyj] at hrun
      refine ⟨_, _, [(b, cl (xs ++ ys ++ junk.drop ys.length) e)], [], [(b, cl (xs ++ (ys ++ junk.drop ys.length)) e)], [], hrun, .inr ⟨b, len + m, cap, junk.drop ys.length, rfl, by rw [List.length_append, hx, hys, Nat.add_mul], ?_, hg, rfl⟩, ?_, .inr ⟨b, len, cap, ys ++ junk.drop ys.length, rfl, hx, ?_, hlc, rfl⟩, ?_⟩
      · rw [List.length_drop, Nat.add_mul, hys]; rw [hys] at hyj; omega
      · exact hs.setRow (l := xs ++ junk) (T := e)
      · rw [List.length_append, List.length_drop]; omega
      · rw [List.append_assoc]
    · have hbb : (len + m) * i.bytes ≤ 140737488355328 := by
        refine mul_fit hn ?_
        rw [hx, hys, ← Nat.add_mul] at hbytes
        exact hbytes
      have hm63 : len + m ≤ 9223372036854775807 := by
        have : (len + m) * 1 ≤ (len + m) * i.bytes := Nat.mul_le_mul_left _ hb1
        omega
      have hold : (Builtin.firstCells i.size len (.slice (some ⟨b, 0, none⟩) len cap)).run P w.drew = .ok xs.toArray w.drew := by
        refine ((SrcOf.block (P := P) (w := w.drew) (i := 0) (m := len) (c := cap) (size := i.size) (ys := xs) hbe ?_ hx) w.drew rfl).2
        rw [List.drop_zero, ← hx, List.take_left']; rfl
      have hrun := run_append_new (P := P) (w := w) (ty := ty) (sLen := len) (sCap := cap) (base := some ⟨b, 0, none⟩) (xs := xs) ht.ok hi hzi h2 hl1 hold (hsrc w.drew rfl).2 (by omega) hbb hm63
      refine ⟨_, _, [(w.heap.size, cl (xs ++ ys ++ (Builtin.zeroCells zv.cells (grownCap w (len + m) cap e - (len + m))).toList) e)], [(b, cl (xs ++ junk) e)], [(b, cl (xs ++ junk) e)], [(w.heap.size, cl (xs ++ ys ++ (Builtin.zeroCells zv.cells (grownCap w (len + m) cap e - (len + m))).toList) e)], hrun, ?_, ?_, .inr ⟨b, len, cap, junk, rfl, hx, hj, hlc, rfl⟩, List.perm_append_comm⟩
      · have hge := grownCap_ge w (len + m) cap e
        exact .inr ⟨w.heap.size, len + m, grownCap w (len + m) cap e, (Builtin.zeroCells zv.cells (grownCap w (len + m) cap e - (len + m))).toList, rfl, by rw [List.length_append, hx, hys, Nat.add_mul], by rw [Array.length_toList, size_zeroCells, hzl, ← Nat.add_mul]; congr 1; omega, hge, rfl⟩
      · exact hs.drew.alloc _
end
section
variable {P : Program} {C : Ctx} {Q : Exit → Fr → Hp → Prop} {ρ : Fr} {H : Hp} {L rest : List Oper} {d : Option Tmp} {ty : TypeId} {pos : String} {af : Array Edge} {g : Option (Nat × Bool)} {t t' t2 e n len : Nat} {d' : Option Nat} {x y : Operand} {k kk : IntKind} {m : Int} {v sv : Value}
theorem W.apk {bytes mm : Nat} {xs ys zv : List Value} {Hs rr : Hp} [ht : SliceTy P t e n] [BytesTy P e bytes] [ZeroTy P e zv] [NInt P t2] (hv : Sl e n v xs Hs) [hp : Part H Hs rr] (hsrc : ∀ w, St C.K C.w0 H w → SrcOf P w sv n mm ys) (hk : ∀ v' Hv Hf Hr Ho, Sl e n v' (xs ++ ys) Hv → Sl e n v xs Hr → (Hv ++ Hf).Perm (Hr ++ Ho) → SL P C L Q rest (pt ρ d' v') ((Hv ++ Hf) ++ rr)) (hx : ev ρ x = some v := by exact rfl) (hy : ev ρ y = some sv := by exact rfl) (hys : ys.length = mm * n := by first | assumption | (simp; done) | omega) (hoc : OC ys := by infer_instance) (hzn : zv.length = n := by exact rfl) (hn : 0 < n := by decide) (hb1 : 1 ≤ bytes := by decide) (hbytes : (xs.length + ys.length) * bytes ≤ 140737488355328 * n := by omega) (hg : gd L ρ ⟨d, .call { callee := .builtin .append, args := #[x, y], argTypes := #[t, t2] }, ty, pos, af, g⟩ = some true := by exact rfl) (hd : dk C.n d = some d' := by exact rfl) :
    SL P C L Q (⟨d, .call { callee := .builtin .append, args := #[x, y], argTypes := #[t, t2] }, ty, pos, af, g⟩ :: rest) ρ H :=
  SL.eff hg hd fun a w hf hs => by
    obtain ⟨v', w', Hv, Hf, Hr, Ho, hrun, hv', hst, hr, hperm⟩ := run_appendK (P := P) (t := t) (t2 := t2) (ty := ty) hzn hv (hs.perm hp.perm) (hsrc w hs) hys hoc hn hbytes hb1
    exact ⟨v', w', (Hv ++ Hf) ++ rr, .inl (by unfold execOp; simp [resolve, invoke, builtin, hf.eval hx, hf.eval hy, hrun]), hst, hk v' Hv Hf Hr Ho hv' hr hperm⟩
/-- From so many on, whatever the slice is. -/
theorem W.s1g {p : Option Addr} {cap l : Nat} [SliceTy P t e n] (hk : SL P C L Q rest (pt ρ d' (.slice (sadr p cap l n) (len - l) (cap - l))) H) (hlc : len ≤ cap) (hx : ev ρ x = some (.slice p len cap) := by exact rfl) (hy : ev ρ y = some (.int k m) := by exact rfl) (hi : NatI m l := by infer_instance) (hh : l ≤ len := by omega) (hg : gd L ρ ⟨d, .slice t x (some y) none none, ty, pos, af, g⟩ = some true := by exact rfl) (hd : dk C.n d = some d' := by exact rfl) : SL P C L Q (⟨d, .slice t x (some y) none none, ty, pos, af, g⟩ :: rest) ρ H :=
  SL.pu (p_slice (vl := none) (vh := none) rfl hx (l := l) (h := len) (.inr ⟨y, k, m, rfl, hy, hi.ok⟩) (.inl ⟨rfl, rfl⟩) hh hlc) hg hd hk
end
section
variable {P : Program} {C : Ctx} {ρ : Fr} {H : Hp} {o : Oper}
/-- An array from so many on, as a slice. -/
theorem p_sar10 {t e n len l b j c : Nat} {x y : Operand} {k : IntKind} {m : Int} (ho : o.op = .slice t x (some y) none none) (hx : ev ρ x = some (.pointer (some ⟨b, j, none⟩))) (hy : ev ρ y = some (.int k m)) (hl : l < len) [hi : NatI m l] [ha : AdN j l n c] [ht : ArrTy P t len e n] : Pu P C ρ H o (.slice (some ⟨b, c, none⟩) (len - l) (len - l)) := by
  have h := p_slice_arr (P := P) (C := C) (ρ := ρ) (H := H) (l := l) (h := len) ho hx (.inr ⟨y, k, m, rfl, hy, hi.ok⟩) (.inl ⟨rfl, rfl⟩) (by omega) (Nat.le_refl _)
  rw [if_neg (by omega), ha.ok] at h
  exact h
end
/-- What stands behind so many of a slice's elements is a source. -/
theorem Sl.srcFrom {P : Program} {K : List Nat} {w0 w : World} {H Hs r : Hp} {e : Nat} {a : Option Addr} {len cap l : Nat} {ys : List Value} (hv : Sl e 1 (.slice a len cap) ys Hs) (hl : l ≤ len) (hs : St K w0 H w) (hp : Part H Hs r) : SrcOf P w (.slice (sadr a cap l 1) (len - l) (cap - l)) 1 (len - l) (ys.drop l) := by
  have hs2 := (hs.perm hp.perm)
  rcases hv with ⟨he, rfl, rfl⟩ | ⟨b, len', cap', junk, he, hx, hj, hlc, rfl⟩
  · cases he
    have : l = 0 := by omega
    subst this
    exact SrcOf.empty _ _ _ _
  · cases he
    unfold sadr
    by_cases hc : cap = l
    · have h0 : len - l = 0 := by omega
      rw [h0, List.drop_eq_nil_of_le (by omega)]
      exact SrcOf.empty _ _ _ _
    · rw [if_neg hc]
      have e1 : Option.map (fun x : Addr => x.add (l * 1)) (some ⟨b, 0, none⟩) = some ⟨b, l, none⟩ := by
        simp only [Option.map_some, add_mid, Nat.mul_one, Nat.zero_add]
      rw [e1]
      refine SrcOf.block (hs2.own b (cl (ys ++ junk) e) (by simp)) ?_ (by rw [List.length_drop]; omega)
      rw [List.drop_append_of_le_length (by omega), List.take_left']
      rw [List.length_drop]; omega
theorem Sl.lens {e : Nat} {a : Option Addr} {len cap : Nat} {ys : List Value} {Hs : Hp} (hv : Sl e 1 (.slice a len cap) ys Hs) : ys.length = len ∧ len ≤ cap ∧ (len = 0 ∨ ∃ b, a = some ⟨b, 0, none⟩) := by
  rcases hv with ⟨he, rfl, rfl⟩ | ⟨b, len', cap', junk, he, hx, hj, hlc, rfl⟩
  · cases he; exact ⟨rfl, Nat.le_refl _, .inl rfl⟩
  · cases he; exact ⟨by omega, hlc, .inr ⟨b, rfl⟩⟩
/-- A slice of slices of bytes that is read. -/
def RdS (K : List Nat) (w : World) (v : Value) (bss : List (List UInt8)) : Prop :=
  ∃ vs, Rd K w 1 v vs ∧ vs.length = bss.length ∧ ∀ (i : Nat) (bs : List UInt8), bss[i]? = some bs → ∃ (a : Option Addr) (len cap : Nat), vs[i]? = some (Value.slice a len cap) ∧ Rd K w 1 (.slice a len cap) (cbs bs)
theorem RdS.nil (K : List Nat) (w : World) (a : Option Addr) (c : Nat) : RdS K w (.slice a 0 c) [] := ⟨[], Rd.empty _ _ _ _ _, rfl, fun i bs h => by simp at h⟩
/-- A row of slices that the caller has built. -/
theorem RdS.at {K : List Nat} {w0 w : World} {H Hc r : Hp} {b len cap : Nat} {vs : List Value} {T : TypeId} {fz : Nat × Nat} {bss : List (List UInt8)} (hs : St K w0 H w) [hp : Part H (Hc ++ [(b, .cells vs.toArray T fz)]) r] (hl : vs.length = len) (hc : len ≤ cap) (hn : vs.length = bss.length)
    (hr : ∀ (i : Nat) (bs : List UInt8), bss[i]? = some bs → ∃ (a : Option Addr) (len cap : Nat), vs[i]? = some (Value.slice a len cap) ∧ Rd (Hc.map Prod.fst) w 1 (.slice a len cap) (cbs bs)) : RdS (Hc.map Prod.fst) w (.slice (some ⟨b, 0, none⟩) len cap) bss :=
  ⟨vs, Rd.atH hs hp (by subst hl; rw [List.drop_zero, Nat.mul_one, List.take_length]) (by subst hl; simp) hc, hn, hr⟩
theorem RdS.ro {K : List Nat} {w0 w : World} {H Hc r : Hp} {v : Value} {bss : List (List UInt8)} (h : RdS K w0 v bss) (hs : St K w0 H w) [hp : Part H Hc r] : RdS (Hc.map Prod.fst) w v bss := by
  obtain ⟨vs, h1, h2, h3⟩ := h
  exact ⟨vs, h1.ro hs, h2, fun i bs hi => by
    obtain ⟨a, len, cap, h4, h5⟩ := h3 i bs hi
    exact ⟨a, len, cap, h4, h5.ro hs⟩⟩
theorem RdS.one {K : List Nat} {w : World} {v : Value} {bss : List (List UInt8)} (h : RdS K w v bss) : One v := by
  obtain ⟨vs, h1, -⟩ := h
  exact h1.isOne
theorem cbs_app (a b : List UInt8) : cbs (a ++ b) = cbs a ++ cbs b := List.map_append ..
theorem cbs_len (a : List UInt8) : (cbs a).length = a.length := List.length_map ..
theorem cbs_drop (a : List UInt8) (n : Nat) : (cbs a).drop n = cbs (a.drop n) := List.map_drop.symm
end Go.Proofs.Ytpdokachnmlhlaa
