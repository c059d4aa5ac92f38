/- A contract with more than it needs. -/
import Derived.Test.YtcmjkihddpppaaaSl8
set_option linter.unusedVariables false
set_option linter.unusedSimpArgs false
namespace Go.Proofs.Ytcmjkihddpppaaa
open Go

theorem Tri.frame {P : Program} {f : FuncId} {vs : List Value} {Hc H r : Hp} {Pre Pre' : World → Prop} {R : Value → Hp → Prop} (h : Tri P f vs Hc Pre R) (hp : H.Perm (Hc ++ r)) (hpre : ∀ w, Own H w → Pre' w → Pre w) :
    Tri P f vs H Pre' (fun v H' => ∃ H1, H' = H1 ++ r ∧ R v H1) := fun w ho hq => by
  have hs := (St.start ho).perm hp
  exact (h w hs.drop.toOwn (hpre w ho hq)).mono fun e w' ⟨v, H1, he, hst, hR⟩ => ⟨v, H1 ++ r, he, hs.comp hst, H1, rfl, hR⟩
theorem Sl.form {e n : Nat} {v : Value} {xs : List Value} {H : Hp} (h : Sl e n v xs H) : ∃ a len cap, v = .slice a len cap ∧ xs.length = len * n := by
  rcases h with ⟨rfl, rfl, _⟩ | ⟨b, len, cap, junk, rfl, hl, _⟩
  · exact ⟨none, 0, 0, rfl, by simp⟩
  · exact ⟨_, len, cap, rfl, hl⟩
theorem Fin.np {P : Program} {C : Ctx} {fn : Func} {R : Value → Hp → Prop} {c : _} {ρ : Fr} {H : Hp} (h : Fin P C fn R (.panic c) ρ H) : False := h
theorem St.tail {K : List Nat} {w0 w : World} {H r : Hp} {b : Nat} {o : Obj} (hp : H.Perm ((b, o) :: r)) (h : St K w0 H w) : St K w0 r w := by
  have h1 : H.Perm (r ++ [(b, o)]) := hp.trans (List.perm_append_comm (l₁ := [(b, o)]))
  exact (h.perm h1).drop
/-- A block that nobody needs any more. -/
theorem Fin.rm {P : Program} {C : Ctx} {fn : Func} {R : Value → Hp → Prop} {e : Exit} {ρ : Fr} {H r : Hp} (b : Nat) {o : Obj} [hp : Out H b o r] (h : Fin P C fn R e ρ r) : Fin P C fn R e ρ H := by
  have hq := hp.perm
  cases e <;> first
    | exact h
    | (obtain ⟨v, Hc, s, h1, h2, h3⟩ := h
       exact ⟨v, Hc, (b, o) :: s, hq.trans ((h1.cons _).trans (List.perm_middle.symm)), h2, fun a w hf hs => h3 a w hf (hs.tail hq)⟩)
theorem Fin.perm {P : Program} {C : Ctx} {fn : Func} {R : Value → Hp → Prop} {e : Exit} {ρ : Fr} {H H' : Hp} (hp : H.Perm H') (h : Fin P C fn R e ρ H') : Fin P C fn R e ρ H := by
  cases e <;> first
    | exact h
    | (obtain ⟨v, Hc, s, h1, h2, h3⟩ := h
       exact ⟨v, Hc, s, hp.trans h1, h2, fun a w hf hs => h3 a w hf (hs.perm hp)⟩)
theorem Fin.drop {P : Program} {C : Ctx} {fn : Func} {R : Value → Hp → Prop} {e : Exit} {ρ : Fr} {H r : Hp} (Hs : Hp) [hp : Part H Hs r] (h : Fin P C fn R e ρ r) : Fin P C fn R e ρ H := by
  have hq : H.Perm (r ++ Hs) := hp.perm.trans List.perm_append_comm
  cases e <;> first
    | exact h
    | (obtain ⟨v, Hc, s, h1, h2, h3⟩ := h
       exact ⟨v, Hc, s ++ Hs, by rw [← List.append_assoc]; exact hq.trans (h1.append_right Hs), h2, fun a w hf hs => h3 a w hf (hs.perm hq).drop⟩)
theorem Fin.c1e {P : Program} {C : Ctx} {fn : Func} {R : Value → Hp → Prop} {e : Exit} {ρ : Fr} {H r : Hp} (he : e = .ret ∨ e = .normal) {t ty n b : Nat} {l : List Value} {T : TypeId} (l2 : List Value) (hrs : fn.results = #[.cell t ty]) (ht : lk ρ t = some (.pointer (some ⟨b, 0, none⟩))) [RowTy P ty n] [hp : Out H b (cl l T) r] (hl : l = l2) (hn : l2.length = n) (hR : R (.agg l2.toArray) r) : Fin P C fn R e ρ H := by
  subst hl
  have : At H b (cl l T) := ⟨hp.perm.mem_iff.2 (by simp)⟩
  have : Part H r [(b, cl l T)] := ⟨hp.perm.trans (List.perm_append_comm (l₁ := [(b, cl l T)]))⟩
  exact Fin.c1 he hrs ht hn r hR
theorem bf_step {pl : Nat → Option (Nat × Nat)} {i off n : Nat} {v : Value} {z x : List Value} {r : List (Nat × Value)} (z' : List Value) (hp : pl i = some (off, n)) (hv : (vl v).length = n) (ho : off + n ≤ z.length) (h : z.take off ++ vl v ++ z.drop (off + n) = z') (hr : bfill pl z' r = some x) : bfill pl z ((i, v) :: r) = some x := by
  subst h
  unfold bfill
  rw [hp]
  dsimp only
  rw [if_pos ⟨hv, ho⟩]
  exact hr
/-- A whole variable is written. -/
theorem SL.store_w {P : Program} {C : Ctx} {Q : Exit → Fr → Hp → Prop} {ρ : Fr} {H H' : Hp} {L rest : List Oper} {o : Oper} {t : TypeId} {n : Nat} {x y : Operand} {b : Nat} {l r : List Value} {T : TypeId} (ho : o.op = .store t x y) (hg : gd L ρ o = some true) {d : Option Nat} (hd : dk C.n o.dst = some d)
    (hx : ev ρ x = some (.pointer (some ⟨b, 0, none⟩))) (hy : ev ρ y = some (.agg r.toArray)) [RowTy P t n] (hr : r.length = n) [OC r] [At H b (cl l T)] (hz : l.length = n) [Upd H b (cl r T) H']
    (hk : SL P C L Q rest (pt ρ d undef) H') : SL P C L Q (o :: rest) ρ H :=
  SL.store_a (l' := r) ho hg hd hx hy hr (by omega) (by rw [List.take_zero, List.nil_append, List.drop_eq_nil_of_le (by omega), List.append_nil]) hk
theorem perm_mid1 (l r : Hp) (a : Nat × Obj) : (l ++ a :: r).Perm (a :: (l ++ r)) := List.perm_middle
theorem perm_mid2 (l r : Hp) (a b : Nat × Obj) : (l ++ a :: b :: r).Perm (a :: b :: (l ++ r)) := List.perm_middle.trans (List.perm_middle.cons a)
/-- The blocks of these numbers. -/
class Sel (H : Hp) (bs : List Nat) (R : outParam Hp) (r : outParam Hp) : Prop where
  perm : H.Perm (R ++ r)
  keys : R.map Prod.fst = bs
instance Sel.nil (H : Hp) : Sel H [] [] H := ⟨.refl _, rfl⟩
instance Sel.cons (H : Hp) (b : Nat) (o : Obj) (bs : List Nat) (R r r' : Hp) [h1 : Out H b o r] [h2 : Sel r bs R r'] : Sel H (b :: bs) ((b, o) :: R) r' := ⟨h1.perm.trans (h2.perm.cons _), by rw [List.map_cons, h2.keys]⟩
/-- A slice of the caller's own, in none of these blocks. -/
theorem Rd.ownB {K : List Nat} {w0 w : World} {H Hc Hs r r2 : Hp} {e n : Nat} {v : Value} {ys : List Value} (bs : List Nat) (hv : Sl e n v ys Hs) (hs : St K w0 H w) [hp : Sel H bs Hc r] [hq : Part r Hs r2] : Rd bs w n v ys := by
  have := Rd.own (Hc := Hc) hv hs (r := r2) ⟨by rw [List.append_assoc]; exact hp.perm.trans (hq.perm.append_left Hc)⟩
  rwa [hp.keys] at this
theorem SW.regionB {P : Program} {C : Ctx} {Q : Exit → Fr → Hp → Prop} {ρ : Fr} {H : Hp} {l : List Oper} {id : Nat} (bs : List Nat) (t : Nat) (hm : P.follows .mixedOrders = true) {R r : Hp} [hp : Sel H bs R r] (h : SA P C l Q R t l.length (Array.replicate l.length false) ρ H) : SW P C (.region id l.toArray true) Q ρ H :=
  SW.regionA R t hm (hp := ⟨hp.perm⟩) h
theorem SL.callB {P : Program} {C : Ctx} {Q : Exit → Fr → Hp → Prop} {ρ : Fr} {H : Hp} {L rest : List Oper} {o : Oper} {f : FuncId} {xs : Array Operand} {ats : Array TypeId} {vs : List Value} (bs : List Nat) {Hc r : Hp} [hp : Sel H bs Hc r] {Pre : World → Prop} {R : Value → Hp → Prop} (ho : o.op = .call { callee := .value (.func f), args := xs, argTypes := ats }) (hg : gd L ρ o = some true) {d : Option Nat} (hd : dk C.n o.dst = some d) (hx : evs ρ xs.toList = some vs) [IsFn P f] (ht : Tri P f vs Hc Pre R) (hpre : ∀ w, St C.K C.w0 H w → Pre w)
    (hk : ∀ v H', R v H' → SL P C L Q rest (pt ρ d v) (H' ++ r)) : SL P C L Q (o :: rest) ρ H :=
  have : Part H Hc r := ⟨hp.perm⟩
  SL.call Hc ho hg hd hx ht hpre hk
section
variable {P : Program} {C : Ctx} {ρ : Fr} {H : Hp} {o : Oper}
theorem eqGuard_slice (op : BinOp) (t : TypeId) (x y : Operand) (w : World) (a b : Option Addr) (n c n' c' : Nat) : (eqGuard op t x y (.slice a n c) (.slice b n' c')).run P w = .ok () w := by
  cases op <;> simp [eqGuard]
theorem run_eq_slnil {t e n : Nat} [h : SliceTy P t e n] (a : Option Addr) (m c : Nat) (w : World) : (Op.equal t (.slice a m c) (.slice none 0 0)).run P w = .ok a.isNone w := by
  have he := h.ok
  cases a with
  | none => unfold Op.equal Op.maxDepth Op.equalIn; simp [run_underlying he]
  | some a => unfold Op.equal Op.maxDepth Op.equalIn; simp [run_underlying he]
theorem p_eqslnil {t e n t' : Nat} {x y : Operand} {a : Option Addr} {m c : Nat} (ho : o.op = .binOp .eql t x y t') (hx : ev ρ x = some (.slice a m c)) (hy : ev ρ y = some (.slice none 0 0)) [h : SliceTy P t e n] : Pu P C ρ H o (.bool a.isNone) := fun ac w hf _ => by
  unfold execOp; rw [ho]; simp [hf.eval hx, hf.eval hy, eqGuard_slice, binOp, run_eq_slnil (h := h)]
theorem p_neslnil {t e n t' : Nat} {x y : Operand} {a : Option Addr} {m c : Nat} (ho : o.op = .binOp .neq t x y t') (hx : ev ρ x = some (.slice a m c)) (hy : ev ρ y = some (.slice none 0 0)) [h : SliceTy P t e n] : Pu P C ρ H o (.bool a.isSome) := fun ac w hf _ => by
  unfold execOp; rw [ho]; cases a <;> simp [hf.eval hx, hf.eval hy, eqGuard_slice, binOp, run_eq_slnil (h := h)]
end
end Go.Proofs.Ytcmjkihddpppaaa
