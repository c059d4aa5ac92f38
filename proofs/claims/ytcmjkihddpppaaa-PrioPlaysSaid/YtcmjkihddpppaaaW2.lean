/- A region that draws its order: what only reads is taken as early as it can be; what was read stays as it is till it must have been read. -/
import Derived.Test.YtcmjkihddpppaaaW1
import Derived.KernelRfl
set_option linter.unusedVariables false
set_option linter.unusedSimpArgs false
namespace Go.Proofs.Ytcmjkihddpppaaa
open Go

/-- These blocks are as they are. -/
def Rk (C : Ctx) (R : Hp) (w : World) : Prop := St C.K C.w0 [] w ∧ ∀ x ∈ R, w.heap[x.1]? = some x.2
theorem Rk.of {C : Ctx} {R H : Hp} {w : World} (h : St C.K C.w0 H w) (hr : ∀ x ∈ R, x ∈ H) : Rk C R w := ⟨St.drop (Hc := []) (r := H) h, fun x hx => h.own x.1 x.2 (hr x hx)⟩
theorem Rk.sub {C : Ctx} {R R' : Hp} {w : World} (hs : ∀ x ∈ R, x ∈ R') (h : Rk C R' w) : Rk C R w := ⟨h.1, fun x hx => h.2 x (hs x hx)⟩
def nxt (B : List Nat) (R : Hp) (i : Nat) : Hp := bif B.contains i then [] else R
theorem nxt_t {B : List Nat} {R : Hp} {i : Nat} (h : B.contains i = true) : nxt B R i = [] := by unfold nxt; rw [h]; rfl
theorem nxt_f {B : List Nat} {R : Hp} {i : Nat} (h : B.contains i = false) : nxt B R i = R := by unfold nxt; rw [h]; rfl
theorem nxt_sub {B : List Nat} {R R' : Hp} (i : Nat) (hs : ∀ x ∈ R, x ∈ R') : ∀ x ∈ nxt B R i, x ∈ nxt B R' i := by
  cases h : B.contains i
  · rw [nxt_f h, nxt_f h]; exact hs
  · rw [nxt_t h]; simp

def AnyS (P : Program) (C : Ctx) (ops : Array Oper) (Q : Exit → Act → World → Prop) (B : List Nat) : Hp → Nat → Array Bool → Act → World → Prop
  | _, 0, listed, a, w => Region.ready .any ops listed = [] ∧ Q .normal a w
  | R, f + 1, listed, a, w => (Region.ready .any ops listed = [] → Q .normal a w) ∧
    ∀ i ∈ Region.ready .any ops listed, wpOp P ops Q i (fun a' w' => Rk C (nxt B R i) w' ∧ AnyS P C ops Q B (nxt B R i) f (listed.setIfInBounds i true) a' w') a w

section
variable {P : Program} {C : Ctx} {ops : Array Oper} {Q : Exit → Act → World → Prop} {B : List Nat}
theorem AnyS.any : ∀ (f : Nat) (R : Hp) (listed : Array Bool) (a : Act) (w : World), AnyS P C ops Q B R f listed a w → wpAny P .any ops Q f listed a w
  | 0, _, _, _, _, h => h
  | f + 1, _, _, _, _, h => ⟨h.1, fun i hi => wpOp_mono (fun a' w' h' => AnyS.any f _ _ a' w' h'.2) (h.2 i hi)⟩
theorem AnyS.weaken : ∀ (f : Nat) (R R' : Hp) (listed : Array Bool) (a : Act) (w : World), (∀ x ∈ R, x ∈ R') → AnyS P C ops Q B R' f listed a w → AnyS P C ops Q B R f listed a w
  | 0, _, _, _, _, _, _, h => h
  | f + 1, _, _, _, _, _, hs, h => ⟨h.1, fun i hi => wpOp_mono (fun a' w' h' => ⟨Rk.sub (nxt_sub i hs) h'.1, AnyS.weaken f _ _ _ a' w' (nxt_sub i hs) h'.2⟩) (h.2 i hi)⟩

/-- These wait for i, directly or through others of them. -/
def chainB (ops : Array Oper) (listed : Array Bool) (i : Nat) (Ws : List Nat) : Bool :=
  Ws.all fun j => !listed.getD j true && match ops[j]? with
    | some o => o.after.any fun e => Region.binds .any e && (Nat.beq e.on i || Ws.contains e.on)
    | none => false
theorem chain_ready {listed : Array Bool} {i j : Nat} {Ws : List Nat} (h1 : ∀ k ∈ Ws, ∃ o, ops[k]? = some o ∧ ∃ e ∈ o.after, Region.binds .any e = true ∧ (e.on = i ∨ e.on ∈ Ws)) (h2 : ∀ k ∈ Ws, listed.getD k false = false) (hi : listed.getD i false = false)
    (hj : j ∈ Region.ready .any ops listed) : j ∉ Ws := fun hm => by
  obtain ⟨_, o, ho, hall⟩ := mem_ready.1 hj
  obtain ⟨o2, ho2, e, he, hb, hor⟩ := h1 j hm
  rw [ho] at ho2
  cases ho2
  have := hall e he hb
  rcases hor with h | h
  · rw [h, hi] at this; cases this
  · rw [h2 _ h] at this; cases this

theorem AnyS.first {i : Nat} {oi : Oper} {v : Value} {Ws : List Nat} {R : Hp} (hi : ops[i]? = some oi) (hsel : ∀ (j : Nat) (o : Oper) cs b, ops[j]? = some o → o.op ≠ .select cs b)
    (h1 : ∀ k ∈ Ws, ∃ o, ops[k]? = some o ∧ ∃ e ∈ o.after, Region.binds .any e = true ∧ (e.on = i ∨ e.on ∈ Ws)) (hiB : B.contains i = false) (hQ : ∀ c a w, Q (.panic c) (a.put oi.dst v) w → Q (.panic c) a w) :
    ∀ (f : Nat) (listed : Array Bool) (a : Act) (w : World),
      (∀ j oj, ops[j]? = some oj → j ≠ i → listed.getD j true = false → (∀ e ∈ oj.after, Region.binds .any e = true → e.on ≠ i) → oi.apart ops oj = true) →
      (∀ k ∈ Ws, listed.getD k true = false) → (∀ t, B.contains t = true → listed.getD t true = true ∨ t ∈ Ws) →
      i ∈ Region.ready .any ops listed → YieldsIf P ops (Rk C R) oi v a → Rk C R w →
      AnyS P C ops Q B R f (listed.setIfInBounds i true) (a.put oi.dst v) w → AnyS P C ops Q B R (f + 1) listed a w := by
  intro f
  induction f with
  | zero =>
    intro listed a w _ _ _ hr hy hS h
    refine ⟨fun h0 => absurd hr (by rw [h0]; exact List.not_mem_nil), fun j hj => ?_⟩
    rcases Decidable.em (j = i) with rfl | hne
    · exact hy.wpOp hi hS (by rw [nxt_f hiB]; exact ⟨hS, h⟩)
    · have := ready_mono hj hne
      rw [h.1] at this
      exact absurd this List.not_mem_nil
  | succ f ih =>
    intro listed a w hfree hW hB hr hy hS h
    have hui := (mem_ready.1 hr).1
    refine ⟨fun h0 => absurd hr (by rw [h0]; exact List.not_mem_nil), fun j hj => ?_⟩
    rcases Decidable.em (j = i) with rfl | hne
    · exact hy.wpOp hi hS (by rw [nxt_f hiB]; exact ⟨hS, h⟩)
    · obtain ⟨huj, oj, hoj, hpre⟩ := mem_ready.1 hj
      have hif : listed.getD i false = false := getD_both hui
      have hjW : j ∉ Ws := chain_ready h1 (fun k hk => getD_both (hW k hk)) hif hj
      have hjB : B.contains j = false := by
        cases hb : B.contains j with
        | false => rfl
        | true =>
          rcases hB j hb with h | h
          · rw [huj] at h; cases h
          · exact absurd h hjW
      have hno : ∀ e ∈ oj.after, Region.binds .any e = true → e.on ≠ i := fun e he hb heq => by
        have := hpre e he hb
        rw [heq, hif] at this
        cases this
      have h1 := wpOp_putIf hoj (hfree j oj hoj hne huj hno) (fun cs b => hsel i oi cs b hi) (fun cs b => hsel j oj cs b hoj) hQ hy (h.2 j (ready_mono hj hne))
      refine wpOp_mono (fun a' w' ⟨hy', hS', hrest⟩ => ?_) h1
      rw [nxt_f hjB] at hS' hrest ⊢
      refine ⟨hS', ih _ a' w' (fun k ok hk hki hun hn => hfree k ok hk hki ?_ hn) (fun k hk => ?_) (fun t ht => ?_) (ready_mono hr (Ne.symm hne)) hy' hS' (by rw [Array.setIfInBounds_comm _ _ hne]; exact hrest)⟩
      · rcases Decidable.em (j = k) with rfl | hjk
        · exact huj
        · rwa [getD_set_ne true hjk] at hun
      · have hjk : j ≠ k := fun e => hjW (e ▸ hk)
        rw [getD_set_ne true hjk]; exact hW k hk
      · rcases Decidable.em (j = t) with rfl | hjt
        · rw [hjB] at ht; cases ht
        · rw [getD_set_ne true hjt]; exact hB t ht

/-- What doesn't look at the memory. -/
theorem AnyS.firstW {i : Nat} {oi : Oper} {v : Value} (hi : ops[i]? = some oi) (hsel : ∀ (j : Nat) (o : Oper) cs b, ops[j]? = some o → o.op ≠ .select cs b)
    (hiB : B.contains i = false) (hQ : ∀ c a w, Q (.panic c) (a.put oi.dst v) w → Q (.panic c) a w) :
    ∀ (f : Nat) (R : Hp) (listed : Array Bool) (a : Act) (w : World),
      (∀ j oj, ops[j]? = some oj → j ≠ i → listed.getD j true = false → (∀ e ∈ oj.after, Region.binds .any e = true → e.on ≠ i) → oi.apart ops oj = true) →
      i ∈ Region.ready .any ops listed → YieldsIf P ops (Rk C []) oi v a → Rk C R w →
      AnyS P C ops Q B R f (listed.setIfInBounds i true) (a.put oi.dst v) w → AnyS P C ops Q B R (f + 1) listed a w := by
  intro f
  induction f with
  | zero =>
    intro R listed a w _ hr hy hS h
    refine ⟨fun h0 => absurd hr (by rw [h0]; exact List.not_mem_nil), fun j hj => ?_⟩
    rcases Decidable.em (j = i) with rfl | hne
    · exact hy.wpOp hi ⟨hS.1, by simp⟩ (by rw [nxt_f hiB]; exact ⟨hS, h⟩)
    · have := ready_mono hj hne
      rw [h.1] at this
      exact absurd this List.not_mem_nil
  | succ f ih =>
    intro R listed a w hfree hr hy hS h
    have hui := (mem_ready.1 hr).1
    refine ⟨fun h0 => absurd hr (by rw [h0]; exact List.not_mem_nil), fun j hj => ?_⟩
    rcases Decidable.em (j = i) with rfl | hne
    · exact hy.wpOp hi ⟨hS.1, by simp⟩ (by rw [nxt_f hiB]; exact ⟨hS, h⟩)
    · obtain ⟨huj, oj, hoj, hpre⟩ := mem_ready.1 hj
      have hif : listed.getD i false = false := getD_both hui
      have hno : ∀ e ∈ oj.after, Region.binds .any e = true → e.on ≠ i := fun e he hb heq => by
        have := hpre e he hb
        rw [heq, hif] at this
        cases this
      have h1 := wpOp_putIf hoj (hfree j oj hoj hne huj hno) (fun cs b => hsel i oi cs b hi) (fun cs b => hsel j oj cs b hoj) hQ hy (h.2 j (ready_mono hj hne))
      refine wpOp_mono (fun a' w' ⟨hy', hS', hrest⟩ => ?_) h1
      refine ⟨hS', ih _ _ a' w' (fun k ok hk hki hun hn => hfree k ok hk hki ?_ hn) (ready_mono hr (Ne.symm hne)) hy' hS' (by rw [Array.setIfInBounds_comm _ _ hne]; exact hrest)⟩
      rcases Decidable.em (j = k) with rfl | hjk
      · exact huj
      · rwa [getD_set_ne true hjk] at hun
end

def SS (P : Program) (C : Ctx) (L : List Oper) (Q : Exit → Fr → Hp → Prop) (B : List Nat) (R : Hp) (fuel : Nat) (listed : Array Bool) (ρ : Fr) (H : Hp) : Prop :=
  ∀ a w, Fits C.n ρ a → St C.K C.w0 H w → (∀ x ∈ R, x ∈ H) → AnyS P C L.toArray (lift C Q) B R fuel listed a w

/-- What was read stands still. -/
class Keep (R H : Hp) : Prop where
  ok : ∀ x ∈ R, x ∈ H
instance Keep.nil (H : Hp) : Keep [] H := ⟨by simp⟩
instance Keep.cons (H R : Hp) (b : Nat) (o : Obj) [h1 : At H b o] [h2 : Keep R H] : Keep ((b, o) :: R) H := ⟨fun x hx => by
  rcases List.mem_cons.1 hx with rfl | hx
  · exact h1.mem
  · exact h2.ok x hx⟩
class Ins (R : Hp) (b : Nat) (o : Obj) (R' : outParam Hp) : Prop where
  ok : (b, o) ∈ R' ∧ (∀ x ∈ R, x ∈ R') ∧ ∀ x ∈ R', x = (b, o) ∨ x ∈ R
instance Ins.new (R : Hp) (b : Nat) (o : Obj) : Ins R b o ((b, o) :: R) := ⟨by simp, fun x hx => List.mem_cons_of_mem _ hx, fun x hx => List.mem_cons.1 hx⟩
instance (priority := 1100) Ins.old (R : Hp) (b : Nat) (o : Obj) [h : At R b o] : Ins R b o R := ⟨h.mem, fun x hx => hx, fun x hx => .inr hx⟩

section
variable {P : Program} {C : Ctx} {Q : Exit → Fr → Hp → Prop} {ρ : Fr} {H H' : Hp} {L l rest : List Oper} {o : Oper} {B : List Nat} {R R' : Hp} {fuel : Nat} {listed : Array Bool}

theorem SW.regionS {id : Nat} (B : List Nat) (h : SS P C l Q B [] l.length (Array.replicate l.length false) ρ H) (hm : P.follows .mixedOrders = true) : SW P C (.region id l.toArray true) Q ρ H := fun a w hf hs =>
  wp_region_any hm (AnyS.any _ _ _ _ _ (by
    have := h a _ hf (hs.drawn (w.drawn + 1)) (by simp)
    rw [List.size_toArray]
    exact this))

def canS (L : List Oper) (B : List Nat) (listed : Array Bool) (i : Nat) : Bool :=
  Region.noSelect L.toArray && Region.free .any L.toArray listed i && (Region.ready .any L.toArray listed).contains i && !B.contains i
def canL (L : List Oper) (B : List Nat) (listed : Array Bool) (i : Nat) (Ws : List Nat) : Bool :=
  canS L B listed i && chainB L.toArray listed i Ws && B.all fun t => listed.getD t true || Ws.contains t

theorem SS.putW {v : Value} (i : Nat) (hi : L[i]? = some o) (hok : canS L B listed i = true) (hQ : ∀ c ρ H, Q (.panic c) ρ H → False)
    (hy : ∀ a, Fits C.n ρ a → YieldsIf P L.toArray (Rk C []) o v a) {d : Option Nat} (hd : dk C.n o.dst = some d)
    (hk : SS P C L Q B R fuel (listed.setIfInBounds i true) (pt ρ d v) H) : SS P C L Q B R (fuel + 1) listed ρ H := fun a w hf hs hr => by
  simp only [canS, Bool.and_eq_true, Bool.not_eq_true'] at hok
  obtain ⟨⟨⟨h1, h2⟩, h3⟩, h4⟩ := hok
  have hi' : L.toArray[i]? = some o := by simpa using hi
  exact AnyS.firstW hi' (Region.noSelect_spec h1) h4 (fun c a w ⟨ρ, H, _, _, h⟩ => (hQ c ρ H h).elim) fuel R listed a w (Region.free_spec hi' h2) (by simpa using h3) (hy a hf) (Rk.of hs hr) (hk _ w (hf.put hd v) hs hr)
theorem SS.putL {v : Value} (i : Nat) (Ws : List Nat) (hi : L[i]? = some o) (hok : canL L B listed i Ws = true) (hQ : ∀ c ρ H, Q (.panic c) ρ H → False)
    (hRR : ∀ x ∈ R, x ∈ R') (hR : ∀ x ∈ R', x ∈ R ∨ x ∈ H) (hy : ∀ a, Fits C.n ρ a → YieldsIf P L.toArray (Rk C R') o v a) {d : Option Nat} (hd : dk C.n o.dst = some d)
    (hk : SS P C L Q B R' fuel (listed.setIfInBounds i true) (pt ρ d v) H) : SS P C L Q B R (fuel + 1) listed ρ H := fun a w hf hs hr => by
  simp only [canL, canS, Bool.and_eq_true, Bool.not_eq_true'] at hok
  obtain ⟨⟨⟨⟨⟨h1, h2⟩, h3⟩, h4⟩, h5⟩, h6⟩ := hok
  have hi' : L.toArray[i]? = some o := by simpa using hi
  have hr' : ∀ x ∈ R', x ∈ H := fun x hx => (hR x hx).elim (hr x) id
  have h5' : ∀ k ∈ Ws, listed.getD k true = false ∧ ∃ o, L.toArray[k]? = some o ∧ ∃ e ∈ o.after, Region.binds .any e = true ∧ (e.on = i ∨ e.on ∈ Ws) := fun k hk => by
    have := List.all_eq_true.1 h5 k hk
    simp only [Bool.and_eq_true, Bool.not_eq_true'] at this
    refine ⟨this.1, ?_⟩
    have h7 := this.2
    split at h7
    · rename_i o2 ho2
      obtain ⟨e, he, hb⟩ := Array.any_eq_true'.1 h7
      simp only [Bool.and_eq_true, Bool.or_eq_true] at hb
      exact ⟨o2, ho2, e, he, hb.1, hb.2.imp Nat.eq_of_beq_eq_true (fun h => by simpa using h)⟩
    · cases h7
  refine AnyS.weaken _ R R' _ _ _ hRR (AnyS.first hi' (Region.noSelect_spec h1) (fun k hk => (h5' k hk).2) h4 (fun c a w ⟨ρ, H, _, _, h⟩ => (hQ c ρ H h).elim) fuel listed a w (Region.free_spec hi' h2) (fun k hk => (h5' k hk).1) (fun t ht => ?_) (by simpa using h3) (hy a hf) (Rk.of hs hr') (hk _ w (hf.put hd v) hs hr'))
  have := List.all_eq_true.1 h6 t (by simpa using ht)
  simpa using this

theorem SS.done (h : Q .normal ρ H) (hr : (Region.ready .any L.toArray listed).isEmpty = true) : SS P C L Q B R fuel listed ρ H := fun a w hf hs _ => by
  have hr' : Region.ready .any L.toArray listed = [] := by simpa using hr
  have hq : lift C Q .normal a w := ⟨ρ, H, hf, hs, h⟩
  cases fuel with
  | zero => exact ⟨hr', hq⟩
  | succ f => exact ⟨fun _ => hq, by rw [hr']; simp⟩

/-- Behind an operation that writes. -/
def BehS (P : Program) (C : Ctx) (L : List Oper) (Q : Exit → Fr → Hp → Prop) (B : List Nat) (R : Hp) (fuel : Nat) (listed : Array Bool) (ρ' : Fr) (H' : Hp) : Prop := (∀ x ∈ R, x ∈ H') ∧ SS P C L Q B R fuel listed ρ' H'
theorem SL.nilB [hk : Keep R H] (h : SS P C L Q B R fuel listed ρ H) : SL P C L (thn (BehS P C L Q B R fuel listed) Q) [] ρ H := SL.nil ⟨hk.ok, h⟩
theorem SS.each (is : List Nat) (hok : Region.ready .any L.toArray listed = is) (hne : is ≠ [])
    (h : ∀ i ∈ is, ∃ o, L[i]? = some o ∧ SL P C L (thn (BehS P C L Q B (nxt B R i) fuel (listed.setIfInBounds i true)) Q) [o] ρ H) : SS P C L Q B R (fuel + 1) listed ρ H := fun a w hf hs hr =>
  ⟨fun h0 => absurd (hok ▸ h0) hne, fun k hk => by
    obtain ⟨o, hi, h⟩ := h k (hok ▸ hk)
    exact wpOp_of_SL hi h hf hs fun ρ' H' a' w' ⟨hr', hsa⟩ hf' hs' => ⟨Rk.of hs' hr', hsa a' w' hf' hs' hr'⟩⟩
/-- The one that may come up now: what was read ahead stays (effK), or had to be read by now (effB). -/
theorem SS.effK (i : Nat) (h : SL P C L (thn (BehS P C L Q B R fuel (listed.setIfInBounds i true)) Q) [o] ρ H) (hi : L[i]? = some o) (hok : (Region.ready .any L.toArray listed == [i] && !B.contains i) = true) : SS P C L Q B R (fuel + 1) listed ρ H := by
  simp only [Bool.and_eq_true, Bool.not_eq_true', beq_iff_eq] at hok
  refine SS.each [i] hok.1 (by simp) fun j hj => ?_
  rw [List.mem_singleton.1 hj, nxt_f hok.2]
  exact ⟨o, hi, h⟩
theorem SS.effB (i : Nat) (h : SL P C L (thn (BehS P C L Q B [] fuel (listed.setIfInBounds i true)) Q) [o] ρ H) (hi : L[i]? = some o) (hok : (Region.ready .any L.toArray listed == [i] && B.contains i) = true) : SS P C L Q B R (fuel + 1) listed ρ H := by
  simp only [Bool.and_eq_true, beq_iff_eq] at hok
  refine SS.each [i] hok.1 (by simp) fun j hj => ?_
  rw [List.mem_singleton.1 hj, nxt_t hok.2]
  exact ⟨o, hi, h⟩

theorem SS.twoK {o2 : Oper} (i j : Nat) (h : SL P C L (thn (BehS P C L Q B R fuel (listed.setIfInBounds i true)) Q) [o] ρ H) (h2 : SL P C L (thn (BehS P C L Q B R fuel (listed.setIfInBounds j true)) Q) [o2] ρ H) (hi : L[i]? = some o) (hj : L[j]? = some o2) (hok : (Region.ready .any L.toArray listed == [i, j] && (!B.contains i && !B.contains j)) = true := by kernel_rfl) : SS P C L Q B R (fuel + 1) listed ρ H := by
  simp only [Bool.and_eq_true, Bool.not_eq_true', beq_iff_eq] at hok
  refine SS.each [i, j] hok.1 (by simp) fun k hk => ?_
  rcases List.mem_cons.1 hk with rfl | hk
  · rw [nxt_f hok.2.1]; exact ⟨o, hi, h⟩
  · rw [List.mem_singleton.1 hk, nxt_f hok.2.2]; exact ⟨o2, hj, h2⟩

/-! ### One operation each -/
theorem SS.tw {v : Value} (i : Nat) (hi : L[i]? = some o) (h : Pu P C ρ [] o v) {d' : Option Nat} (hk : SS P C L Q B R fuel (listed.setIfInBounds i true) (pt ρ d' v) H) (hok : canS L B listed i = true := by kernel_rfl) (hg : gd L ρ o = some true := by exact rfl) (hd : dk C.n o.dst = some d' := by exact rfl) (hQ : ∀ c ρ H, Q (.panic c) ρ H → False := by exact fun _ _ _ h => Fin.np h) : SS P C L Q B R (fuel + 1) listed ρ H :=
  SS.putW i hi hok hQ (fun a hf => .inl ⟨gd_wanted hf hg, fun w hr => h a w hf hr.1⟩) hd hk
theorem SS.sk {d' : Option Nat} (i : Nat) (hi : L[i]? = some o) (hk : SS P C L Q B R fuel (listed.setIfInBounds i true) (pt ρ d' undef) H) (hok : canS L B listed i = true := by kernel_rfl) (hg : gd L ρ o = some false := by exact rfl) (hd : dk C.n o.dst = some d' := by exact rfl) (hQ : ∀ c ρ H, Q (.panic c) ρ H → False := by exact fun _ _ _ h => Fin.np h) : SS P C L Q B R (fuel + 1) listed ρ H :=
  SS.putW i hi hok hQ (fun a hf => .inr ⟨gd_wanted hf hg, rfl⟩) hd hk
theorem SS.cs {p : Prop} [Decidable p] (i : Nat) (hi : L[i]? = some o) (h : Pu P C ρ [] o (.bool (decide p))) {d' : Option Nat} (ht : p → SS P C L Q B R fuel (listed.setIfInBounds i true) (pt ρ d' (.bool true)) H) (hf : ¬ p → SS P C L Q B R fuel (listed.setIfInBounds i true) (pt ρ d' (.bool false)) H) (hok : canS L B listed i = true := by kernel_rfl) (hg : gd L ρ o = some true := by exact rfl) (hd : dk C.n o.dst = some d' := by exact rfl) (hQ : ∀ c ρ H, Q (.panic c) ρ H → False := by exact fun _ _ _ h => Fin.np h) : SS P C L Q B R (fuel + 1) listed ρ H := by
  by_cases hp : p
  · exact SS.tw i hi (Pu.t h hp) (ht hp) hok hg hd hQ
  · exact SS.tw i hi (Pu.f h hp) (hf hp) hok hg hd hQ
theorem SS.bl {bb : Bool} (i : Nat) (hi : L[i]? = some o) (h : Pu P C ρ [] o (.bool bb)) {d' : Option Nat} (ht : bb = true → SS P C L Q B R fuel (listed.setIfInBounds i true) (pt ρ d' (.bool true)) H) (hf : bb = false → SS P C L Q B R fuel (listed.setIfInBounds i true) (pt ρ d' (.bool false)) H) (hok : canS L B listed i = true := by kernel_rfl) (hg : gd L ρ o = some true := by exact rfl) (hd : dk C.n o.dst = some d' := by exact rfl) (hQ : ∀ c ρ H, Q (.panic c) ρ H → False := by exact fun _ _ _ h => Fin.np h) : SS P C L Q B R (fuel + 1) listed ρ H := by
  cases bb
  · exact SS.tw i hi h (hf rfl) hok hg hd hQ
  · exact SS.tw i hi h (ht rfl) hok hg hd hQ
theorem SS.ls {t b j : Nat} {x : Operand} {lv : List Value} {T : TypeId} {v : Value} (i : Nat) (Ws : List Nat) (hi : L[i]? = some o) {d' : Option Nat} (hk : SS P C L Q B R' fuel (listed.setIfInBounds i true) (pt ρ d' v) H) (hok : canL L B listed i Ws = true := by kernel_rfl) (ho : o.op = .load t x := by exact rfl) (iT : ScalarTy P t := by infer_instance) (hx : ev ρ x = some (.pointer (some ⟨b, j, none⟩)) := by exact rfl) (hat : At H b (cl lv T) := by infer_instance) (hin : Ins R b (cl lv T) R' := by infer_instance) (hv : lv[j]? = some v := by first | exact rfl | assumption) (hg : gd L ρ o = some true := by exact rfl) (hd : dk C.n o.dst = some d' := by exact rfl) (hQ : ∀ c ρ H, Q (.panic c) ρ H → False := by exact fun _ _ _ h => Fin.np h) : SS P C L Q B R (fuel + 1) listed ρ H :=
  SS.putL i Ws hi hok hQ hin.ok.2.1 (fun x hx => (hin.ok.2.2 x hx).elim (fun e => .inr (e ▸ hat.mem)) .inl) (fun a hf => .inl ⟨gd_wanted hf hg, fun w hr => by
    have hb := hr.2 _ hin.ok.1
    unfold execOp; rw [ho]; simp [hf.eval hx, Instr.loadAt, Instr.sureAddr, run_load_s hb hv]⟩) hd hk
theorem SS.la {t n b j : Nat} {x : Operand} {lv r : List Value} {T : TypeId} (i : Nat) (Ws : List Nat) (hi : L[i]? = some o) {d' : Option Nat} (hk : SS P C L Q B R' fuel (listed.setIfInBounds i true) (pt ρ d' (.agg r.toArray)) H) (hok : canL L B listed i Ws = true := by kernel_rfl) (ho : o.op = .load t x := by exact rfl) (iT : RowTy P t n := by infer_instance) (hx : ev ρ x = some (.pointer (some ⟨b, j, none⟩)) := by exact rfl) (hat : At H b (cl lv T) := by infer_instance) (hin : Ins R b (cl lv T) R' := by infer_instance) (hv : (lv.drop j).take n = r := by first | assumption | exact rfl) (hn : r.length = n := by first | assumption | exact rfl) (hg : gd L ρ o = some true := by exact rfl) (hd : dk C.n o.dst = some d' := by exact rfl) (hQ : ∀ c ρ H, Q (.panic c) ρ H → False := by exact fun _ _ _ h => Fin.np h) : SS P C L Q B R (fuel + 1) listed ρ H :=
  SS.putL i Ws hi hok hQ hin.ok.2.1 (fun x hx => (hin.ok.2.2 x hx).elim (fun e => .inr (e ▸ hat.mem)) .inl) (fun a hf => .inl ⟨gd_wanted hf hg, fun w hr => by
    have hb := hr.2 _ hin.ok.1
    unfold execOp; rw [ho]; simp [hf.eval hx, Instr.loadAt, Instr.sureAddr, run_load_a hb hv hn]⟩) hd hk
theorem SS.lw {t n b : Nat} {x : Operand} {lv : List Value} {T : TypeId} (i : Nat) (Ws : List Nat) (hi : L[i]? = some o) {d' : Option Nat} (hk : SS P C L Q B R' fuel (listed.setIfInBounds i true) (pt ρ d' (.agg lv.toArray)) H) (hok : canL L B listed i Ws = true := by kernel_rfl) (ho : o.op = .load t x := by exact rfl) (iT : RowTy P t n := by infer_instance) (hx : ev ρ x = some (.pointer (some ⟨b, 0, none⟩)) := by exact rfl) (hat : At H b (cl lv T) := by infer_instance) (hin : Ins R b (cl lv T) R' := by infer_instance) (hn : lv.length = n := by first | assumption | exact rfl) (hg : gd L ρ o = some true := by exact rfl) (hd : dk C.n o.dst = some d' := by exact rfl) (hQ : ∀ c ρ H, Q (.panic c) ρ H → False := by exact fun _ _ _ h => Fin.np h) : SS P C L Q B R (fuel + 1) listed ρ H :=
  SS.la (r := lv) i Ws hi hk hok ho iT hx hat hin (by rw [List.drop_zero, List.take_of_length_le (by omega)]) hn hg hd hQ
end
end Go.Proofs.Ytcmjkihddpppaaa
