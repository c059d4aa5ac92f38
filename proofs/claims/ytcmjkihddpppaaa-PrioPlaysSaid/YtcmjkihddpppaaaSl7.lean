/- A region that draws its order: what only reads is taken first, the rest comes in whatever order. -/
import Derived.Test.YtcmjkihddpppaaaSl6
import Derived.OrdersHeld
set_option linter.unusedVariables false
set_option linter.unusedSimpArgs false
namespace Go.Proofs.Ytcmjkihddpppaaa
open Go

/-- Whatever order is picked: S holds behind each operation but the one that comes last of all. -/
def AnyT (P : Program) (ops : Array Oper) (Q : Exit → Act → World → Prop) (S : World → Prop) (t : Nat) : Nat → Array Bool → Act → World → Prop
  | 0, listed, a, w => Region.ready .any ops listed = [] ∧ Q .normal a w
  | f + 1, listed, a, w => (Region.ready .any ops listed = [] → Q .normal a w) ∧
    ∀ i ∈ Region.ready .any ops listed, wpOp P ops Q i (fun a' w' => (i = t ∨ S w') ∧ AnyT P ops Q S t f (listed.setIfInBounds i true) a' w') a w

theorem AnyT.any {P : Program} {ops : Array Oper} {Q : Exit → Act → World → Prop} {S : World → Prop} {t : Nat} : ∀ (f : Nat) (listed : Array Bool) (a : Act) (w : World), AnyT P ops Q S t f listed a w → wpAny P .any ops Q f listed a w
  | 0, _, _, _, h => h
  | f + 1, _, _, _, h => ⟨h.1, fun i hi => wpOp_mono (fun a' w' h' => AnyT.any f _ a' w' h'.2) (h.2 i hi)⟩

/-- Does the last one wait for this one? -/
def lastWaits (ops : Array Oper) (t i : Nat) : Bool :=
  match ops[t]? with
  | none => true
  | some o => o.after.any fun e => Region.binds .any e && Nat.beq e.on i

theorem not_last {ops : Array Oper} {listed : Array Bool} {t i : Nat} (hw : lastWaits ops t i = true) (hi : listed.getD i false = false) (hj : t ∈ Region.ready .any ops listed) : False := by
  obtain ⟨_, o, ho, hall⟩ := mem_ready.1 hj
  unfold lastWaits at hw
  rw [ho] at hw
  obtain ⟨e, he, hb⟩ := Array.any_eq_true'.1 hw
  simp only [Bool.and_eq_true] at hb
  have := hall e he hb.1
  rw [Nat.eq_of_beq_eq_true hb.2, hi] at this
  cases this

theorem AnyT.first {P : Program} {ops : Array Oper} {Q : Exit → Act → World → Prop} {S : World → Prop} {t i : Nat} {oi : Oper} {v : Value} (hi : ops[i]? = some oi) (hsel : ∀ (j : Nat) (o : Oper) cs b, ops[j]? = some o → o.op ≠ .select cs b)
    (hw : lastWaits ops t i = true) (hQ : ∀ c a w, Q (.panic c) (a.put oi.dst v) w → Q (.panic c) a w) :
    ∀ (f : Nat) (listed : Array Bool) (a : Act) (w : World),
      (∀ j oj, ops[j]? = some oj → j ≠ i → listed.getD j true = false → (∀ e ∈ oj.after, Region.binds .any e = true → e.on ≠ i) → oi.apart ops oj = true) →
      i ∈ Region.ready .any ops listed → YieldsIf P ops S oi v a → S w →
      AnyT P ops Q S t f (listed.setIfInBounds i true) (a.put oi.dst v) w → AnyT P ops Q S t (f + 1) listed a w := by
  intro f
  induction f with
  | zero =>
    intro listed a w _ hr hy hS h
    refine ⟨fun h0 => absurd hr (by rw [h0]; exact List.not_mem_nil), fun j hj => ?_⟩
    rcases Decidable.em (j = i) with rfl | hne
    · exact hy.wpOp hi hS ⟨.inr hS, h⟩
    · have := ready_mono hj hne
      rw [h.1] at this
      exact absurd this List.not_mem_nil
  | succ f ih =>
    intro listed a w hfree hr hy hS h
    have hui := (mem_ready.1 hr).1
    refine ⟨fun h0 => absurd hr (by rw [h0]; exact List.not_mem_nil), fun j hj => ?_⟩
    rcases Decidable.em (j = i) with rfl | hne
    · exact hy.wpOp hi hS ⟨.inr hS, h⟩
    · obtain ⟨huj, oj, hoj, hpre⟩ := mem_ready.1 hj
      have hif : listed.getD i false = false := getD_both hui
      have hjt : j ≠ t := fun e => not_last hw hif (e ▸ hj)
      have hno : ∀ e ∈ oj.after, Region.binds .any e = true → e.on ≠ i := fun e he hb heq => by
        have := hpre e he hb
        rw [heq, hif] at this
        cases this
      have h1 := wpOp_putIf hoj (hfree j oj hoj hne huj hno) (fun cs b => hsel i oi cs b hi) (fun cs b => hsel j oj cs b hoj) hQ hy (h.2 j (ready_mono hj hne))
      refine wpOp_mono (fun a' w' ⟨hy', hS', hrest⟩ => ?_) h1
      have hSw : S w' := hS'.resolve_left hjt
      refine ⟨.inr hSw, ih _ a' w' (fun k ok hk hki hun hn => hfree k ok hk hki ?_ hn) (ready_mono hr (Ne.symm hne)) hy' hSw (by rw [Array.setIfInBounds_comm _ _ hne]; exact hrest)⟩
      rcases Decidable.em (j = k) with rfl | hjk
      · exact huj
      · rwa [getD_set_ne true hjk] at hun

/-- 'R': the blocks that are read by what is taken first: they stay as they are till operation t, which comes last (no such: t is beyond the end). -/
def SA (P : Program) (C : Ctx) (L : List Oper) (Q : Exit → Fr → Hp → Prop) (R : Hp) (t : Nat) (fuel : Nat) (listed : Array Bool) (ρ : Fr) (H : Hp) : Prop :=
  ∀ a w, Fits C.n ρ a → St C.K C.w0 H w → St C.K C.w0 R w → AnyT P L.toArray (lift C Q) (fun w => St C.K C.w0 R w) t fuel listed a w

section
variable {P : Program} {C : Ctx} {Q : Exit → Fr → Hp → Prop} {ρ : Fr} {H H' : Hp} {L l rest : List Oper} {o : Oper} {R : Hp} {t fuel : Nat} {listed : Array Bool}

theorem SW.regionA {id : Nat} (R : Hp) (t : Nat) (hm : P.follows .mixedOrders = true) {r : Hp} [hp : Part H R r] (h : SA P C l Q R t l.length (Array.replicate l.length false) ρ H) : SW P C (.region id l.toArray true) Q ρ H := fun a w hf hs =>
  wp_region_any hm (AnyT.any (S := fun w => St C.K C.w0 R w) (t := t) _ _ _ _ (by
    have := h a _ hf (hs.drawn (w.drawn + 1)) ((hs.perm hp.perm).drop.drawn (w.drawn + 1))
    rw [List.size_toArray]
    exact this))

def canTake (L : List Oper) (t : Nat) (listed : Array Bool) (i : Nat) : Bool :=
  Region.noSelect L.toArray && Region.free .any L.toArray listed i && (Region.ready .any L.toArray listed).contains i && lastWaits L.toArray t i

theorem SA.put {v : Value} (i : Nat) (hi : L[i]? = some o) (hok : canTake L t listed i = true) (hQ : ∀ c ρ H, Q (.panic c) ρ H → False)
    (hy : ∀ a, Fits C.n ρ a → YieldsIf P L.toArray (fun w => St C.K C.w0 R w) o v a) {d : Option Nat} (hd : dk C.n o.dst = some d)
    (hk : SA P C L Q R t fuel (listed.setIfInBounds i true) (pt ρ d v) H) : SA P C L Q R t (fuel + 1) listed ρ H := fun a w hf hs hr => by
  simp only [canTake, Bool.and_eq_true] at hok
  obtain ⟨⟨⟨h1, h2⟩, h3⟩, h4⟩ := hok
  have hi' : L.toArray[i]? = some o := by simpa using hi
  exact AnyT.first hi' (Region.noSelect_spec h1) h4 (fun c a w ⟨ρ, H, _, _, h⟩ => (hQ c ρ H h).elim) fuel listed a w (Region.free_spec hi' h2) (by simpa using h3) (hy a hf) hr (hk _ w (hf.put hd v) hs hr)
theorem SA.take {v : Value} (i : Nat) (hi : L[i]? = some o) (hok : canTake L t listed i = true) (hQ : ∀ c ρ H, Q (.panic c) ρ H → False) (hg : gd L ρ o = some true) {d : Option Nat} (hd : dk C.n o.dst = some d) (h : Pu P C ρ R o v)
    (hk : SA P C L Q R t fuel (listed.setIfInBounds i true) (pt ρ d v) H) : SA P C L Q R t (fuel + 1) listed ρ H :=
  SA.put i hi hok hQ (fun a hf => .inl ⟨gd_wanted hf hg, fun w hr => h a w hf hr⟩) hd hk
theorem SA.skip (i : Nat) (hi : L[i]? = some o) (hok : canTake L t listed i = true) (hQ : ∀ c ρ H, Q (.panic c) ρ H → False) (hg : gd L ρ o = some false) {d : Option Nat} (hd : dk C.n o.dst = some d)
    (hk : SA P C L Q R t fuel (listed.setIfInBounds i true) (pt ρ d undef) H) : SA P C L Q R t (fuel + 1) listed ρ H :=
  SA.put i hi hok hQ (fun a hf => .inr ⟨gd_wanted hf hg, rfl⟩) hd hk
theorem SA.done (hr : (Region.ready .any L.toArray listed).isEmpty = true) (h : Q .normal ρ H) : SA P C L Q R t fuel listed ρ H := fun a w hf hs _ => by
  have hr' : Region.ready .any L.toArray listed = [] := by simpa using hr
  have hq : lift C Q .normal a w := ⟨ρ, H, hf, hs, h⟩
  cases fuel with
  | zero => exact ⟨hr', hq⟩
  | succ f => exact ⟨fun _ => hq, by rw [hr']; simp⟩

/-- One operation, and then whatever K says. -/
theorem wpOp_of_SL {i : Nat} (hi : L[i]? = some o) {K : Fr → Hp → Prop} {K' : Act → World → Prop} (h : SL P C L (thn K Q) [o] ρ H) {a : Act} {w : World} (hf : Fits C.n ρ a) (hs : St C.K C.w0 H w)
    (hk : ∀ ρ' H' a' w', K ρ' H' → Fits C.n ρ' a' → St C.K C.w0 H' w' → K' a' w') : wpOp P L.toArray (lift C Q) i K' a w := by
  have h1 := h a w hf hs
  unfold wpList at h1
  unfold wpOp
  have hi' : L.toArray[i]? = some o := by simpa using hi
  simp only [hi']
  have hnil : ∀ a w, wpList P L.toArray (lift C (thn K Q)) [] a w → K' a w := fun a w hq => by
    unfold wpList at hq
    obtain ⟨ρ', H', hf', hs', hq⟩ := hq
    exact hk ρ' H' a w hq hf' hs'
  split
  · rename_i hw
    rw [if_pos hw] at h1
    rcases h1 with h1 | ⟨hasks, a', w', ρ', H', hf', hs', hq⟩
    · refine .inl ?_
      unfold Oper.wp at h1 ⊢
      generalize (execOp a.eval o).run P w = r at h1 ⊢
      cases r with
      | ok n w' =>
        cases n <;> simp only [Oper.upon] at h1 ⊢
        case value u => exact hnil _ _ h1
        case skip => exact hnil _ _ h1
        case defer d => exact hnil _ _ h1
        case enter f args =>
          refine Calls.mono h1 fun e w'' he => ?_
          cases e with
          | returned u => exact hnil _ _ he
          | panicked c => obtain ⟨ρ', H', hf', hs', hq⟩ := he; exact ⟨ρ', H', hf', hs', hq⟩
          | outgrown => obtain ⟨a', w', ρ', H', hf', hs', hq⟩ := he; exact ⟨a', w', ρ', H', hf', hs', hq⟩
        case row row args => exact Rows.mono h1 fun u w'' he => hnil _ _ he
      | halt x w' =>
        cases x <;> simp only [Oper.upon] at h1 ⊢
        case panic u => obtain ⟨ρ', H', hf', hs', hq⟩ := h1; exact ⟨ρ', H', hf', hs', hq⟩
    · exact .inr ⟨hasks, a', w', ρ', H', hf', hs', hq⟩
  · rename_i hw
    rw [if_neg hw] at h1
    exact hnil _ _ h1

theorem AnyT.all {ops : Array Oper} {Q : Exit → Act → World → Prop} {S : World → Prop} {rs : List Nat} {a : Act} {w : World} (hr : Region.ready .any ops listed = rs) (hne : rs ≠ [])
    (h : ∀ i ∈ rs, wpOp P ops Q i (fun a' w' => (i = t ∨ S w') ∧ AnyT P ops Q S t fuel (listed.setIfInBounds i true) a' w') a w) : AnyT P ops Q S t (fuel + 1) listed a w :=
  ⟨fun h0 => absurd (hr ▸ h0) hne, hr ▸ h⟩

/-- Behind an operation that writes. -/
def Beh (P : Program) (C : Ctx) (L : List Oper) (Q : Exit → Fr → Hp → Prop) (R : Hp) (t fuel : Nat) (listed : Array Bool) (ρ' : Fr) (H' : Hp) : Prop := (∃ r, H'.Perm (R ++ r)) ∧ SA P C L Q R t fuel listed ρ' H'
theorem Beh.mk {r : Hp} [hp : Part H R r] (h : SA P C L Q R t fuel listed ρ H) : Beh P C L Q R t fuel listed ρ H := ⟨⟨r, hp.perm⟩, h⟩
/-- The one that may come up now. -/
theorem SA.one (i : Nat) (hi : L[i]? = some o) (hok : (Region.ready .any L.toArray listed == [i]) = true) (h : SL P C L (thn (Beh P C L Q R t fuel (listed.setIfInBounds i true)) Q) [o] ρ H) : SA P C L Q R t (fuel + 1) listed ρ H := fun a w hf hs hr =>
  AnyT.all (rs := [i]) (by simpa using hok) (by simp) fun j hj => by
    rw [List.mem_singleton.1 hj]
    exact wpOp_of_SL hi h hf hs fun ρ' H' a' w' ⟨⟨r, hp⟩, hsa⟩ hf' hs' => by
      have := (hs'.perm hp).drop
      exact ⟨.inr this, hsa a' w' hf' hs' this⟩
theorem SA.two (i j : Nat) {o2 : Oper} (hi : L[i]? = some o) (hj : L[j]? = some o2) (hok : (Region.ready .any L.toArray listed == [i, j]) = true)
    (h : SL P C L (thn (Beh P C L Q R t fuel (listed.setIfInBounds i true)) Q) [o] ρ H) (h2 : SL P C L (thn (Beh P C L Q R t fuel (listed.setIfInBounds j true)) Q) [o2] ρ H) : SA P C L Q R t (fuel + 1) listed ρ H := fun a w hf hs hr =>
  AnyT.all (rs := [i, j]) (by simpa using hok) (by simp) fun k hk => by
    rcases List.mem_cons.1 hk with rfl | hk
    · exact wpOp_of_SL hi h hf hs fun ρ' H' a' w' ⟨⟨r, hp⟩, hsa⟩ hf' hs' => by
        have := (hs'.perm hp).drop
        exact ⟨.inr this, hsa a' w' hf' hs' this⟩
    · rw [List.mem_singleton.1 hk]
      exact wpOp_of_SL hj h2 hf hs fun ρ' H' a' w' ⟨⟨r, hp⟩, hsa⟩ hf' hs' => by
        have := (hs'.perm hp).drop
        exact ⟨.inr this, hsa a' w' hf' hs' this⟩
/-- The last one: behind it nothing is left. -/
theorem SA.last (hi : L[t]? = some o) (hok : (Region.ready .any L.toArray listed == [t] && (Region.ready .any L.toArray (listed.setIfInBounds t true)).isEmpty) = true) (h : SL P C L Q [o] ρ H) : SA P C L Q R t (fuel + 1) listed ρ H := fun a w hf hs hr => by
  simp only [Bool.and_eq_true] at hok
  refine AnyT.all (rs := [t]) (by simpa using hok.1) (by simp) fun j hj => ?_
  rw [List.mem_singleton.1 hj]
  have h' : SL P C L (thn (fun ρ' H' => Q .normal ρ' H') Q) [o] ρ H := fun a w hf hs => by
    have := h a w hf hs
    have e : lift C (thn (fun ρ' H' => Q .normal ρ' H') Q) = lift C Q := by
      funext e a w; unfold lift; cases e <;> rfl
    rw [e]; exact this
  have hr2 : Region.ready .any L.toArray (listed.setIfInBounds t true) = [] := by simpa using hok.2
  refine wpOp_of_SL hi h' hf hs fun ρ' H' a' w' hq hf' hs' => ⟨.inl rfl, ?_⟩
  cases fuel with
  | zero => exact ⟨hr2, ρ', H', hf', hs', hq⟩
  | succ f => exact ⟨fun _ => ⟨ρ', H', hf', hs', hq⟩, by rw [hr2]; simp⟩
end
end Go.Proofs.Ytcmjkihddpppaaa
