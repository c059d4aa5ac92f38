/- The walk's rules over frames and blocks as lists: control, regions, and the operations that only read. -/
import Derived.Test.YtcmjkihddpppaaaSl
import Derived.Deep.LoopGhost
set_option linter.unusedVariables false
set_option linter.unusedSimpArgs false
namespace Go.Proofs.Ytcmjkihddpppaaa
open Go

structure Ctx where
  n : Nat
  K : List Nat
  w0 : World

def lift (C : Ctx) (Q : Exit → Fr → Hp → Prop) : Exit → Act → World → Prop := fun e a w => ∃ ρ H, Fits C.n ρ a ∧ St C.K C.w0 H w ∧ Q e ρ H
def SW (P : Program) (C : Ctx) (c : Code) (Q : Exit → Fr → Hp → Prop) (ρ : Fr) (H : Hp) : Prop := ∀ a w, Fits C.n ρ a → St C.K C.w0 H w → c.wp P (lift C Q) a w
def SL (P : Program) (C : Ctx) (L : List Oper) (Q : Exit → Fr → Hp → Prop) (l : List Oper) (ρ : Fr) (H : Hp) : Prop :=
  ∀ a w, Fits C.n ρ a → St C.K C.w0 H w → wpList P L.toArray (lift C Q) l a w
def SQ (P : Program) (C : Ctx) (L : List Oper) (Q : Fr → Prop) (l : List Oper) (ρ : Fr) (H : Hp) : Prop :=
  ∀ a, Fits C.n ρ a → wpQuiet P L.toArray (fun w => St C.K C.w0 H w) (fun a' => ∃ ρ', Fits C.n ρ' a' ∧ Q ρ') l a
def SH (P : Program) (C : Ctx) (L : List Oper) (Q : Fr → Prop) (l : List Oper) (ρ : Fr) (H : Hp) : Prop :=
  ∀ a w, Fits C.n ρ a → St C.K C.w0 H w → wpStill P L.toArray w (fun a' => ∃ ρ', Fits C.n ρ' a' ∧ Q ρ') l a
/-- The operation yields this, and leaves all as it was. -/
def Pu (P : Program) (C : Ctx) (ρ : Fr) (H : Hp) (o : Oper) (v : Value) : Prop := ∀ a w, Fits C.n ρ a → St C.K C.w0 H w → (execOp a.eval o).run P w = .ok (.value v) w

def thn (K : Fr → Hp → Prop) (Q : Exit → Fr → Hp → Prop) : Exit → Fr → Hp → Prop
  | .normal, ρ, H => K ρ H
  | .exit id, ρ, H => Q (.exit id) ρ H
  | .goto l, ρ, H => Q (.goto l) ρ H
  | .ret, ρ, H => Q .ret ρ H
  | .panic c, ρ, H => Q (.panic c) ρ H
  | .outgrown, ρ, H => Q .outgrown ρ H
def blk (id : Nat) (Q : Exit → Fr → Hp → Prop) : Exit → Fr → Hp → Prop
  | .normal, ρ, H => Q .normal ρ H
  | .exit id', ρ, H => bif Nat.beq id' id then Q .normal ρ H else Q (.exit id') ρ H
  | .goto l, ρ, H => Q (.goto l) ρ H
  | .ret, ρ, H => Q .ret ρ H
  | .panic c, ρ, H => Q (.panic c) ρ H
  | .outgrown, ρ, H => Q .outgrown ρ H

section
variable {P : Program} {C : Ctx} {Q : Exit → Fr → Hp → Prop} {ρ : Fr} {H : Hp} {L l rest : List Oper} {o : Oper}

theorem beq_false_of_ne {a b : Nat} (h : a ≠ b) : Nat.beq a b = false := by
  cases hb : Nat.beq a b with
  | false => rfl
  | true => exact absurd (Nat.eq_of_beq_eq_true hb) h

theorem SW.seq {x y : Code} (h : SW P C x (thn (SW P C y Q) Q) ρ H) : SW P C (.seq x y) Q ρ H := fun a w hf hs =>
  wp_seq (wp_mono (h a w hf hs) fun e a w ⟨ρ, H, hf, hs, hq⟩ => by cases e <;> first | exact hq a w hf hs | exact ⟨ρ, H, hf, hs, hq⟩)
theorem SW.block {id : Nat} {c : Code} (h : SW P C c (blk id Q) ρ H) : SW P C (.block id c) Q ρ H := fun a w hf hs =>
  wp_block (wp_mono (h a w hf hs) fun e a w ⟨ρ, H, hf, hs, hq⟩ => by
    cases e with
    | exit id' =>
      simp only [Exit.inBlock]
      by_cases hid : id' = id
      · subst hid
        rw [if_pos rfl]
        have : Nat.beq id' id' = true := Nat.beq_refl id'
        simp only [blk, this, cond_true] at hq
        exact ⟨ρ, H, hf, hs, hq⟩
      · rw [if_neg hid]
        simp only [blk, beq_false_of_ne hid, cond_false] at hq
        exact ⟨ρ, H, hf, hs, hq⟩
    | _ => exact ⟨ρ, H, hf, hs, hq⟩)
theorem SW.skip (h : Q .normal ρ H) : SW P C .skip Q ρ H := fun _ _ hf hs => wp_skip ⟨ρ, H, hf, hs, h⟩
theorem SW.label {l : Nat} (h : Q .normal ρ H) : SW P C (.label l) Q ρ H := fun _ _ hf hs => wp_label ⟨ρ, H, hf, hs, h⟩
theorem SW.exit {id : Nat} (h : Q (.exit id) ρ H) : SW P C (.exit id) Q ρ H := fun _ _ hf hs => wp_exit ⟨ρ, H, hf, hs, h⟩
theorem SW.ret (h : Q .ret ρ H) : SW P C .ret Q ρ H := fun _ _ hf hs => wp_ret ⟨ρ, H, hf, hs, h⟩
theorem SW.cond_t {c : Operand} {x y : Code} (hc : ev ρ c = some (.bool true)) (h : SW P C x Q ρ H) : SW P C (.cond c x y) Q ρ H := fun a w hf hs => wp_cond_true (hf.eval hc) (h a w hf hs)
theorem SW.cond_f {c : Operand} {x y : Code} (hc : ev ρ c = some (.bool false)) (h : SW P C y Q ρ H) : SW P C (.cond c x y) Q ρ H := fun a w hf hs => wp_cond_false (hf.eval hc) (h a w hf hs)
theorem SW.cond_b {c : Operand} {x y : Code} {b : Bool} (hc : ev ρ c = some (.bool b)) (ht : b = true → SW P C x Q ρ H) (hf : b = false → SW P C y Q ρ H) : SW P C (.cond c x y) Q ρ H := fun a w hF hs =>
  wp_cond_split (hF.eval hc) (fun e => ht e a w hF hs) (fun e => hf e a w hF hs)
/-- Less is known of the frame, and of the blocks. -/
theorem SW.weaken {c : Code} {r : Fr} {Hc s : Hp} (hr : subF r ρ) (hp : Part H Hc s) (h : SW P C c Q r Hc) : SW P C c Q ρ H := fun a w hf hs => h a w (hf.sub hr) ((hs.perm hp.perm).drop)
theorem SW.mono {c : Code} {Q' : Exit → Fr → Hp → Prop} (h : SW P C c Q' ρ H) (hq : ∀ e ρ H, Q' e ρ H → Q e ρ H) : SW P C c Q ρ H := fun a w hf hs =>
  wp_mono (h a w hf hs) fun e _ _ ⟨ρ, H, hf, hs, h⟩ => ⟨ρ, H, hf, hs, hq e ρ H h⟩
/-- What a round hands on. -/
def Hand (I : Nat → Fr → Hp → Prop) (k : Nat) (ρ : Fr) (H : Hp) : Prop := ∃ k' ρ' Hc s, k' < k ∧ subF ρ' ρ ∧ H.Perm (Hc ++ s) ∧ I k' ρ' Hc
theorem Hand.mk {I : Nat → Fr → Hp → Prop} {k : Nat} (k' : Nat) {ρ' : Fr} {Hc s : Hp} (hk : k' < k) (hr : subF ρ' ρ) (hp : Part H Hc s) (h : I k' ρ' Hc) : Hand I k ρ H := ⟨k', ρ', Hc, s, hk, hr, hp.perm, h⟩
theorem SW.loop {c : Code} (I : Nat → Fr → Hp → Prop) (k0 : Nat) {r : Fr} {Hc s : Hp} (hr : subF r ρ) (hp : Part H Hc s) (h0 : I k0 r Hc)
    (round : ∀ k ρ H, I k ρ H → SW P C c (thn (Hand I k) Q) ρ H) : SW P C (.loop c) Q ρ H := fun a w hf hs =>
  wp_loop_ghost (fun k a w => ∃ ρ H, Fits C.n ρ a ∧ St C.K C.w0 H w ∧ I k ρ H) k0 ⟨r, Hc, hf.sub hr, (hs.perm hp.perm).drop, h0⟩ fun k a w ⟨ρ, H, hf, hs, hI⟩ =>
    wp_mono (round k ρ H hI a w hf hs) fun e a w ⟨ρ, H, hf, hs, hq⟩ => by
      cases e <;> first
        | exact ⟨ρ, H, hf, hs, hq⟩
        | exact (let ⟨k', ρ', Hc, s, hk, hr, hp, hI⟩ := hq; ⟨k', hk, ρ', Hc, hf.sub hr, (hs.perm hp).drop, hI⟩)

theorem SW.region {id : Nat} (h : SL P C l Q l ρ H) : SW P C (.region id l.toArray false) Q ρ H := fun a w hf hs => wp_region_lit (h a w hf hs)
theorem SW.regionQ {id : Nat} (hm : P.follows .mixedOrders = true) (hB : Region.lexB .any l.toArray = true) (h : SQ P C l (fun ρ' => Q .normal ρ' H) l ρ H) : SW P C (.region id l.toArray true) Q ρ H := fun a w hf hs =>
  wp_region_quiet (C := fun w => St C.K C.w0 H w) hm hB (hs.drawn _) (by
    have := h a hf
    have h2 : ∀ (l2 : List Oper) (a : Act) (Q1 Q2 : Act → Prop), (∀ a, Q1 a → Q2 a) → wpQuiet P l.toArray (fun w => St C.K C.w0 H w) Q1 l2 a → wpQuiet P l.toArray (fun w => St C.K C.w0 H w) Q2 l2 a := by
      intro l2
      induction l2 with
      | nil => intro a Q1 Q2 h12 h; exact h12 a h
      | cons x r ih =>
        intro a Q1 Q2 h12 h
        simp only [wpQuiet] at h ⊢
        split
        · rename_i hw; rw [if_pos hw] at h; exact Oper.quiet_mono (fun a => ih a Q1 Q2 h12) h
        · rename_i hw; rw [if_neg hw] at h; exact ih _ Q1 Q2 h12 h
    simpa using h2 l a _ _ (fun a' ⟨ρ', hf', hq⟩ w' hw' => ⟨ρ', H, hf', hw', hq⟩) this)
theorem SW.regionT {id : Nat} (n : Nat) (hm : P.follows .mixedOrders = true) (hB : Region.lexTailB .any l.toArray n = true) (h : SH P C l (fun ρ' => SL P C l Q (l.drop n) ρ' H) (l.take n) ρ H) :
    SW P C (.region id l.toArray true) Q ρ H := fun a w hf hs =>
  wp_region_still_tail n hm hB (by
    have := h a { w with drawn := w.drawn + 1 } hf (hs.drawn _)
    have h2 : ∀ (l2 : List Oper) (a : Act) (Q1 Q2 : Act → Prop), (∀ a, Q1 a → Q2 a) → wpStill P l.toArray { w with drawn := w.drawn + 1 } Q1 l2 a → wpStill P l.toArray { w with drawn := w.drawn + 1 } Q2 l2 a := by
      intro l2
      induction l2 with
      | nil => intro a Q1 Q2 h12 h; exact h12 a h
      | cons x r ih =>
        intro a Q1 Q2 h12 h
        simp only [wpStill] at h ⊢
        split
        · rename_i hw; rw [if_pos hw] at h; exact Oper.still_mono (fun a => ih a Q1 Q2 h12) h
        · rename_i hw; rw [if_neg hw] at h; exact ih _ Q1 Q2 h12 h
    exact h2 _ a _ _ (fun a' ⟨ρ', hf', hq⟩ => hq a' _ hf' (hs.drawn _)) this)

theorem SL.nil (h : Q .normal ρ H) : SL P C L Q [] ρ H := fun _ _ hf hs => ⟨ρ, H, hf, hs, h⟩
theorem SQ.nil {Q : Fr → Prop} (h : Q ρ) : SQ P C L Q [] ρ H := fun _ hf => ⟨ρ, hf, h⟩
theorem SH.nil {Q : Fr → Prop} (h : Q ρ) : SH P C L Q [] ρ H := fun _ _ hf _ => ⟨ρ, hf, h⟩

/-- What an operation's guard finds. -/
def gd (L : List Oper) (ρ : Fr) (o : Oper) : Option Bool :=
  match o.guard with
  | none => some true
  | some (j, want) =>
    match L[j]? with
    | some oj =>
      match oj.dst with
      | some d =>
        match lk ρ d with
        | some (.bool b) => some (bif want then b else !b)
        | some (.tuple _) => some false
        | _ => none
      | none => none
    | none => none

theorem gd_wanted {a : Act} (hf : Fits C.n ρ a) {b : Bool} (h : gd L ρ o = some b) : Region.wanted o (yielded L.toArray a.tmps) = b := by
  unfold gd at h
  unfold Region.wanted
  split at h
  · rename_i hg; rw [hg]; simpa using h
  · rename_i j want hg
    rw [hg]
    dsimp only
    split at h
    · rename_i oj hj
      split at h
      · rename_i d hd
        have hy : ((L.toArray[j]?).bind (·.dst)) = some d := by simp [hj, hd]
        split at h
        · rename_i b' hl
          have := hf.t _ _ hl
          simp only [yielded, hy, Option.bind_some, this]
          simp only [Option.some.injEq] at h
          subst h
          cases want <;> cases b' <;> rfl
        · rename_i cs hl
          have := hf.t _ _ hl
          simp only [yielded, hy, Option.bind_some, this]
          simpa using h
        · cases h
      · cases h
    · cases h

theorem SL.pu {v : Value} (h : Pu P C ρ H o v) (hg : gd L ρ o = some true) {d : Option Nat} (hd : dk C.n o.dst = some d) (hk : SL P C L Q rest (pt ρ d v) H) : SL P C L Q (o :: rest) ρ H := fun a w hf hs => by
  unfold wpList
  rw [if_pos (gd_wanted hf hg)]
  refine .inl ?_
  unfold Oper.wp
  rw [h a w hf hs, Oper.upon_value]
  exact hk _ _ (hf.put hd v) hs
theorem SQ.pu {Q : Fr → Prop} {v : Value} (h : Pu P C ρ H o v) (hg : gd L ρ o = some true) {d : Option Nat} (hd : dk C.n o.dst = some d) (hk : SQ P C L Q rest (pt ρ d v) H) : SQ P C L Q (o :: rest) ρ H := fun a hf => by
  unfold wpQuiet
  rw [if_pos (gd_wanted hf hg)]
  refine ⟨v, fun w hs => ?_, hk _ (hf.put hd v)⟩
  unfold Oper.quietAt
  rw [h a w hf hs]
  exact ⟨rfl, rfl⟩
theorem SH.pu {Q : Fr → Prop} {v : Value} (h : Pu P C ρ H o v) (hg : gd L ρ o = some true) {d : Option Nat} (hd : dk C.n o.dst = some d) (hk : SH P C L Q rest (pt ρ d v) H) : SH P C L Q (o :: rest) ρ H := fun a w hf hs => by
  unfold wpStill
  rw [if_pos (gd_wanted hf hg)]
  unfold Oper.still
  rw [h a w hf hs]
  exact ⟨rfl, hk _ w (hf.put hd v) hs⟩
theorem SL.sk (hg : gd L ρ o = some false) {d : Option Nat} (hd : dk C.n o.dst = some d) (hk : SL P C L Q rest (pt ρ d undef) H) : SL P C L Q (o :: rest) ρ H := fun a w hf hs => by
  unfold wpList
  rw [if_neg (by rw [gd_wanted hf hg]; decide)]
  exact hk _ _ (hf.put hd _) hs
theorem SQ.sk {Q : Fr → Prop} (hg : gd L ρ o = some false) {d : Option Nat} (hd : dk C.n o.dst = some d) (hk : SQ P C L Q rest (pt ρ d undef) H) : SQ P C L Q (o :: rest) ρ H := fun a hf => by
  unfold wpQuiet
  rw [if_neg (by rw [gd_wanted hf hg]; decide)]
  exact hk _ (hf.put hd _)
theorem SH.sk {Q : Fr → Prop} (hg : gd L ρ o = some false) {d : Option Nat} (hd : dk C.n o.dst = some d) (hk : SH P C L Q rest (pt ρ d undef) H) : SH P C L Q (o :: rest) ρ H := fun a w hf hs => by
  unfold wpStill
  rw [if_neg (by rw [gd_wanted hf hg]; decide)]
  exact hk _ w (hf.put hd _) hs
/-- A test: both ways. -/
theorem SL.cmp {p : Prop} [Decidable p] (h : Pu P C ρ H o (.bool (decide p))) (hg : gd L ρ o = some true) {d : Option Nat} (hd : dk C.n o.dst = some d) (ht : p → SL P C L Q rest (pt ρ d (.bool true)) H) (hf : ¬ p → SL P C L Q rest (pt ρ d (.bool false)) H) :
    SL P C L Q (o :: rest) ρ H := by
  by_cases hp : p
  · exact SL.pu (by rw [decide_eq_true hp] at h; exact h) hg hd (ht hp)
  · exact SL.pu (by rw [decide_eq_false hp] at h; exact h) hg hd (hf hp)
theorem SQ.cmp {Q : Fr → Prop} {p : Prop} [Decidable p] (h : Pu P C ρ H o (.bool (decide p))) (hg : gd L ρ o = some true) {d : Option Nat} (hd : dk C.n o.dst = some d) (ht : p → SQ P C L Q rest (pt ρ d (.bool true)) H) (hf : ¬ p → SQ P C L Q rest (pt ρ d (.bool false)) H) :
    SQ P C L Q (o :: rest) ρ H := by
  by_cases hp : p
  · exact SQ.pu (by rw [decide_eq_true hp] at h; exact h) hg hd (ht hp)
  · exact SQ.pu (by rw [decide_eq_false hp] at h; exact h) hg hd (hf hp)
theorem SL.bl {b : Bool} (h : Pu P C ρ H o (.bool b)) (hg : gd L ρ o = some true) {d : Option Nat} (hd : dk C.n o.dst = some d) (ht : b = true → SL P C L Q rest (pt ρ d (.bool true)) H) (hf : b = false → SL P C L Q rest (pt ρ d (.bool false)) H) :
    SL P C L Q (o :: rest) ρ H := by
  cases b
  · exact SL.pu h hg hd (hf rfl)
  · exact SL.pu h hg hd (ht rfl)
theorem SQ.bl {Q : Fr → Prop} {b : Bool} (h : Pu P C ρ H o (.bool b)) (hg : gd L ρ o = some true) {d : Option Nat} (hd : dk C.n o.dst = some d) (ht : b = true → SQ P C L Q rest (pt ρ d (.bool true)) H) (hf : b = false → SQ P C L Q rest (pt ρ d (.bool false)) H) :
    SQ P C L Q (o :: rest) ρ H := by
  cases b
  · exact SQ.pu h hg hd (hf rfl)
  · exact SQ.pu h hg hd (ht rfl)
end
end Go.Proofs.Ytcmjkihddpppaaa
