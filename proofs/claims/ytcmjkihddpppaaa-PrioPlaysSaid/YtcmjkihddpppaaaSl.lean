/- A small separation logic over the kit's walk rules: frames are association lists, the blocks that a call owns are a list; each operation has one lemma, and a proof steps by 'refine'. It speaks of no program. -/
import Derived.WalkKit
import Derived.WalkSpells
import Derived.WalkLawsBesides
import Derived.StillTail
import Derived.Deep.Quiet
import Derived.Deep.MidRow
import Derived.Laws.CopyRow
set_option linter.unusedVariables false
set_option linter.unusedSimpArgs false
namespace Go.Proofs.Ytcmjkihddpppaaa
open Go

abbrev Fr := List (Nat × Value)
abbrev Hp := List (Nat × Obj)
/-- A block of cells that may be written. -/
abbrev cl (l : List Value) (T : TypeId) : Obj := .cells l.toArray T (0, 0)

def lk : Fr → Nat → Option Value
  | [], _ => none
  | (k, v) :: r, t => bif Nat.beq k t then some v else lk r t

def ev (ρ : Fr) : Operand → Option Value
  | .tmp t => lk ρ t
  | .const v => some v
  | .global g => some (.pointer (some ⟨g, 0, none⟩))
  | .func f => some (.func (.func f) #[] #[])

def evs (ρ : Fr) : List Operand → Option (List Value)
  | [] => some []
  | x :: r => match ev ρ x, evs ρ r with
    | some v, some vs => some (v :: vs)
    | _, _ => none

def pt (ρ : Fr) (d : Option Nat) (v : Value) : Fr := match d with | some d => (d, v) :: ρ | none => ρ

/-- The slot that is written, if the frame has it. -/
def dk (n : Nat) (x : Option Nat) : Option (Option Nat) :=
  match x with
  | none => some none
  | some k => bif Nat.blt k n then some (some k) else none

/-- What is known of a frame. -/
structure Fits (n : Nat) (ρ : Fr) (a : Act) : Prop where
  d : a.defers = []
  s : a.tmps.size = n
  t : ∀ t v, lk ρ t = some v → a.tmps[t]? = some v

theorem lk_cons (k : Nat) (v : Value) (r : Fr) (t : Nat) : lk ((k, v) :: r) t = if k = t then some v else lk r t := by
  by_cases h : k = t
  · subst h; simp [lk]
  · have : Nat.beq k t = false := by
      cases hb : Nat.beq k t with
      | false => rfl
      | true => exact absurd (Nat.eq_of_beq_eq_true hb) h
    simp [lk, this, h]

theorem Fits.eval {n : Nat} {ρ : Fr} {a : Act} (h : Fits n ρ a) {x : Operand} {v : Value} (hx : ev ρ x = some v) : a.eval x = v := by
  cases x with
  | tmp t => simp only [ev] at hx; have := h.t t v hx; simp [Act.eval, Array.getD_eq_getD_getElem?, this]
  | const u => simp only [ev, Option.some.injEq] at hx; simp [Act.eval, hx]
  | global g => simp only [ev, Option.some.injEq] at hx; simp [Act.eval, hx]
  | func f => simp only [ev, Option.some.injEq] at hx; simp [Act.eval, hx]

theorem Fits.evals {n : Nat} {ρ : Fr} {a : Act} (h : Fits n ρ a) : ∀ {xs : List Operand} {vs : List Value}, evs ρ xs = some vs → xs.map a.eval = vs
  | [], vs, hx => by simp [evs] at hx; simp [hx]
  | x :: r, vs, hx => by
    simp only [evs] at hx
    cases h1 : ev ρ x with
    | none => simp [h1] at hx
    | some v =>
      cases h2 : evs ρ r with
      | none => simp [h1, h2] at hx
      | some us =>
        simp [h1, h2] at hx
        subst hx
        simp [h.eval h1, Fits.evals h h2]

theorem Fits.put {n : Nat} {ρ : Fr} {a : Act} (h : Fits n ρ a) {x d : Option Nat} (hd : dk n x = some d) (v : Value) : Fits n (pt ρ d v) (a.put x v) := by
  cases x with
  | none => simp only [dk, Option.some.injEq] at hd; subst hd; exact h
  | some k =>
    cases hb : Nat.blt k n with
    | false => simp [dk, hb] at hd
    | true =>
      simp only [dk, hb, cond_true, Option.some.injEq] at hd
      subst hd
      have hdn : k < n := Nat.le_of_ble_eq_true hb
      refine ⟨h.d, by simp [Act.put, h.s], fun t u hu => ?_⟩
      simp only [pt, lk_cons] at hu
      simp only [Act.put, Array.getElem?_setIfInBounds]
      by_cases hk : k = t
      · subst hk
        simp only [if_true] at hu ⊢
        rw [if_pos (by rw [h.s]; exact hdn)]
        exact hu
      · simp only [hk, if_false] at hu ⊢
        exact h.t t u hu

/-- Less is known. -/
def subF : Fr → Fr → Prop
  | [], _ => True
  | (t, v) :: r, ρ => lk ρ t = some v ∧ subF r ρ

theorem subF.lk {ρ : Fr} : ∀ {r : Fr} (_ : subF r ρ) {t : Nat} {v : Value}, lk r t = some v → lk ρ t = some v
  | [], _, t, v, h => by simp [Proofs.Ytcmjkihddpppaaa.lk] at h
  | (k, u) :: r, hs, t, v, h => by
    rw [lk_cons] at h
    by_cases hk : k = t
    · subst hk; simp at h; subst h; exact hs.1
    · simp [hk] at h; exact subF.lk hs.2 h

theorem Fits.sub {n : Nat} {ρ r : Fr} {a : Act} (h : Fits n ρ a) (hs : subF r ρ) : Fits n r a := ⟨h.d, h.s, fun t v hv => h.t t v (hs.lk hv)⟩

/-! ### Worlds -/
structure St (K : List Nat) (w0 : World) (H : Hp) (w : World) : Prop where
  own : ∀ b o, (b, o) ∈ H → w.heap[b]? = some o
  nodup : (H.map Prod.fst).Nodup
  fresh : ∀ b o, (b, o) ∈ H → b ∈ K ∨ w0.heap.size ≤ b
  os : w.os = w0.os
  tape : w.tape = w0.tape
  out : w.output = w0.output
  size : w0.heap.size ≤ w.heap.size
  keep : ∀ b, b < w0.heap.size → b ∉ K → w.heap[b]? = w0.heap[b]?

/-- An object that nobody froze. -/
def softO : Obj → Bool
  | .cells _ _ (_, hi) => Nat.beq hi 0
  | _ => true
theorem frozen_at {w : World} {a : Addr} {o : Obj} (h : w.heap[a.block]? = some o) (hs : softO o = true) : w.frozen? a = false := by
  unfold World.frozen?
  rw [h]
  cases o with
  | cells cs t fz =>
    obtain ⟨lo, hi⟩ := fz
    have : hi = 0 := Nat.eq_of_beq_eq_true hs
    subst this
    simp
  | _ => rfl
theorem frozen_eq {w w' : World} {a : Addr} (h : w'.heap[a.block]? = w.heap[a.block]?) : w'.frozen? a = w.frozen? a := by
  unfold World.frozen?; rw [h]
theorem frozen_none {w : World} {a : Addr} (h : w.heap[a.block]? = none) : w.frozen? a = false := by
  unfold World.frozen?; rw [h]

/-- What a call is handed: it owns these blocks. -/
structure Own (H : Hp) (w : World) : Prop where
  own : ∀ b o, (b, o) ∈ H → w.heap[b]? = some o
  nodup : (H.map Prod.fst).Nodup

theorem Own.nil (w : World) : Own [] w := ⟨by simp, by simp⟩

theorem St.start {H : Hp} {w : World} (h : Own H w) : St (H.map Prod.fst) w H w :=
  ⟨h.own, h.nodup, fun b o hb => .inl (List.mem_map.2 ⟨(b, o), hb, rfl⟩), rfl, rfl, rfl, Nat.le_refl _, fun _ _ _ => rfl⟩

theorem St.toOwn {K : List Nat} {w0 : World} {H : Hp} {w : World} (h : St K w0 H w) : Own H w := ⟨h.own, h.nodup⟩

section
variable {K : List Nat} {w0 w : World} {H : Hp}

theorem St.lt (h : St K w0 H w) {b : Nat} {o : Obj} (hb : (b, o) ∈ H) : b < w.heap.size := (Array.getElem?_eq_some_iff.1 (h.own b o hb)).1

theorem St.drew (h : St K w0 H w) : St K w0 H w.drew := ⟨h.own, h.nodup, h.fresh, h.os, h.tape, h.out, h.size, h.keep⟩
theorem St.drawn (h : St K w0 H w) (n : Nat) : St K w0 H { w with drawn := n } := ⟨h.own, h.nodup, h.fresh, h.os, h.tape, h.out, h.size, h.keep⟩

theorem heapAlloc (w : World) (o : Obj) (i : Nat) : (w.alloc o).heap[i]? = if i = w.heap.size then some o else w.heap[i]? := by
  show (w.heap.push o)[i]? = _
  rw [Array.getElem?_push]

theorem St.alloc (h : St K w0 H w) (o : Obj) : St K w0 ((w.heap.size, o) :: H) (w.alloc o) := by
  refine ⟨fun b o' hb => ?_, ?_, fun b o' hb => ?_, h.os, h.tape, h.out, by simp; exact Nat.le_succ_of_le h.size, fun b hb hk => ?_⟩
  · rcases List.mem_cons.1 hb with e | hb
    · cases e; rw [heapAlloc]; simp
    · have := h.lt hb
      rw [heapAlloc, if_neg (by omega)]
      exact h.own b o' hb
  · simp only [List.map_cons, List.nodup_cons]
    refine ⟨fun hm => ?_, h.nodup⟩
    obtain ⟨⟨b, o'⟩, hb, e⟩ := List.mem_map.1 hm
    have := h.lt hb
    simp at e
    omega
  · rcases List.mem_cons.1 hb with e | hb
    · cases e; exact .inr h.size
    · exact h.fresh b o' hb
  · have := h.size
    rw [heapAlloc, if_neg (by omega)]
    exact h.keep b hb hk

/-- Block 'b' is there with 'o'; 'H'' is 'H' with 'o'' in its place. -/
class At (H : Hp) (b : Nat) (o : outParam Obj) : Prop where
  mem : (b, o) ∈ H
instance At.head (b : Nat) (o : Obj) (r : Hp) : At ((b, o) :: r) b o := ⟨by simp⟩
instance At.tail (x : Nat × Obj) (r : Hp) (b : Nat) (o : Obj) [h : At r b o] : At (x :: r) b o := ⟨List.mem_cons_of_mem _ h.mem⟩
class Upd (H : Hp) (b : Nat) (o' : Obj) (H' : outParam Hp) : Prop where
  split : ∃ l o r, H = l ++ (b, o) :: r ∧ H' = l ++ (b, o') :: r
instance Upd.head (b : Nat) (o o' : Obj) (r : Hp) : Upd ((b, o) :: r) b o' ((b, o') :: r) := ⟨[], o, r, rfl, rfl⟩
instance Upd.tail (x : Nat × Obj) (r r' : Hp) (b : Nat) (o' : Obj) [h : Upd r b o' r'] : Upd (x :: r) b o' (x :: r') :=
  ⟨let ⟨l, o, s, e1, e2⟩ := h.split; ⟨x :: l, o, s, by rw [e1]; rfl, by rw [e2]; rfl⟩⟩
/-- Block 'b' is there with 'o'; the others are 'r'. -/
class Out (H : Hp) (b : Nat) (o : outParam Obj) (r : outParam Hp) : Prop where
  perm : H.Perm ((b, o) :: r)
instance Out.head (b : Nat) (o : Obj) (r : Hp) : Out ((b, o) :: r) b o r := ⟨.refl _⟩
instance Out.tail (x : Nat × Obj) (r r' : Hp) (b : Nat) (o : Obj) [h : Out r b o r'] : Out (x :: r) b o (x :: r') := ⟨(h.perm.cons x).trans (.swap _ _ _)⟩
/-- 'Hc' is part of 'H'; the others are 'r'. (Of 'Hc' the blocks' numbers decide.) -/
class Part (H : Hp) (Hc : Hp) (r : outParam Hp) : Prop where
  perm : H.Perm (Hc ++ r)
instance Part.nil (H : Hp) : Part H [] H := ⟨.refl _⟩
instance (priority := 1200) Part.cons (H : Hp) (b : Nat) (o : Obj) (Hc r r' : Hp) [h1 : Out H b o r] [h2 : Part r Hc r'] : Part H ((b, o) :: Hc) r' := ⟨h1.perm.trans (h2.perm.cons _)⟩

theorem St.perm (h : St K w0 H w) {H' : Hp} (hp : H.Perm H') : St K w0 H' w :=
  ⟨fun b o hb => h.own b o (hp.mem_iff.2 hb), (hp.map _).nodup_iff.1 h.nodup, fun b o hb => h.fresh b o (hp.mem_iff.2 hb), h.os, h.tape, h.out, h.size, h.keep⟩

theorem St.drop {Hc r : Hp} (h : St K w0 (Hc ++ r) w) : St K w0 Hc w :=
  ⟨fun b o hb => h.own b o (List.mem_append_left _ hb), (by have := h.nodup; rw [List.map_append] at this; exact (List.nodup_append.1 this).1), fun b o hb => h.fresh b o (List.mem_append_left _ hb), h.os, h.tape, h.out, h.size, h.keep⟩

theorem St.part (h : St K w0 H w) {Hc r : Hp} [hp : Part H Hc r] : St K w0 Hc w := (h.perm hp.perm).drop

theorem St.set (h : St K w0 H w) {b : Nat} {o' : Obj} {H' : Hp} [hu : Upd H b o' H'] {w' : World} (hs : w'.heap.size = w.heap.size) (hb : w'.heap[b]? = some o') (ho : ∀ k, k ≠ b → w'.heap[k]? = w.heap[k]?)
    (hos : w'.os = w.os) (htp : w'.tape = w.tape) (hot : w'.output = w.output) : St K w0 H' w' := by
  obtain ⟨l, o, r, e1, e2⟩ := hu.split
  subst e1 e2
  have hn := h.nodup
  simp only [List.map_append, List.map_cons] at hn
  refine ⟨fun k o2 hk => ?_, by simpa using hn, fun k o2 hk => ?_, hos.trans h.os, htp.trans h.tape, hot.trans h.out, by rw [hs]; exact h.size, fun k hk hK => ?_⟩
  · by_cases e : k = b
    · subst e
      rw [hb]
      rcases List.mem_append.1 hk with hk | hk
      · exfalso
        have h1 : k ∈ l.map Prod.fst := List.mem_map.2 ⟨_, hk, rfl⟩
        exact (List.nodup_append.1 hn).2.2 k h1 k (by simp) rfl
      · rcases List.mem_cons.1 hk with hk | hk
        · cases hk; rfl
        · exfalso
          have h1 : k ∈ r.map Prod.fst := List.mem_map.2 ⟨_, hk, rfl⟩
          have := (List.nodup_append.1 hn).2.1
          simp only [List.nodup_cons] at this
          exact this.1 h1
    · rw [ho k e]
      refine h.own k o2 ?_
      rcases List.mem_append.1 hk with hk | hk
      · exact List.mem_append_left _ hk
      · rcases List.mem_cons.1 hk with hk | hk
        · cases hk; exact absurd rfl e
        · exact List.mem_append_right _ (List.mem_cons_of_mem _ hk)
  · rcases List.mem_append.1 hk with hk | hk
    · exact h.fresh k o2 (List.mem_append_left _ hk)
    · rcases List.mem_cons.1 hk with hk | hk
      · cases hk; exact h.fresh b o (by simp)
      · exact h.fresh k o2 (List.mem_append_right _ (List.mem_cons_of_mem _ hk))
  · by_cases e : k = b
    · subst e
      rcases h.fresh k o (by simp) with h1 | h1
      · exact absurd h1 hK
      · omega
    · rw [ho k e]; exact h.keep k hk hK

/-- A call that owned 'Hc' has ended: the others are as they were. -/
theorem St.comp {Hc Hf H' : Hp} {w' : World} (h : St K w0 (Hc ++ Hf) w) (hc : St (Hc.map Prod.fst) w H' w') : St K w0 (H' ++ Hf) w' := by
  have hn := h.nodup
  rw [List.map_append] at hn
  obtain ⟨n1, n2, n3⟩ := List.nodup_append.1 hn
  have hlt : ∀ b o, (b, o) ∈ Hf → b < w.heap.size := fun b o hb => h.lt (List.mem_append_right _ hb)
  have hap : ∀ b o, (b, o) ∈ Hf → b ∉ Hc.map Prod.fst := fun b o hb hm => n3 b hm b (List.mem_map.2 ⟨_, hb, rfl⟩) rfl
  refine ⟨fun b o hb => ?_, ?_, fun b o hb => ?_, hc.os.trans h.os, hc.tape.trans h.tape, hc.out.trans h.out, Nat.le_trans h.size hc.size, fun b hb hK => ?_⟩
  · rcases List.mem_append.1 hb with hb | hb
    · exact hc.own b o hb
    · rw [hc.keep b (hlt b o hb) (hap b o hb)]; exact h.own b o (List.mem_append_right _ hb)
  · rw [List.map_append]
    refine List.nodup_append.2 ⟨hc.nodup, n2, fun a ha b hb e => ?_⟩
    subst e
    obtain ⟨⟨x, o⟩, hx, rfl⟩ := List.mem_map.1 ha
    obtain ⟨⟨y, o2⟩, hy, hxy⟩ := List.mem_map.1 hb
    simp only at hxy
    subst hxy
    rcases hc.fresh y o hx with h1 | h1
    · exact hap y o2 hy h1
    · have := hlt y o2 hy; omega
  · rcases List.mem_append.1 hb with hb | hb
    · rcases hc.fresh b o hb with h1 | h1
      · obtain ⟨⟨x, o2⟩, hx, rfl⟩ := List.mem_map.1 h1
        exact h.fresh x o2 (List.mem_append_left _ hx)
      · exact .inr (Nat.le_trans h.size h1)
    · exact h.fresh b o (List.mem_append_right _ hb)
  · have : b ∉ Hc.map Prod.fst := fun hm => by
      obtain ⟨⟨x, o⟩, hx, rfl⟩ := List.mem_map.1 hm
      rcases h.fresh x o (List.mem_append_left _ hx) with h1 | h1
      · exact hK h1
      · omega
    rw [hc.keep b (Nat.lt_of_lt_of_le hb h.size) this]
    exact h.keep b hb hK

theorem St.ro (h : St K w0 H w) {b : Nat} {o : Obj} (hb : w0.heap[b]? = some o) (hk : b ∉ K) : w.heap[b]? = some o := by
  rw [h.keep b (Array.getElem?_eq_some_iff.1 hb).1 hk]; exact hb
theorem St.at (h : St K w0 H w) {b : Nat} {o : Obj} [ha : At H b o] : w.heap[b]? = some o := h.own b o ha.mem
end

end Go.Proofs.Ytcmjkihddpppaaa
