/- How many texts are kept. -/
import Derived.Test.YtpdokachnmlhlaaC4
set_option linter.unusedVariables false
set_option linter.unusedSimpArgs false
namespace Go.Proofs.Ytpdokachnmlhlaa
open Go
attribute [local irreducible] SW SL SQ SH SA SS Pu Fin CutF HandF

/-- Is there an unlike one of one sum? -/
def unl (t k : List UInt8) : Bool := decide (k ≠ t) && decide (Sha.sum k = Sha.sum t)
/-- The document's list: each text once; was there a clash? -/
def kstep (s : List (List UInt8) × Bool) (t : List UInt8) : List (List UInt8) × Bool := (if s.1.any (fun k => decide (k = t)) then s.1 else s.1 ++ [t], s.2 || s.1.any (unl t))
def Bk.of (ts : List (List UInt8)) : Bk := ts.foldl Bk.add Bk.new
theorem Bk.of_app (ts : List (List UInt8)) (t : List UInt8) : Bk.of (ts ++ [t]) = (Bk.of ts).add t := by simp [Bk.of]
def kof (ts : List (List UInt8)) : List (List UInt8) × Bool := ts.foldl kstep ([], false)
theorem kof_app (ts : List (List UInt8)) (t : List UInt8) : kof (ts ++ [t]) = kstep (kof ts) t := by simp [kof]
theorem Bk.add_len (s : Bk) (t : List UInt8) : (s.add t).kept.length ≤ s.kept.length + 1 := by
  unfold Bk.add
  split
  · split <;> simp
  · split <;> simp
/-- The book and the document agree. -/
theorem agree : ∀ (n : Nat) (ts : List (List UInt8)), ts.length = n → n ≤ 12 → (Bk.of ts).kept.length ≤ n ∧ (kof ts).2 = (Bk.of ts).clash.isSome ∧ ((kof ts).2 = false → (kof ts).1 = (Bk.of ts).kept ∧ ∀ x ∈ (Bk.of ts).kept, ∀ y ∈ (Bk.of ts).kept, Sha.sum x = Sha.sum y → x = y)
  | 0, ts, hl, _ => by
    have : ts = [] := List.eq_nil_of_length_eq_zero hl
    subst this
    exact ⟨by simp [Bk.of, Bk.new], rfl, fun _ => ⟨rfl, by simp [Bk.of, Bk.new]⟩⟩
  | n + 1, ts, hl, hn => by
    obtain ⟨ts, t, rfl⟩ : ∃ l a, ts = l ++ [a] := ⟨ts.dropLast, ts.getLast (by intro h; simp [h] at hl), (List.dropLast_concat_getLast _).symm⟩
    rw [List.length_append, List.length_singleton] at hl
    obtain ⟨h0, h1, h2⟩ := agree n ts (by omega) (by omega)
    rw [Bk.of_app, kof_app]
    generalize Bk.of ts = s at h0 h1 h2 ⊢
    generalize kof ts = p at h1 h2 ⊢
    obtain ⟨K, c⟩ := p
    have hlen := s.add_len t
    refine ⟨by omega, ?_⟩
    dsimp only at h1 h2
    cases c with
    | true =>
      have hc : (s.add t).clash.isSome = true := by
        cases hcl : s.clash with
        | none => rw [hcl] at h1; simp at h1
        | some q =>
          unfold Bk.add
          split
          · split <;> simp [hcl]
          · split <;> simp [hcl]
      exact ⟨by rw [hc]; simp [kstep], fun h => by simp [kstep] at h⟩
    | false =>
      obtain ⟨rfl, hd⟩ := h2 rfl
      have hcl : s.clash = none := by cases h : s.clash with
        | none => rfl
        | some q => rw [h] at h1; simp at h1
      cases hf : s.kept.find? fun k => decide (Sha.sum t = Sha.sum k) with
      | none =>
        have hno : ∀ k ∈ s.kept, Sha.sum t ≠ Sha.sum k := fun k hk => by
          have := List.find?_eq_none.1 hf k hk
          simpa using this
        have ha : s.add t = { s with kept := s.kept ++ [t] } := by
          unfold Bk.add; rw [hf]; dsimp only; rw [if_pos (by omega)]
        have e1 : (s.kept.any fun k => decide (k = t)) = false := by
          rw [List.any_eq_false]
          intro k hk
          simp only [decide_eq_true_eq]
          intro e
          exact hno k hk (by rw [e])
        have e2 : s.kept.any (unl t) = false := by
          rw [List.any_eq_false]
          intro k hk
          simp only [unl, Bool.and_eq_true, decide_eq_true_eq]
          intro e
          exact hno k hk e.2.symm
        rw [ha]
        refine ⟨by simp [kstep, e2, hcl], fun _ => ⟨by simp [kstep, e1], ?_⟩⟩
        intro x hx y hy hxy
        rcases List.mem_append.1 hx with h3 | h3 <;> rcases List.mem_append.1 hy with h4 | h4
        · exact hd x h3 y h4 hxy
        · rw [List.mem_singleton] at h4; rw [h4] at hxy; exact absurd hxy.symm (hno x h3)
        · rw [List.mem_singleton] at h3; rw [h3] at hxy; exact absurd hxy (hno y h4)
        · rw [List.mem_singleton] at h3 h4; rw [h3, h4]
      | some old =>
        have hm := List.mem_of_find?_eq_some hf
        have hs := List.find?_some hf
        simp only [decide_eq_true_eq] at hs
        by_cases ho : old = t
        · subst ho
          have ha : s.add old = s := by
            unfold Bk.add; rw [hf]; dsimp only; rw [if_neg (by simp)]
          have e1 : (s.kept.any fun k => decide (k = old)) = true := by
            rw [List.any_eq_true]; exact ⟨old, hm, by simp⟩
          have e2 : s.kept.any (unl old) = false := by
            rw [List.any_eq_false]
            intro k hk
            simp only [unl, Bool.and_eq_true, decide_eq_true_eq]
            intro e
            exact e.1 (hd k hk old hm e.2)
          rw [ha]
          exact ⟨by simp [kstep, e2, hcl], fun _ => ⟨by simp [kstep, e1], hd⟩⟩
        · have ha : s.add t = { s with clash := some (old, t) } := by
            unfold Bk.add; rw [hf]; dsimp only; rw [if_pos ⟨ho, hcl⟩]
          have e2 : s.kept.any (unl t) = true := by
            rw [List.any_eq_true]; exact ⟨old, hm, by simp [unl, ho, hs.symm]⟩
          rw [ha]
          exact ⟨by simp [kstep, e2], fun h => by simp [kstep, e2] at h⟩
section
variable {P : Program} {C : Ctx} {Q : Exit → Fr → Hp → Prop} {ρ : Fr} {H : Hp} {L rest : List Oper} {d : Option Tmp} {ty : TypeId} {pos : String} {af : Array Edge} {g : Option (Nat × Bool)} {t t' len : Nat} {d' : Option Nat} {x y : Operand} {a b : List UInt8} {o : Oper}
theorem W.esT (hk : SL P C L Q rest (pt ρ d' (.bool true)) H) (h : a = b) (hx : ev ρ x = some (.string (strV a)) := by exact rfl) (hy : ev ρ y = some (.string (strV b)) := by exact rfl) (hg : gd L ρ ⟨d, .binOp .eql t x y t', ty, pos, af, g⟩ = some true := by exact rfl) (hd : dk C.n d = some d' := by exact rfl) : SL P C L Q (⟨d, .binOp .eql t x y t', ty, pos, af, g⟩ :: rest) ρ H :=
  W.est (by rw [strV_eq, decide_eq_true h]; exact hk) hx hy hg hd
theorem W.esF (hk : SL P C L Q rest (pt ρ d' (.bool false)) H) (h : ¬ a = b) (hx : ev ρ x = some (.string (strV a)) := by exact rfl) (hy : ev ρ y = some (.string (strV b)) := by exact rfl) (hg : gd L ρ ⟨d, .binOp .eql t x y t', ty, pos, af, g⟩ = some true := by exact rfl) (hd : dk C.n d = some d' := by exact rfl) : SL P C L Q (⟨d, .binOp .eql t x y t', ty, pos, af, g⟩ :: rest) ρ H :=
  W.est (by rw [strV_eq, decide_eq_false h]; exact hk) hx hy hg hd
theorem W.nsT (hk : SL P C L Q rest (pt ρ d' (.bool true)) H) (h : ¬ a = b) (hx : ev ρ x = some (.string (strV a)) := by exact rfl) (hy : ev ρ y = some (.string (strV b)) := by exact rfl) (hg : gd L ρ ⟨d, .binOp .neq t x y t', ty, pos, af, g⟩ = some true := by exact rfl) (hd : dk C.n d = some d' := by exact rfl) : SL P C L Q (⟨d, .binOp .neq t x y t', ty, pos, af, g⟩ :: rest) ρ H :=
  W.nst (by rw [strV_eq, decide_eq_false h]; exact hk) hx hy hg hd
theorem W.nsF (hk : SL P C L Q rest (pt ρ d' (.bool false)) H) (h : a = b) (hx : ev ρ x = some (.string (strV a)) := by exact rfl) (hy : ev ρ y = some (.string (strV b)) := by exact rfl) (hg : gd L ρ ⟨d, .binOp .neq t x y t', ty, pos, af, g⟩ = some true := by exact rfl) (hd : dk C.n d = some d' := by exact rfl) : SL P C L Q (⟨d, .binOp .neq t x y t', ty, pos, af, g⟩ :: rest) ρ H :=
  W.nst (by rw [strV_eq, decide_eq_true h]; exact hk) hx hy hg hd
theorem W.eAF [h : EqB P t len] (hk : SL P C L Q rest (pt ρ d' (.bool false)) H) (h1 : a.length = len) (h2 : b.length = len) (he : ¬ a = b) (hx : ev ρ x = some (.agg (cbs a).toArray) := by exact rfl) (hy : ev ρ y = some (.agg (cbs b).toArray) := by exact rfl) (hg : gd L ρ ⟨d, .binOp .eql t x y t', ty, pos, af, g⟩ = some true := by exact rfl) (hd : dk C.n d = some d' := by exact rfl) : SL P C L Q (⟨d, .binOp .eql t x y t', ty, pos, af, g⟩ :: rest) ρ H :=
  SL.pu (p_eqA rfl hx hy h1 h2) hg hd (by rw [decide_eq_false he]; exact hk)
end
/-- Slices in a row that are read. -/
structure RowR (w : World) (vs : List Value) (ks : List (List UInt8)) : Prop where
  len : vs.length = ks.length
  at_ : ∀ (j : Nat) (k : List UInt8), ks[j]? = some k → ∃ (a : Option Addr) (len cap : Nat), vs[j]? = some (Value.slice a len cap) ∧ Rd [] w 1 (.slice a len cap) (cbs k)
theorem RowR.nil (w : World) : RowR w [] [] := ⟨rfl, fun j k h => by simp at h⟩
theorem RowR.app {w : World} {vs : List Value} {ks : List (List UInt8)} (h : RowR w vs ks) {a : Option Addr} {len cap : Nat} {t : List UInt8} (ht : Rd [] w 1 (.slice a len cap) (cbs t)) : RowR w (vs ++ [.slice a len cap]) (ks ++ [t]) := by
  refine ⟨by simp [h.len], fun j k hj => ?_⟩
  by_cases hlt : j < ks.length
  · rw [List.getElem?_append_left hlt] at hj
    obtain ⟨a', l', c', h1, h2⟩ := h.at_ j k hj
    exact ⟨a', l', c', by rw [List.getElem?_append_left (by rw [h.len]; exact hlt)]; exact h1, h2⟩
  · have hj2 : j = ks.length := by
      have := (List.getElem?_eq_some_iff.1 hj).1
      simp at this; omega
    subst hj2
    simp at hj
    subst hj
    exact ⟨a, len, cap, by rw [← h.len]; simp, ht⟩
theorem take_any {α : Type} (f : α → Bool) (l : List α) {j : Nat} {x : α} (h : l[j]? = some x) : (l.take (j + 1)).any f = ((l.take j).any f || f x) := by
  rw [List.take_add_one, h, Option.toList_some, List.any_append]; simp
theorem kof_len : ∀ (n : Nat) (ts : List (List UInt8)), ts.length = n → (kof ts).1.length ≤ n
  | 0, ts, hl => by
    have : ts = [] := List.eq_nil_of_length_eq_zero hl
    subst this; exact Nat.le_refl _
  | n + 1, ts, hl => by
    obtain ⟨ts, t, rfl⟩ : ∃ l a, ts = l ++ [a] := ⟨ts.dropLast, ts.getLast (by intro h; simp [h] at hl), (List.dropLast_concat_getLast _).symm⟩
    rw [List.length_append, List.length_singleton] at hl
    have := kof_len n ts (by omega)
    rw [kof_app]
    unfold kstep
    dsimp only
    split
    · omega
    · rw [List.length_append, List.length_singleton]; omega
set_option maxHeartbeats 2000000 in
theorem Kept_p (v : Value) (ts : List (List UInt8)) (hn : ts.length ≤ 12) (htl : ∀ t ∈ ts, t.length ≤ 1099511627000) : Tri Try.prog 37 [v] [] (fun w => RdS [] w v ts) (fun v H => v = .tuple #[.int .i64 ((kof ts).1.length : Int), .bool (kof ts).2]) := by
  refine Tri.mk Try.func37 rfl Try.ntmps37 rfl fun w hw => ?_
  obtain ⟨vs, hR, hvl, hvs⟩ := hw
  obtain ⟨pa, pl, pc, rfl, hpl, hpc, hpr⟩ := hR
  rw [Nat.mul_one] at hpl
  have hbl : ts.length = pl := by omega
  have hKsub : ∀ i, ∀ k ∈ (kof (ts.take i)).1, k.length ≤ 1099511627000 := fun i => by
    have : ∀ (n : Nat) (l : List (List UInt8)), l.length = n → (∀ t ∈ l, t.length ≤ 1099511627000) → ∀ k ∈ (kof l).1, k.length ≤ 1099511627000 := fun n => by
      induction n with
      | zero =>
        intro l hl _ k hk
        have : l = [] := List.eq_nil_of_length_eq_zero hl
        subst this
        simp [kof] at hk
      | succ n ih =>
        intro l hl ht k hk
        obtain ⟨l', t, rfl⟩ : ∃ l' a, l = l' ++ [a] := ⟨l.dropLast, l.getLast (by intro h; simp [h] at hl), (List.dropLast_concat_getLast _).symm⟩
        rw [List.length_append, List.length_singleton] at hl
        rw [kof_app] at hk
        unfold kstep at hk
        dsimp only at hk
        split at hk
        · exact ih l' (by omega) (fun t ht' => ht t (List.mem_append_left _ ht')) k hk
        · rcases List.mem_append.1 hk with h | h
          · exact ih l' (by omega) (fun t ht' => ht t (List.mem_append_left _ ht')) k h
          · rw [List.mem_singleton] at h; subst h; exact ht k (by simp)
    exact this _ _ rfl fun t ht => htl t (List.mem_of_mem_take ht)
  (repeat' (first | refine W.mv ?_ | refine W.ls ?_ | refine W.fa ?_ | refine W.nl ?_ | refine W.as ?_ | refine W.ct ?_ | refine W.cf ?_ | refine W.ad ?_ | refine W.sb ?_ | refine W.ml ?_ | refine W.st ?_ | refine SL.nilB ?_ | refine SL.nil ?_ | refine W.ln ?_ | refine W.ix ?_ | refine W.lw ?_ | refine W.la ?_ | refine W.al fun b_ => ?_ | refine W.bx fun b_ => ?_ | refine W.bxa fun b_ => ?_ | refine W.sw ?_ | refine W.sa ?_ | refine W.pkt ?_ | refine W.pkf ?_ | refine W.ua ?_ | refine W.en ?_ | refine W.nn ?_ | refine W.es ?_ | refine W.ns ?_ | refine W.nt ?_ | refine W.fs ?_ | refine W.fg ?_ | refine W.bd ?_ | refine W.bda ?_ | refine W.mf ?_ | refine W.mx ?_ | refine W.mn ?_ | refine W.qu ?_ | refine W.rm ?_ | refine W.lr ?_ | refine W.lt ?_ | refine W.cp ?_ | refine W.ixa ?_ | refine W.sk ?_ | refine W.lsR (by assumption) ?_ | refine W.laR (by assumption) ?_ | refine W.eb ?_ | refine W.nb ?_ | refine W.ci ?_ | refine W.cv ?_ | refine W.s01 ?_ | refine W.s10 ?_ | refine W.s11 ?_ | refine W.s10e ?_ | refine W.sar ?_ | refine W.bs0 fun b_ => ?_ | refine W.ma fun b_ => ?_ | refine W.ex ?_ | refine W.bsl fun b_ => ?_ | refine W.mk ?_ | refine W.ett ?_ | refine W.est ?_ | refine W.nst ?_ | refine W.shl ?_ | refine W.shr ?_ | refine W.bnot ?_ | refine W.ng ?_ | refine W.ai ?_ | refine SW.seq ?_ | refine SW.region ?_ | refine SW.cond_t rfl ?_ | refine SW.cond_f rfl ?_ | refine SW.exit ?_ | refine SW.ret ?_ | refine SW.skip ?_))
  refine SW.cutH [] [] (fun x : Value × List Value × Hp => [(4, x.1), (5, .bool (kof ts).2)]) (fun x => x.2.2) (fun x => Sl 33 1 x.1 x.2.1 x.2.2 ∧ RowR w x.2.1 (kof ts).1) ?_ ?_
  · (repeat' (first | refine W.mv ?_ | refine W.ls ?_ | refine W.fa ?_ | refine W.nl ?_ | refine W.as ?_ | refine W.ct ?_ | refine W.cf ?_ | refine W.ad ?_ | refine W.sb ?_ | refine W.ml ?_ | refine W.st ?_ | refine SL.nilB ?_ | refine SL.nil ?_ | refine W.ln ?_ | refine W.ix ?_ | refine W.lw ?_ | refine W.la ?_ | refine W.al fun b_ => ?_ | refine W.bx fun b_ => ?_ | refine W.bxa fun b_ => ?_ | refine W.sw ?_ | refine W.sa ?_ | refine W.pkt ?_ | refine W.pkf ?_ | refine W.ua ?_ | refine W.en ?_ | refine W.nn ?_ | refine W.es ?_ | refine W.ns ?_ | refine W.nt ?_ | refine W.fs ?_ | refine W.fg ?_ | refine W.bd ?_ | refine W.bda ?_ | refine W.mf ?_ | refine W.mx ?_ | refine W.mn ?_ | refine W.qu ?_ | refine W.rm ?_ | refine W.lr ?_ | refine W.lt ?_ | refine W.cp ?_ | refine W.ixa ?_ | refine W.sk ?_ | refine W.lsR (by assumption) ?_ | refine W.laR (by assumption) ?_ | refine W.eb ?_ | refine W.nb ?_ | refine W.ci ?_ | refine W.cv ?_ | refine W.s01 ?_ | refine W.s10 ?_ | refine W.s11 ?_ | refine W.s10e ?_ | refine W.sar ?_ | refine W.bs0 fun b_ => ?_ | refine W.ma fun b_ => ?_ | refine W.ex ?_ | refine W.bsl fun b_ => ?_ | refine W.mk ?_ | refine W.ett ?_ | refine W.est ?_ | refine W.nst ?_ | refine W.shl ?_ | refine W.shr ?_ | refine W.bnot ?_ | refine W.ng ?_ | refine W.ai ?_ | refine SW.seq ?_ | refine SW.region ?_ | refine SW.block ?_ | refine SW.cond_t rfl ?_ | refine SW.cond_f rfl ?_ | refine SW.exit ?_ | refine SW.ret ?_ | refine SW.skip ?_))
    refine SW.loopF [11, 12] (fun x : Nat × Value × List Value × Hp => [(4, x.2.1), (5, .bool (kof (ts.take x.1)).2), (13, .int .i64 (x.1 : Int))]) (fun x => x.2.2.2) (fun x => pl - x.1) (fun x => x.1 ≤ pl ∧ Sl 33 1 x.2.1 x.2.2.1 x.2.2.2 ∧ RowR w x.2.2.1 (kof (ts.take x.1)).1) (0, .slice none 0 0, [], []) ⟨by omega, Sl.nil _ _, RowR.nil w⟩ ?_
    rintro ⟨i, kv, kvs, Hk⟩ ⟨hi, hv, hrow⟩
    dsimp only at hi hv hrow ⊢
    have hv1 := hv.isOne
    have hkl := kof_len i (ts.take i) (by rw [List.length_take]; omega)
    by_cases hip : i < pl
    · obtain ⟨t, hbs⟩ : ∃ t, ts[i]? = some t := ⟨_, List.getElem?_eq_getElem (by omega)⟩
      obtain ⟨a, len, cap, hvi, hrt⟩ := hvs i t hbs
      obtain ⟨pb, po, l, T, fz, rfl, hpb, hpk, hpy⟩ := hpr.resolve_left (by omega)
      have hl : l[po + i]? = some (.slice a len cap) := by
        rw [← hpy, List.getElem?_take, if_pos (by omega), List.getElem?_drop] at hvi
        exact hvi
      have hkn : kof (ts.take (i + 1)) = kstep (kof (ts.take i)) t := by rw [List.take_add_one, hbs, Option.toList_some, kof_app]
      have htl2 := htl t (List.mem_of_getElem? hbs)
      have hks2 := hKsub i
      obtain ⟨ka, kl, kc, rfl, hkvl⟩ := hv.form
      rw [Nat.mul_one] at hkvl
      generalize kof (ts.take i) = q at hrow hkl hkn hks2 ⊢
      obtain ⟨ks, c⟩ := q
      dsimp only at hrow hkl hks2 ⊢
      have hkk : kl = ks.length := by rw [← hkvl, hrow.len]
      (repeat' (first | refine W.mv ?_ | refine W.ls ?_ | refine W.fa ?_ | refine W.nl ?_ | refine W.as ?_ | refine W.ct ?_ | refine W.cf ?_ | refine W.ad ?_ | refine W.sb ?_ | refine W.ml ?_ | refine W.st ?_ | refine SL.nilB ?_ | refine SL.nil ?_ | refine W.ln ?_ | refine W.ix ?_ | refine W.lw ?_ | refine W.la ?_ | refine W.al fun b_ => ?_ | refine W.bx fun b_ => ?_ | refine W.bxa fun b_ => ?_ | refine W.sw ?_ | refine W.sa ?_ | refine W.pkt ?_ | refine W.pkf ?_ | refine W.ua ?_ | refine W.en ?_ | refine W.nn ?_ | refine W.es ?_ | refine W.ns ?_ | refine W.nt ?_ | refine W.fs ?_ | refine W.fg ?_ | refine W.bd ?_ | refine W.bda ?_ | refine W.mf ?_ | refine W.mx ?_ | refine W.mn ?_ | refine W.qu ?_ | refine W.rm ?_ | refine W.lr ?_ | refine W.lt ?_ | refine W.cp ?_ | refine W.ixa ?_ | refine W.sk ?_ | refine W.lsR (by assumption) ?_ | refine W.laR (by assumption) ?_ | refine W.eb ?_ | refine W.nb ?_ | refine W.ci ?_ | refine W.cv ?_ | refine W.s01 ?_ | refine W.s10 ?_ | refine W.s11 ?_ | refine W.s10e ?_ | refine W.sar ?_ | refine W.bs0 fun b_ => ?_ | refine W.ma fun b_ => ?_ | refine W.ex ?_ | refine W.bsl fun b_ => ?_ | refine W.mk ?_ | refine W.ett ?_ | refine W.est ?_ | refine W.nst ?_ | refine W.shl ?_ | refine W.shr ?_ | refine W.bnot ?_ | refine W.ng ?_ | refine W.ai ?_ | refine SW.seq ?_ | refine SW.region ?_ | refine SW.cond_t rfl ?_ | refine SW.cond_f rfl ?_ | refine SW.exit ?_ | refine SW.ret ?_ | refine SW.skip ?_))
      refine SW.block ?_
      (repeat' (first | refine W.mv ?_ | refine W.ls ?_ | refine W.fa ?_ | refine W.nl ?_ | refine W.as ?_ | refine W.ct ?_ | refine W.cf ?_ | refine W.ad ?_ | refine W.sb ?_ | refine W.ml ?_ | refine W.st ?_ | refine SL.nilB ?_ | refine SL.nil ?_ | refine W.ln ?_ | refine W.ix ?_ | refine W.lw ?_ | refine W.la ?_ | refine W.al fun b_ => ?_ | refine W.bx fun b_ => ?_ | refine W.bxa fun b_ => ?_ | refine W.sw ?_ | refine W.sa ?_ | refine W.pkt ?_ | refine W.pkf ?_ | refine W.ua ?_ | refine W.en ?_ | refine W.nn ?_ | refine W.es ?_ | refine W.ns ?_ | refine W.nt ?_ | refine W.fs ?_ | refine W.fg ?_ | refine W.bd ?_ | refine W.bda ?_ | refine W.mf ?_ | refine W.mx ?_ | refine W.mn ?_ | refine W.qu ?_ | refine W.rm ?_ | refine W.lr ?_ | refine W.lt ?_ | refine W.cp ?_ | refine W.ixa ?_ | refine W.sk ?_ | refine W.lsR (by assumption) ?_ | refine W.laR (by assumption) ?_ | refine W.eb ?_ | refine W.nb ?_ | refine W.ci ?_ | refine W.cv ?_ | refine W.s01 ?_ | refine W.s10 ?_ | refine W.s11 ?_ | refine W.s10e ?_ | refine W.sar ?_ | refine W.bs0 fun b_ => ?_ | refine W.ma fun b_ => ?_ | refine W.ex ?_ | refine W.bsl fun b_ => ?_ | refine W.mk ?_ | refine W.ett ?_ | refine W.est ?_ | refine W.nst ?_ | refine W.shl ?_ | refine W.shr ?_ | refine W.bnot ?_ | refine W.ng ?_ | refine W.ai ?_ | refine SW.seq ?_ | refine SW.region ?_ | refine SW.cond_t rfl ?_ | refine SW.cond_f rfl ?_ | refine SW.exit ?_ | refine SW.ret ?_ | refine SW.skip ?_))
      refine SW.cut [4, 7, 11, 12, 13] [] (fun _ : Unit => [(5, .bool (c || ks.any (unl t))), (8, .bool (ks.any fun k => decide (k = t)))]) (fun _ => []) (fun _ => True) ?_ ?_
      · (repeat' (first | refine W.mv ?_ | refine W.ls ?_ | refine W.fa ?_ | refine W.nl ?_ | refine W.as ?_ | refine W.ct ?_ | refine W.cf ?_ | refine W.ad ?_ | refine W.sb ?_ | refine W.ml ?_ | refine W.st ?_ | refine SL.nilB ?_ | refine SL.nil ?_ | refine W.ln ?_ | refine W.ix ?_ | refine W.lw ?_ | refine W.la ?_ | refine W.al fun b_ => ?_ | refine W.bx fun b_ => ?_ | refine W.bxa fun b_ => ?_ | refine W.sw ?_ | refine W.sa ?_ | refine W.pkt ?_ | refine W.pkf ?_ | refine W.ua ?_ | refine W.en ?_ | refine W.nn ?_ | refine W.es ?_ | refine W.ns ?_ | refine W.nt ?_ | refine W.fs ?_ | refine W.fg ?_ | refine W.bd ?_ | refine W.bda ?_ | refine W.mf ?_ | refine W.mx ?_ | refine W.mn ?_ | refine W.qu ?_ | refine W.rm ?_ | refine W.lr ?_ | refine W.lt ?_ | refine W.cp ?_ | refine W.ixa ?_ | refine W.sk ?_ | refine W.lsR (by assumption) ?_ | refine W.laR (by assumption) ?_ | refine W.eb ?_ | refine W.nb ?_ | refine W.ci ?_ | refine W.cv ?_ | refine W.s01 ?_ | refine W.s10 ?_ | refine W.s11 ?_ | refine W.s10e ?_ | refine W.sar ?_ | refine W.bs0 fun b_ => ?_ | refine W.ma fun b_ => ?_ | refine W.ex ?_ | refine W.bsl fun b_ => ?_ | refine W.mk ?_ | refine W.ett ?_ | refine W.est ?_ | refine W.nst ?_ | refine W.shl ?_ | refine W.shr ?_ | refine W.bnot ?_ | refine W.ng ?_ | refine W.ai ?_ | refine SW.seq ?_ | refine SW.region ?_ | refine SW.block ?_ | refine SW.cond_t rfl ?_ | refine SW.cond_f rfl ?_ | refine SW.exit ?_ | refine SW.ret ?_ | refine SW.skip ?_))
        refine SW.loopG [4, 7, 11, 12, 13, 17, 18] [] (fun j : Nat => [(5, .bool (c || (ks.take j).any (unl t))), (8, .bool ((ks.take j).any fun k => decide (k = t))), (19, .int .i64 (j : Int))]) (fun _ => []) (fun j => kl - j) (fun j => j ≤ kl) 0 (by omega) ?_ (hr := ?_)
        rotate_left
        · rw [List.take_zero]
          simp only [List.any_nil, Bool.or_false]
          (repeat' first | exact trivial | refine And.intro rfl ?_)
        intro j hj
        by_cases hjl : j < kl
        · obtain ⟨k, hk⟩ : ∃ k, ks[j]? = some k := ⟨_, List.getElem?_eq_getElem (by omega)⟩
          obtain ⟨a2, l2, c2, hkj, hrk⟩ := hrow.at_ j k hk
          have hk2 := hks2 k (List.mem_of_getElem? hk)
          rcases id hv with ⟨e, -, -⟩ | ⟨bk, len', cap', junk, e, hx, hj', hlc, rfl⟩
          · cases e; omega
          cases e
          have hlk : (kvs ++ junk)[j]? = some (.slice a2 l2 c2) := by
            rw [List.getElem?_append_left (by omega)]; exact hkj
          have hA := take_any (fun k => decide (k = t)) ks hk
          have hC := take_any (unl t) ks hk
          obtain ⟨A, hAe⟩ : ∃ A, A = (ks.take j).any fun k => decide (k = t) := ⟨_, rfl⟩
          obtain ⟨Cl, hCl⟩ : ∃ Cl, (c || (ks.take j).any (unl t)) = Cl := ⟨_, rfl⟩
          rw [← hAe] at hA ⊢
          rw [hCl]
          clear hAe
          generalize kvs ++ junk = KV at hlk ⊢
          cases A <;> cases Cl
          · have hCz : (c || (ks.take (j + 1)).any (unl t)) = (false || unl t k) := by rw [hC, ← Bool.or_assoc, hCl]
            by_cases hkt : k = t
            · have hA2 : ((ks.take (j + 1)).any fun k => decide (k = t)) = true := by rw [hA]; simp [hkt]
              have hC2 : (c || (ks.take (j + 1)).any (unl t)) = false := by rw [hCz]; simp [unl, hkt]
              (repeat' (first | refine W.cst (fun w2 hs => hrk.srcAt hs) ?_ | refine W.cst (fun w2 hs => hrt.srcAt hs) ?_ | refine W.esT ?_ hkt | refine W.nsF ?_ hkt | refine W.mv ?_ | refine W.ls ?_ | refine W.fa ?_ | refine W.nl ?_ | refine W.as ?_ | refine W.ct ?_ | refine W.cf ?_ | refine W.ad ?_ | refine W.sb ?_ | refine W.ml ?_ | refine W.st ?_ | refine SL.nilB ?_ | refine SL.nil ?_ | refine W.ln ?_ | refine W.ix ?_ | refine W.lw ?_ | refine W.la ?_ | refine W.al fun b_ => ?_ | refine W.bx fun b_ => ?_ | refine W.bxa fun b_ => ?_ | refine W.sw ?_ | refine W.sa ?_ | refine W.pkt ?_ | refine W.pkf ?_ | refine W.ua ?_ | refine W.en ?_ | refine W.nn ?_ | refine W.es ?_ | refine W.ns ?_ | refine W.nt ?_ | refine W.fs ?_ | refine W.fg ?_ | refine W.bd ?_ | refine W.bda ?_ | refine W.mf ?_ | refine W.mx ?_ | refine W.mn ?_ | refine W.qu ?_ | refine W.rm ?_ | refine W.lr ?_ | refine W.lt ?_ | refine W.cp ?_ | refine W.ixa ?_ | refine W.sk ?_ | refine W.lsR (by assumption) ?_ | refine W.laR (by assumption) ?_ | refine W.eb ?_ | refine W.nb ?_ | refine W.ci ?_ | refine W.cv ?_ | refine W.s01 ?_ | refine W.s10 ?_ | refine W.s11 ?_ | refine W.s10e ?_ | refine W.sar ?_ | refine W.bs0 fun b_ => ?_ | refine W.ma fun b_ => ?_ | refine W.ex ?_ | refine W.bsl fun b_ => ?_ | refine W.mk ?_ | refine W.ett ?_ | refine W.est ?_ | refine W.nst ?_ | refine W.shl ?_ | refine W.shr ?_ | refine W.bnot ?_ | refine W.ng ?_ | refine W.ai ?_ | refine SW.seq ?_ | refine SW.region ?_ | refine SW.block ?_ | refine SW.cond_t rfl ?_ | refine SW.cond_f rfl ?_ | refine SW.exit ?_ | refine SW.ret ?_ | refine SW.skip ?_))
              refine HandF.mk (j + 1) ?_ (hr := ?_)
              · omega
              · rw [hA2, hC2]
                (repeat' first | exact trivial | refine And.intro rfl ?_)
            · have hA2 : ((ks.take (j + 1)).any fun k => decide (k = t)) = false := by rw [hA]; simp [hkt]
              (repeat' (first | refine W.cst (fun w2 hs => hrk.srcAt hs) ?_ | refine W.cst (fun w2 hs => hrt.srcAt hs) ?_ | refine W.esF ?_ hkt | refine W.nsT ?_ hkt | refine W.mv ?_ | refine W.ls ?_ | refine W.fa ?_ | refine W.nl ?_ | refine W.as ?_ | refine W.ct ?_ | refine W.cf ?_ | refine W.ad ?_ | refine W.sb ?_ | refine W.ml ?_ | refine W.st ?_ | refine SL.nilB ?_ | refine SL.nil ?_ | refine W.ln ?_ | refine W.ix ?_ | refine W.lw ?_ | refine W.la ?_ | refine W.al fun b_ => ?_ | refine W.bx fun b_ => ?_ | refine W.bxa fun b_ => ?_ | refine W.sw ?_ | refine W.sa ?_ | refine W.pkt ?_ | refine W.pkf ?_ | refine W.ua ?_ | refine W.en ?_ | refine W.nn ?_ | refine W.es ?_ | refine W.ns ?_ | refine W.nt ?_ | refine W.fs ?_ | refine W.fg ?_ | refine W.bd ?_ | refine W.bda ?_ | refine W.mf ?_ | refine W.mx ?_ | refine W.mn ?_ | refine W.qu ?_ | refine W.rm ?_ | refine W.lr ?_ | refine W.lt ?_ | refine W.cp ?_ | refine W.ixa ?_ | refine W.sk ?_ | refine W.lsR (by assumption) ?_ | refine W.laR (by assumption) ?_ | refine W.eb ?_ | refine W.nb ?_ | refine W.ci ?_ | refine W.cv ?_ | refine W.s01 ?_ | refine W.s10 ?_ | refine W.s11 ?_ | refine W.s10e ?_ | refine W.sar ?_ | refine W.bs0 fun b_ => ?_ | refine W.ma fun b_ => ?_ | refine W.ex ?_ | refine W.bsl fun b_ => ?_ | refine W.mk ?_ | refine W.ett ?_ | refine W.est ?_ | refine W.nst ?_ | refine W.shl ?_ | refine W.shr ?_ | refine W.bnot ?_ | refine W.ng ?_ | refine W.ai ?_ | refine SW.seq ?_ | refine SW.region ?_ | refine SW.block ?_ | refine SW.cond_t rfl ?_ | refine SW.cond_f rfl ?_ | refine SW.exit ?_ | refine SW.ret ?_ | refine SW.skip ?_))
              refine W.call (RSum_p (.slice a2 l2 c2) k hk2) ?_ rfl (fun w2 hs => hrk.ro (Hc := []) hs)
              rintro _ _ ⟨rfl, rfl⟩
              (repeat' (first | refine W.mv ?_ | refine W.ls ?_ | refine W.fa ?_ | refine W.nl ?_ | refine W.as ?_ | refine W.ct ?_ | refine W.cf ?_ | refine W.ad ?_ | refine W.sb ?_ | refine W.ml ?_ | refine W.st ?_ | refine SL.nilB ?_ | refine SL.nil ?_ | refine W.ln ?_ | refine W.ix ?_ | refine W.lw ?_ | refine W.la ?_ | refine W.al fun b_ => ?_ | refine W.bx fun b_ => ?_ | refine W.bxa fun b_ => ?_ | refine W.sw ?_ | refine W.sa ?_ | refine W.pkt ?_ | refine W.pkf ?_ | refine W.ua ?_ | refine W.en ?_ | refine W.nn ?_ | refine W.es ?_ | refine W.ns ?_ | refine W.nt ?_ | refine W.fs ?_ | refine W.fg ?_ | refine W.bd ?_ | refine W.bda ?_ | refine W.mf ?_ | refine W.mx ?_ | refine W.mn ?_ | refine W.qu ?_ | refine W.rm ?_ | refine W.lr ?_ | refine W.lt ?_ | refine W.cp ?_ | refine W.ixa ?_ | refine W.sk ?_ | refine W.lsR (by assumption) ?_ | refine W.laR (by assumption) ?_ | refine W.eb ?_ | refine W.nb ?_ | refine W.ci ?_ | refine W.cv ?_ | refine W.s01 ?_ | refine W.s10 ?_ | refine W.s11 ?_ | refine W.s10e ?_ | refine W.sar ?_ | refine W.bs0 fun b_ => ?_ | refine W.ma fun b_ => ?_ | refine W.ex ?_ | refine W.bsl fun b_ => ?_ | refine W.mk ?_ | refine W.ett ?_ | refine W.est ?_ | refine W.nst ?_ | refine W.shl ?_ | refine W.shr ?_ | refine W.bnot ?_ | refine W.ng ?_ | refine W.ai ?_ | refine SW.seq ?_ | refine SW.region ?_ | refine SW.block ?_ | refine SW.cond_t rfl ?_ | refine SW.cond_f rfl ?_ | refine SW.exit ?_ | refine SW.ret ?_ | refine SW.skip ?_))
              refine W.call (RSum_p (.slice a len cap) t htl2) ?_ rfl (fun w2 hs => hrt.ro (Hc := []) hs)
              rintro _ _ ⟨rfl, rfl⟩
              by_cases hsum : Sha.sum k = Sha.sum t
              · have hC2 : (c || (ks.take (j + 1)).any (unl t)) = true := by rw [hCz]; simp [unl, hkt, hsum]
                refine W.eA ?_ (Sha.sum_len k) hsum
                (repeat' (first | refine W.mv ?_ | refine W.ls ?_ | refine W.fa ?_ | refine W.nl ?_ | refine W.as ?_ | refine W.ct ?_ | refine W.cf ?_ | refine W.ad ?_ | refine W.sb ?_ | refine W.ml ?_ | refine W.st ?_ | refine SL.nilB ?_ | refine SL.nil ?_ | refine W.ln ?_ | refine W.ix ?_ | refine W.lw ?_ | refine W.la ?_ | refine W.al fun b_ => ?_ | refine W.bx fun b_ => ?_ | refine W.bxa fun b_ => ?_ | refine W.sw ?_ | refine W.sa ?_ | refine W.pkt ?_ | refine W.pkf ?_ | refine W.ua ?_ | refine W.en ?_ | refine W.nn ?_ | refine W.es ?_ | refine W.ns ?_ | refine W.nt ?_ | refine W.fs ?_ | refine W.fg ?_ | refine W.bd ?_ | refine W.bda ?_ | refine W.mf ?_ | refine W.mx ?_ | refine W.mn ?_ | refine W.qu ?_ | refine W.rm ?_ | refine W.lr ?_ | refine W.lt ?_ | refine W.cp ?_ | refine W.ixa ?_ | refine W.sk ?_ | refine W.lsR (by assumption) ?_ | refine W.laR (by assumption) ?_ | refine W.eb ?_ | refine W.nb ?_ | refine W.ci ?_ | refine W.cv ?_ | refine W.s01 ?_ | refine W.s10 ?_ | refine W.s11 ?_ | refine W.s10e ?_ | refine W.sar ?_ | refine W.bs0 fun b_ => ?_ | refine W.ma fun b_ => ?_ | refine W.ex ?_ | refine W.bsl fun b_ => ?_ | refine W.mk ?_ | refine W.ett ?_ | refine W.est ?_ | refine W.nst ?_ | refine W.shl ?_ | refine W.shr ?_ | refine W.bnot ?_ | refine W.ng ?_ | refine W.ai ?_ | refine SW.seq ?_ | refine SW.region ?_ | refine SW.block ?_ | refine SW.cond_t rfl ?_ | refine SW.cond_f rfl ?_ | refine SW.exit ?_ | refine SW.ret ?_ | refine SW.skip ?_))
                refine HandF.mk (j + 1) ?_ (hr := ?_)
                · omega
                · rw [hA2, hC2]
                  (repeat' first | exact trivial | refine And.intro rfl ?_)
              · have hC2 : (c || (ks.take (j + 1)).any (unl t)) = false := by rw [hCz]; simp [unl, hsum]
                refine W.eAF ?_ (Sha.sum_len k) (Sha.sum_len t) hsum
                (repeat' (first | refine W.mv ?_ | refine W.ls ?_ | refine W.fa ?_ | refine W.nl ?_ | refine W.as ?_ | refine W.ct ?_ | refine W.cf ?_ | refine W.ad ?_ | refine W.sb ?_ | refine W.ml ?_ | refine W.st ?_ | refine SL.nilB ?_ | refine SL.nil ?_ | refine W.ln ?_ | refine W.ix ?_ | refine W.lw ?_ | refine W.la ?_ | refine W.al fun b_ => ?_ | refine W.bx fun b_ => ?_ | refine W.bxa fun b_ => ?_ | refine W.sw ?_ | refine W.sa ?_ | refine W.pkt ?_ | refine W.pkf ?_ | refine W.ua ?_ | refine W.en ?_ | refine W.nn ?_ | refine W.es ?_ | refine W.ns ?_ | refine W.nt ?_ | refine W.fs ?_ | refine W.fg ?_ | refine W.bd ?_ | refine W.bda ?_ | refine W.mf ?_ | refine W.mx ?_ | refine W.mn ?_ | refine W.qu ?_ | refine W.rm ?_ | refine W.lr ?_ | refine W.lt ?_ | refine W.cp ?_ | refine W.ixa ?_ | refine W.sk ?_ | refine W.lsR (by assumption) ?_ | refine W.laR (by assumption) ?_ | refine W.eb ?_ | refine W.nb ?_ | refine W.ci ?_ | refine W.cv ?_ | refine W.s01 ?_ | refine W.s10 ?_ | refine W.s11 ?_ | refine W.s10e ?_ | refine W.sar ?_ | refine W.bs0 fun b_ => ?_ | refine W.ma fun b_ => ?_ | refine W.ex ?_ | refine W.bsl fun b_ => ?_ | refine W.mk ?_ | refine W.ett ?_ | refine W.est ?_ | refine W.nst ?_ | refine W.shl ?_ | refine W.shr ?_ | refine W.bnot ?_ | refine W.ng ?_ | refine W.ai ?_ | refine SW.seq ?_ | refine SW.region ?_ | refine SW.block ?_ | refine SW.cond_t rfl ?_ | refine SW.cond_f rfl ?_ | refine SW.exit ?_ | refine SW.ret ?_ | refine SW.skip ?_))
                refine HandF.mk (j + 1) ?_ (hr := ?_)
                · omega
                · rw [hA2, hC2]
                  (repeat' first | exact trivial | refine And.intro rfl ?_)
          · have hCz : (c || (ks.take (j + 1)).any (unl t)) = (true || unl t k) := by rw [hC, ← Bool.or_assoc, hCl]
            by_cases hkt : k = t
            · have hA2 : ((ks.take (j + 1)).any fun k => decide (k = t)) = true := by rw [hA]; simp [hkt]
              have hC2 : (c || (ks.take (j + 1)).any (unl t)) = true := by rw [hCz]; simp [unl, hkt]
              (repeat' (first | refine W.cst (fun w2 hs => hrk.srcAt hs) ?_ | refine W.cst (fun w2 hs => hrt.srcAt hs) ?_ | refine W.esT ?_ hkt | refine W.nsF ?_ hkt | refine W.mv ?_ | refine W.ls ?_ | refine W.fa ?_ | refine W.nl ?_ | refine W.as ?_ | refine W.ct ?_ | refine W.cf ?_ | refine W.ad ?_ | refine W.sb ?_ | refine W.ml ?_ | refine W.st ?_ | refine SL.nilB ?_ | refine SL.nil ?_ | refine W.ln ?_ | refine W.ix ?_ | refine W.lw ?_ | refine W.la ?_ | refine W.al fun b_ => ?_ | refine W.bx fun b_ => ?_ | refine W.bxa fun b_ => ?_ | refine W.sw ?_ | refine W.sa ?_ | refine W.pkt ?_ | refine W.pkf ?_ | refine W.ua ?_ | refine W.en ?_ | refine W.nn ?_ | refine W.es ?_ | refine W.ns ?_ | refine W.nt ?_ | refine W.fs ?_ | refine W.fg ?_ | refine W.bd ?_ | refine W.bda ?_ | refine W.mf ?_ | refine W.mx ?_ | refine W.mn ?_ | refine W.qu ?_ | refine W.rm ?_ | refine W.lr ?_ | refine W.lt ?_ | refine W.cp ?_ | refine W.ixa ?_ | refine W.sk ?_ | refine W.lsR (by assumption) ?_ | refine W.laR (by assumption) ?_ | refine W.eb ?_ | refine W.nb ?_ | refine W.ci ?_ | refine W.cv ?_ | refine W.s01 ?_ | refine W.s10 ?_ | refine W.s11 ?_ | refine W.s10e ?_ | refine W.sar ?_ | refine W.bs0 fun b_ => ?_ | refine W.ma fun b_ => ?_ | refine W.ex ?_ | refine W.bsl fun b_ => ?_ | refine W.mk ?_ | refine W.ett ?_ | refine W.est ?_ | refine W.nst ?_ | refine W.shl ?_ | refine W.shr ?_ | refine W.bnot ?_ | refine W.ng ?_ | refine W.ai ?_ | refine SW.seq ?_ | refine SW.region ?_ | refine SW.block ?_ | refine SW.cond_t rfl ?_ | refine SW.cond_f rfl ?_ | refine SW.exit ?_ | refine SW.ret ?_ | refine SW.skip ?_))
              refine HandF.mk (j + 1) ?_ (hr := ?_)
              · omega
              · rw [hA2, hC2]
                (repeat' first | exact trivial | refine And.intro rfl ?_)
            · have hA2 : ((ks.take (j + 1)).any fun k => decide (k = t)) = false := by rw [hA]; simp [hkt]
              have hC2 : (c || (ks.take (j + 1)).any (unl t)) = true := by rw [hCz]; simp
              (repeat' (first | refine W.cst (fun w2 hs => hrk.srcAt hs) ?_ | refine W.cst (fun w2 hs => hrt.srcAt hs) ?_ | refine W.esF ?_ hkt | refine W.nsT ?_ hkt | refine W.mv ?_ | refine W.ls ?_ | refine W.fa ?_ | refine W.nl ?_ | refine W.as ?_ | refine W.ct ?_ | refine W.cf ?_ | refine W.ad ?_ | refine W.sb ?_ | refine W.ml ?_ | refine W.st ?_ | refine SL.nilB ?_ | refine SL.nil ?_ | refine W.ln ?_ | refine W.ix ?_ | refine W.lw ?_ | refine W.la ?_ | refine W.al fun b_ => ?_ | refine W.bx fun b_ => ?_ | refine W.bxa fun b_ => ?_ | refine W.sw ?_ | refine W.sa ?_ | refine W.pkt ?_ | refine W.pkf ?_ | refine W.ua ?_ | refine W.en ?_ | refine W.nn ?_ | refine W.es ?_ | refine W.ns ?_ | refine W.nt ?_ | refine W.fs ?_ | refine W.fg ?_ | refine W.bd ?_ | refine W.bda ?_ | refine W.mf ?_ | refine W.mx ?_ | refine W.mn ?_ | refine W.qu ?_ | refine W.rm ?_ | refine W.lr ?_ | refine W.lt ?_ | refine W.cp ?_ | refine W.ixa ?_ | refine W.sk ?_ | refine W.lsR (by assumption) ?_ | refine W.laR (by assumption) ?_ | refine W.eb ?_ | refine W.nb ?_ | refine W.ci ?_ | refine W.cv ?_ | refine W.s01 ?_ | refine W.s10 ?_ | refine W.s11 ?_ | refine W.s10e ?_ | refine W.sar ?_ | refine W.bs0 fun b_ => ?_ | refine W.ma fun b_ => ?_ | refine W.ex ?_ | refine W.bsl fun b_ => ?_ | refine W.mk ?_ | refine W.ett ?_ | refine W.est ?_ | refine W.nst ?_ | refine W.shl ?_ | refine W.shr ?_ | refine W.bnot ?_ | refine W.ng ?_ | refine W.ai ?_ | refine SW.seq ?_ | refine SW.region ?_ | refine SW.block ?_ | refine SW.cond_t rfl ?_ | refine SW.cond_f rfl ?_ | refine SW.exit ?_ | refine SW.ret ?_ | refine SW.skip ?_))
              refine HandF.mk (j + 1) ?_ (hr := ?_)
              · omega
              · rw [hA2, hC2]
                (repeat' first | exact trivial | refine And.intro rfl ?_)
          · have hCz : (c || (ks.take (j + 1)).any (unl t)) = (false || unl t k) := by rw [hC, ← Bool.or_assoc, hCl]
            by_cases hkt : k = t
            · have hA2 : ((ks.take (j + 1)).any fun k => decide (k = t)) = true := by rw [hA]; simp [hkt]
              have hC2 : (c || (ks.take (j + 1)).any (unl t)) = false := by rw [hCz]; simp [unl, hkt]
              (repeat' (first | refine W.cst (fun w2 hs => hrk.srcAt hs) ?_ | refine W.cst (fun w2 hs => hrt.srcAt hs) ?_ | refine W.esT ?_ hkt | refine W.nsF ?_ hkt | refine W.mv ?_ | refine W.ls ?_ | refine W.fa ?_ | refine W.nl ?_ | refine W.as ?_ | refine W.ct ?_ | refine W.cf ?_ | refine W.ad ?_ | refine W.sb ?_ | refine W.ml ?_ | refine W.st ?_ | refine SL.nilB ?_ | refine SL.nil ?_ | refine W.ln ?_ | refine W.ix ?_ | refine W.lw ?_ | refine W.la ?_ | refine W.al fun b_ => ?_ | refine W.bx fun b_ => ?_ | refine W.bxa fun b_ => ?_ | refine W.sw ?_ | refine W.sa ?_ | refine W.pkt ?_ | refine W.pkf ?_ | refine W.ua ?_ | refine W.en ?_ | refine W.nn ?_ | refine W.es ?_ | refine W.ns ?_ | refine W.nt ?_ | refine W.fs ?_ | refine W.fg ?_ | refine W.bd ?_ | refine W.bda ?_ | refine W.mf ?_ | refine W.mx ?_ | refine W.mn ?_ | refine W.qu ?_ | refine W.rm ?_ | refine W.lr ?_ | refine W.lt ?_ | refine W.cp ?_ | refine W.ixa ?_ | refine W.sk ?_ | refine W.lsR (by assumption) ?_ | refine W.laR (by assumption) ?_ | refine W.eb ?_ | refine W.nb ?_ | refine W.ci ?_ | refine W.cv ?_ | refine W.s01 ?_ | refine W.s10 ?_ | refine W.s11 ?_ | refine W.s10e ?_ | refine W.sar ?_ | refine W.bs0 fun b_ => ?_ | refine W.ma fun b_ => ?_ | refine W.ex ?_ | refine W.bsl fun b_ => ?_ | refine W.mk ?_ | refine W.ett ?_ | refine W.est ?_ | refine W.nst ?_ | refine W.shl ?_ | refine W.shr ?_ | refine W.bnot ?_ | refine W.ng ?_ | refine W.ai ?_ | refine SW.seq ?_ | refine SW.region ?_ | refine SW.block ?_ | refine SW.cond_t rfl ?_ | refine SW.cond_f rfl ?_ | refine SW.exit ?_ | refine SW.ret ?_ | refine SW.skip ?_))
              refine HandF.mk (j + 1) ?_ (hr := ?_)
              · omega
              · rw [hA2, hC2]
                (repeat' first | exact trivial | refine And.intro rfl ?_)
            · have hA2 : ((ks.take (j + 1)).any fun k => decide (k = t)) = true := by rw [hA]; simp [hkt]
              (repeat' (first | refine W.cst (fun w2 hs => hrk.srcAt hs) ?_ | refine W.cst (fun w2 hs => hrt.srcAt hs) ?_ | refine W.esF ?_ hkt | refine W.nsT ?_ hkt | refine W.mv ?_ | refine W.ls ?_ | refine W.fa ?_ | refine W.nl ?_ | refine W.as ?_ | refine W.ct ?_ | refine W.cf ?_ | refine W.ad ?_ | refine W.sb ?_ | refine W.ml ?_ | refine W.st ?_ | refine SL.nilB ?_ | refine SL.nil ?_ | refine W.ln ?_ | refine W.ix ?_ | refine W.lw ?_ | refine W.la ?_ | refine W.al fun b_ => ?_ | refine W.bx fun b_ => ?_ | refine W.bxa fun b_ => ?_ | refine W.sw ?_ | refine W.sa ?_ | refine W.pkt ?_ | refine W.pkf ?_ | refine W.ua ?_ | refine W.en ?_ | refine W.nn ?_ | refine W.es ?_ | refine W.ns ?_ | refine W.nt ?_ | refine W.fs ?_ | refine W.fg ?_ | refine W.bd ?_ | refine W.bda ?_ | refine W.mf ?_ | refine W.mx ?_ | refine W.mn ?_ | refine W.qu ?_ | refine W.rm ?_ | refine W.lr ?_ | refine W.lt ?_ | refine W.cp ?_ | refine W.ixa ?_ | refine W.sk ?_ | refine W.lsR (by assumption) ?_ | refine W.laR (by assumption) ?_ | refine W.eb ?_ | refine W.nb ?_ | refine W.ci ?_ | refine W.cv ?_ | refine W.s01 ?_ | refine W.s10 ?_ | refine W.s11 ?_ | refine W.s10e ?_ | refine W.sar ?_ | refine W.bs0 fun b_ => ?_ | refine W.ma fun b_ => ?_ | refine W.ex ?_ | refine W.bsl fun b_ => ?_ | refine W.mk ?_ | refine W.ett ?_ | refine W.est ?_ | refine W.nst ?_ | refine W.shl ?_ | refine W.shr ?_ | refine W.bnot ?_ | refine W.ng ?_ | refine W.ai ?_ | refine SW.seq ?_ | refine SW.region ?_ | refine SW.block ?_ | refine SW.cond_t rfl ?_ | refine SW.cond_f rfl ?_ | refine SW.exit ?_ | refine SW.ret ?_ | refine SW.skip ?_))
              refine W.call (RSum_p (.slice a2 l2 c2) k hk2) ?_ rfl (fun w2 hs => hrk.ro (Hc := []) hs)
              rintro _ _ ⟨rfl, rfl⟩
              (repeat' (first | refine W.mv ?_ | refine W.ls ?_ | refine W.fa ?_ | refine W.nl ?_ | refine W.as ?_ | refine W.ct ?_ | refine W.cf ?_ | refine W.ad ?_ | refine W.sb ?_ | refine W.ml ?_ | refine W.st ?_ | refine SL.nilB ?_ | refine SL.nil ?_ | refine W.ln ?_ | refine W.ix ?_ | refine W.lw ?_ | refine W.la ?_ | refine W.al fun b_ => ?_ | refine W.bx fun b_ => ?_ | refine W.bxa fun b_ => ?_ | refine W.sw ?_ | refine W.sa ?_ | refine W.pkt ?_ | refine W.pkf ?_ | refine W.ua ?_ | refine W.en ?_ | refine W.nn ?_ | refine W.es ?_ | refine W.ns ?_ | refine W.nt ?_ | refine W.fs ?_ | refine W.fg ?_ | refine W.bd ?_ | refine W.bda ?_ | refine W.mf ?_ | refine W.mx ?_ | refine W.mn ?_ | refine W.qu ?_ | refine W.rm ?_ | refine W.lr ?_ | refine W.lt ?_ | refine W.cp ?_ | refine W.ixa ?_ | refine W.sk ?_ | refine W.lsR (by assumption) ?_ | refine W.laR (by assumption) ?_ | refine W.eb ?_ | refine W.nb ?_ | refine W.ci ?_ | refine W.cv ?_ | refine W.s01 ?_ | refine W.s10 ?_ | refine W.s11 ?_ | refine W.s10e ?_ | refine W.sar ?_ | refine W.bs0 fun b_ => ?_ | refine W.ma fun b_ => ?_ | refine W.ex ?_ | refine W.bsl fun b_ => ?_ | refine W.mk ?_ | refine W.ett ?_ | refine W.est ?_ | refine W.nst ?_ | refine W.shl ?_ | refine W.shr ?_ | refine W.bnot ?_ | refine W.ng ?_ | refine W.ai ?_ | refine SW.seq ?_ | refine SW.region ?_ | refine SW.block ?_ | refine SW.cond_t rfl ?_ | refine SW.cond_f rfl ?_ | refine SW.exit ?_ | refine SW.ret ?_ | refine SW.skip ?_))
              refine W.call (RSum_p (.slice a len cap) t htl2) ?_ rfl (fun w2 hs => hrt.ro (Hc := []) hs)
              rintro _ _ ⟨rfl, rfl⟩
              by_cases hsum : Sha.sum k = Sha.sum t
              · have hC2 : (c || (ks.take (j + 1)).any (unl t)) = true := by rw [hCz]; simp [unl, hkt, hsum]
                refine W.eA ?_ (Sha.sum_len k) hsum
                (repeat' (first | refine W.mv ?_ | refine W.ls ?_ | refine W.fa ?_ | refine W.nl ?_ | refine W.as ?_ | refine W.ct ?_ | refine W.cf ?_ | refine W.ad ?_ | refine W.sb ?_ | refine W.ml ?_ | refine W.st ?_ | refine SL.nilB ?_ | refine SL.nil ?_ | refine W.ln ?_ | refine W.ix ?_ | refine W.lw ?_ | refine W.la ?_ | refine W.al fun b_ => ?_ | refine W.bx fun b_ => ?_ | refine W.bxa fun b_ => ?_ | refine W.sw ?_ | refine W.sa ?_ | refine W.pkt ?_ | refine W.pkf ?_ | refine W.ua ?_ | refine W.en ?_ | refine W.nn ?_ | refine W.es ?_ | refine W.ns ?_ | refine W.nt ?_ | refine W.fs ?_ | refine W.fg ?_ | refine W.bd ?_ | refine W.bda ?_ | refine W.mf ?_ | refine W.mx ?_ | refine W.mn ?_ | refine W.qu ?_ | refine W.rm ?_ | refine W.lr ?_ | refine W.lt ?_ | refine W.cp ?_ | refine W.ixa ?_ | refine W.sk ?_ | refine W.lsR (by assumption) ?_ | refine W.laR (by assumption) ?_ | refine W.eb ?_ | refine W.nb ?_ | refine W.ci ?_ | refine W.cv ?_ | refine W.s01 ?_ | refine W.s10 ?_ | refine W.s11 ?_ | refine W.s10e ?_ | refine W.sar ?_ | refine W.bs0 fun b_ => ?_ | refine W.ma fun b_ => ?_ | refine W.ex ?_ | refine W.bsl fun b_ => ?_ | refine W.mk ?_ | refine W.ett ?_ | refine W.est ?_ | refine W.nst ?_ | refine W.shl ?_ | refine W.shr ?_ | refine W.bnot ?_ | refine W.ng ?_ | refine W.ai ?_ | refine SW.seq ?_ | refine SW.region ?_ | refine SW.block ?_ | refine SW.cond_t rfl ?_ | refine SW.cond_f rfl ?_ | refine SW.exit ?_ | refine SW.ret ?_ | refine SW.skip ?_))
                refine HandF.mk (j + 1) ?_ (hr := ?_)
                · omega
                · rw [hA2, hC2]
                  (repeat' first | exact trivial | refine And.intro rfl ?_)
              · have hC2 : (c || (ks.take (j + 1)).any (unl t)) = false := by rw [hCz]; simp [unl, hsum]
                refine W.eAF ?_ (Sha.sum_len k) (Sha.sum_len t) hsum
                (repeat' (first | refine W.mv ?_ | refine W.ls ?_ | refine W.fa ?_ | refine W.nl ?_ | refine W.as ?_ | refine W.ct ?_ | refine W.cf ?_ | refine W.ad ?_ | refine W.sb ?_ | refine W.ml ?_ | refine W.st ?_ | refine SL.nilB ?_ | refine SL.nil ?_ | refine W.ln ?_ | refine W.ix ?_ | refine W.lw ?_ | refine W.la ?_ | refine W.al fun b_ => ?_ | refine W.bx fun b_ => ?_ | refine W.bxa fun b_ => ?_ | refine W.sw ?_ | refine W.sa ?_ | refine W.pkt ?_ | refine W.pkf ?_ | refine W.ua ?_ | refine W.en ?_ | refine W.nn ?_ | refine W.es ?_ | refine W.ns ?_ | refine W.nt ?_ | refine W.fs ?_ | refine W.fg ?_ | refine W.bd ?_ | refine W.bda ?_ | refine W.mf ?_ | refine W.mx ?_ | refine W.mn ?_ | refine W.qu ?_ | refine W.rm ?_ | refine W.lr ?_ | refine W.lt ?_ | refine W.cp ?_ | refine W.ixa ?_ | refine W.sk ?_ | refine W.lsR (by assumption) ?_ | refine W.laR (by assumption) ?_ | refine W.eb ?_ | refine W.nb ?_ | refine W.ci ?_ | refine W.cv ?_ | refine W.s01 ?_ | refine W.s10 ?_ | refine W.s11 ?_ | refine W.s10e ?_ | refine W.sar ?_ | refine W.bs0 fun b_ => ?_ | refine W.ma fun b_ => ?_ | refine W.ex ?_ | refine W.bsl fun b_ => ?_ | refine W.mk ?_ | refine W.ett ?_ | refine W.est ?_ | refine W.nst ?_ | refine W.shl ?_ | refine W.shr ?_ | refine W.bnot ?_ | refine W.ng ?_ | refine W.ai ?_ | refine SW.seq ?_ | refine SW.region ?_ | refine SW.block ?_ | refine SW.cond_t rfl ?_ | refine SW.cond_f rfl ?_ | refine SW.exit ?_ | refine SW.ret ?_ | refine SW.skip ?_))
                refine HandF.mk (j + 1) ?_ (hr := ?_)
                · omega
                · rw [hA2, hC2]
                  (repeat' first | exact trivial | refine And.intro rfl ?_)
          · have hCz : (c || (ks.take (j + 1)).any (unl t)) = (true || unl t k) := by rw [hC, ← Bool.or_assoc, hCl]
            by_cases hkt : k = t
            · have hA2 : ((ks.take (j + 1)).any fun k => decide (k = t)) = true := by rw [hA]; simp [hkt]
              have hC2 : (c || (ks.take (j + 1)).any (unl t)) = true := by rw [hCz]; simp [unl, hkt]
              (repeat' (first | refine W.cst (fun w2 hs => hrk.srcAt hs) ?_ | refine W.cst (fun w2 hs => hrt.srcAt hs) ?_ | refine W.esT ?_ hkt | refine W.nsF ?_ hkt | refine W.mv ?_ | refine W.ls ?_ | refine W.fa ?_ | refine W.nl ?_ | refine W.as ?_ | refine W.ct ?_ | refine W.cf ?_ | refine W.ad ?_ | refine W.sb ?_ | refine W.ml ?_ | refine W.st ?_ | refine SL.nilB ?_ | refine SL.nil ?_ | refine W.ln ?_ | refine W.ix ?_ | refine W.lw ?_ | refine W.la ?_ | refine W.al fun b_ => ?_ | refine W.bx fun b_ => ?_ | refine W.bxa fun b_ => ?_ | refine W.sw ?_ | refine W.sa ?_ | refine W.pkt ?_ | refine W.pkf ?_ | refine W.ua ?_ | refine W.en ?_ | refine W.nn ?_ | refine W.es ?_ | refine W.ns ?_ | refine W.nt ?_ | refine W.fs ?_ | refine W.fg ?_ | refine W.bd ?_ | refine W.bda ?_ | refine W.mf ?_ | refine W.mx ?_ | refine W.mn ?_ | refine W.qu ?_ | refine W.rm ?_ | refine W.lr ?_ | refine W.lt ?_ | refine W.cp ?_ | refine W.ixa ?_ | refine W.sk ?_ | refine W.lsR (by assumption) ?_ | refine W.laR (by assumption) ?_ | refine W.eb ?_ | refine W.nb ?_ | refine W.ci ?_ | refine W.cv ?_ | refine W.s01 ?_ | refine W.s10 ?_ | refine W.s11 ?_ | refine W.s10e ?_ | refine W.sar ?_ | refine W.bs0 fun b_ => ?_ | refine W.ma fun b_ => ?_ | refine W.ex ?_ | refine W.bsl fun b_ => ?_ | refine W.mk ?_ | refine W.ett ?_ | refine W.est ?_ | refine W.nst ?_ | refine W.shl ?_ | refine W.shr ?_ | refine W.bnot ?_ | refine W.ng ?_ | refine W.ai ?_ | refine SW.seq ?_ | refine SW.region ?_ | refine SW.block ?_ | refine SW.cond_t rfl ?_ | refine SW.cond_f rfl ?_ | refine SW.exit ?_ | refine SW.ret ?_ | refine SW.skip ?_))
              refine HandF.mk (j + 1) ?_ (hr := ?_)
              · omega
              · rw [hA2, hC2]
                (repeat' first | exact trivial | refine And.intro rfl ?_)
            · have hA2 : ((ks.take (j + 1)).any fun k => decide (k = t)) = true := by rw [hA]; simp [hkt]
              have hC2 : (c || (ks.take (j + 1)).any (unl t)) = true := by rw [hCz]; simp
              (repeat' (first | refine W.cst (fun w2 hs => hrk.srcAt hs) ?_ | refine W.cst (fun w2 hs => hrt.srcAt hs) ?_ | refine W.esF ?_ hkt | refine W.nsT ?_ hkt | refine W.mv ?_ | refine W.ls ?_ | refine W.fa ?_ | refine W.nl ?_ | refine W.as ?_ | refine W.ct ?_ | refine W.cf ?_ | refine W.ad ?_ | refine W.sb ?_ | refine W.ml ?_ | refine W.st ?_ | refine SL.nilB ?_ | refine SL.nil ?_ | refine W.ln ?_ | refine W.ix ?_ | refine W.lw ?_ | refine W.la ?_ | refine W.al fun b_ => ?_ | refine W.bx fun b_ => ?_ | refine W.bxa fun b_ => ?_ | refine W.sw ?_ | refine W.sa ?_ | refine W.pkt ?_ | refine W.pkf ?_ | refine W.ua ?_ | refine W.en ?_ | refine W.nn ?_ | refine W.es ?_ | refine W.ns ?_ | refine W.nt ?_ | refine W.fs ?_ | refine W.fg ?_ | refine W.bd ?_ | refine W.bda ?_ | refine W.mf ?_ | refine W.mx ?_ | refine W.mn ?_ | refine W.qu ?_ | refine W.rm ?_ | refine W.lr ?_ | refine W.lt ?_ | refine W.cp ?_ | refine W.ixa ?_ | refine W.sk ?_ | refine W.lsR (by assumption) ?_ | refine W.laR (by assumption) ?_ | refine W.eb ?_ | refine W.nb ?_ | refine W.ci ?_ | refine W.cv ?_ | refine W.s01 ?_ | refine W.s10 ?_ | refine W.s11 ?_ | refine W.s10e ?_ | refine W.sar ?_ | refine W.bs0 fun b_ => ?_ | refine W.ma fun b_ => ?_ | refine W.ex ?_ | refine W.bsl fun b_ => ?_ | refine W.mk ?_ | refine W.ett ?_ | refine W.est ?_ | refine W.nst ?_ | refine W.shl ?_ | refine W.shr ?_ | refine W.bnot ?_ | refine W.ng ?_ | refine W.ai ?_ | refine SW.seq ?_ | refine SW.region ?_ | refine SW.block ?_ | refine SW.cond_t rfl ?_ | refine SW.cond_f rfl ?_ | refine SW.exit ?_ | refine SW.ret ?_ | refine SW.skip ?_))
              refine HandF.mk (j + 1) ?_ (hr := ?_)
              · omega
              · rw [hA2, hC2]
                (repeat' first | exact trivial | refine And.intro rfl ?_)
        · have : j = kl := by omega
          subst this
          rw [List.take_of_length_le (by omega)]
          (repeat' (first | refine W.mv ?_ | refine W.ls ?_ | refine W.fa ?_ | refine W.nl ?_ | refine W.as ?_ | refine W.ct ?_ | refine W.cf ?_ | refine W.ad ?_ | refine W.sb ?_ | refine W.ml ?_ | refine W.st ?_ | refine SL.nilB ?_ | refine SL.nil ?_ | refine W.ln ?_ | refine W.ix ?_ | refine W.lw ?_ | refine W.la ?_ | refine W.al fun b_ => ?_ | refine W.bx fun b_ => ?_ | refine W.bxa fun b_ => ?_ | refine W.sw ?_ | refine W.sa ?_ | refine W.pkt ?_ | refine W.pkf ?_ | refine W.ua ?_ | refine W.en ?_ | refine W.nn ?_ | refine W.es ?_ | refine W.ns ?_ | refine W.nt ?_ | refine W.fs ?_ | refine W.fg ?_ | refine W.bd ?_ | refine W.bda ?_ | refine W.mf ?_ | refine W.mx ?_ | refine W.mn ?_ | refine W.qu ?_ | refine W.rm ?_ | refine W.lr ?_ | refine W.lt ?_ | refine W.cp ?_ | refine W.ixa ?_ | refine W.sk ?_ | refine W.lsR (by assumption) ?_ | refine W.laR (by assumption) ?_ | refine W.eb ?_ | refine W.nb ?_ | refine W.ci ?_ | refine W.cv ?_ | refine W.s01 ?_ | refine W.s10 ?_ | refine W.s11 ?_ | refine W.s10e ?_ | refine W.sar ?_ | refine W.bs0 fun b_ => ?_ | refine W.ma fun b_ => ?_ | refine W.ex ?_ | refine W.bsl fun b_ => ?_ | refine W.mk ?_ | refine W.ett ?_ | refine W.est ?_ | refine W.nst ?_ | refine W.shl ?_ | refine W.shr ?_ | refine W.bnot ?_ | refine W.ng ?_ | refine W.ai ?_ | refine SW.seq ?_ | refine SW.region ?_ | refine SW.block ?_ | refine SW.cond_t rfl ?_ | refine SW.cond_f rfl ?_ | refine SW.exit ?_ | refine SW.ret ?_ | refine SW.skip ?_))
          refine CutF.mk () ?_
          trivial
      rintro _ -
      cases hth : ks.any fun k => decide (k = t) with
      | true =>
        have hq : kof (ts.take (i + 1)) = (ks, c || ks.any (unl t)) := by rw [hkn]; unfold kstep; dsimp only; rw [hth, if_pos rfl]
        (repeat' (first | refine W.mv ?_ | refine W.ls ?_ | refine W.fa ?_ | refine W.nl ?_ | refine W.as ?_ | refine W.ct ?_ | refine W.cf ?_ | refine W.ad ?_ | refine W.sb ?_ | refine W.ml ?_ | refine W.st ?_ | refine SL.nilB ?_ | refine SL.nil ?_ | refine W.ln ?_ | refine W.ix ?_ | refine W.lw ?_ | refine W.la ?_ | refine W.al fun b_ => ?_ | refine W.bx fun b_ => ?_ | refine W.bxa fun b_ => ?_ | refine W.sw ?_ | refine W.sa ?_ | refine W.pkt ?_ | refine W.pkf ?_ | refine W.ua ?_ | refine W.en ?_ | refine W.nn ?_ | refine W.es ?_ | refine W.ns ?_ | refine W.nt ?_ | refine W.fs ?_ | refine W.fg ?_ | refine W.bd ?_ | refine W.bda ?_ | refine W.mf ?_ | refine W.mx ?_ | refine W.mn ?_ | refine W.qu ?_ | refine W.rm ?_ | refine W.lr ?_ | refine W.lt ?_ | refine W.cp ?_ | refine W.ixa ?_ | refine W.sk ?_ | refine W.lsR (by assumption) ?_ | refine W.laR (by assumption) ?_ | refine W.eb ?_ | refine W.nb ?_ | refine W.ci ?_ | refine W.cv ?_ | refine W.s01 ?_ | refine W.s10 ?_ | refine W.s11 ?_ | refine W.s10e ?_ | refine W.sar ?_ | refine W.bs0 fun b_ => ?_ | refine W.ma fun b_ => ?_ | refine W.ex ?_ | refine W.bsl fun b_ => ?_ | refine W.mk ?_ | refine W.ett ?_ | refine W.est ?_ | refine W.nst ?_ | refine W.shl ?_ | refine W.shr ?_ | refine W.bnot ?_ | refine W.ng ?_ | refine W.ai ?_ | refine SW.seq ?_ | refine SW.region ?_ | refine SW.block ?_ | refine SW.cond_t rfl ?_ | refine SW.cond_f rfl ?_ | refine SW.exit ?_ | refine SW.ret ?_ | refine SW.skip ?_))
        refine HandF.mk (i + 1, .slice ka kl kc, kvs, Hk) ?_ (hr := ?_)
        · rw [hq]; exact ⟨by omega, hv, hrow⟩
        · dsimp only
          rw [hq]
          (repeat' first | exact trivial | refine And.intro rfl ?_)
      | false =>
        have hq : kof (ts.take (i + 1)) = (ks ++ [t], c || ks.any (unl t)) := by rw [hkn]; unfold kstep; dsimp only; rw [hth, if_neg (by simp)]
        have hb1 : bfill (fun i => some (i * 1, 1)) (zs [.slice none 0 0] 1) [(0, .slice a len cap)] = some [.slice a len cap] := rfl
        (repeat' (first | refine W.mv ?_ | refine W.ls ?_ | refine W.fa ?_ | refine W.nl ?_ | refine W.as ?_ | refine W.ct ?_ | refine W.cf ?_ | refine W.ad ?_ | refine W.sb ?_ | refine W.ml ?_ | refine W.st ?_ | refine SL.nilB ?_ | refine SL.nil ?_ | refine W.ln ?_ | refine W.ix ?_ | refine W.lw ?_ | refine W.la ?_ | refine W.al fun b_ => ?_ | refine W.bx fun b_ => ?_ | refine W.bxa fun b_ => ?_ | refine W.sw ?_ | refine W.sa ?_ | refine W.pkt ?_ | refine W.pkf ?_ | refine W.ua ?_ | refine W.en ?_ | refine W.nn ?_ | refine W.es ?_ | refine W.ns ?_ | refine W.nt ?_ | refine W.fs ?_ | refine W.fg ?_ | refine W.bd ?_ | refine W.bda ?_ | refine W.mf ?_ | refine W.mx ?_ | refine W.mn ?_ | refine W.qu ?_ | refine W.rm ?_ | refine W.lr ?_ | refine W.lt ?_ | refine W.cp ?_ | refine W.ixa ?_ | refine W.sk ?_ | refine W.lsR (by assumption) ?_ | refine W.laR (by assumption) ?_ | refine W.eb ?_ | refine W.nb ?_ | refine W.ci ?_ | refine W.cv ?_ | refine W.s01 ?_ | refine W.s10 ?_ | refine W.s11 ?_ | refine W.s10e ?_ | refine W.sar ?_ | refine W.bs0 fun b_ => ?_ | refine W.ma fun b_ => ?_ | refine W.ex ?_ | refine W.bsl fun b_ => ?_ | refine W.mk ?_ | refine W.ett ?_ | refine W.est ?_ | refine W.nst ?_ | refine W.shl ?_ | refine W.shr ?_ | refine W.bnot ?_ | refine W.ng ?_ | refine W.ai ?_ | refine SW.seq ?_ | refine SW.region ?_ | refine SW.block ?_ | refine SW.cond_t rfl ?_ | refine SW.cond_f rfl ?_ | refine SW.exit ?_ | refine SW.ret ?_ | refine SW.skip ?_))
        refine W.ap hv (ys := [.slice a len cap]) (mm := 1) (fun w2 hs => SrcOf.block (l := [.slice a len cap]) hs.at rfl rfl) (fun v2 H2 h2 => ?_) (hys := rfl) (hbytes := by rw [List.length_singleton]; omega)
        have h21 := h2.isOne
        (repeat' (first | refine W.mv ?_ | refine W.ls ?_ | refine W.fa ?_ | refine W.nl ?_ | refine W.as ?_ | refine W.ct ?_ | refine W.cf ?_ | refine W.ad ?_ | refine W.sb ?_ | refine W.ml ?_ | refine W.st ?_ | refine SL.nilB ?_ | refine SL.nil ?_ | refine W.ln ?_ | refine W.ix ?_ | refine W.lw ?_ | refine W.la ?_ | refine W.al fun b_ => ?_ | refine W.bx fun b_ => ?_ | refine W.bxa fun b_ => ?_ | refine W.sw ?_ | refine W.sa ?_ | refine W.pkt ?_ | refine W.pkf ?_ | refine W.ua ?_ | refine W.en ?_ | refine W.nn ?_ | refine W.es ?_ | refine W.ns ?_ | refine W.nt ?_ | refine W.fs ?_ | refine W.fg ?_ | refine W.bd ?_ | refine W.bda ?_ | refine W.mf ?_ | refine W.mx ?_ | refine W.mn ?_ | refine W.qu ?_ | refine W.rm ?_ | refine W.lr ?_ | refine W.lt ?_ | refine W.cp ?_ | refine W.ixa ?_ | refine W.sk ?_ | refine W.lsR (by assumption) ?_ | refine W.laR (by assumption) ?_ | refine W.eb ?_ | refine W.nb ?_ | refine W.ci ?_ | refine W.cv ?_ | refine W.s01 ?_ | refine W.s10 ?_ | refine W.s11 ?_ | refine W.s10e ?_ | refine W.sar ?_ | refine W.bs0 fun b_ => ?_ | refine W.ma fun b_ => ?_ | refine W.ex ?_ | refine W.bsl fun b_ => ?_ | refine W.mk ?_ | refine W.ett ?_ | refine W.est ?_ | refine W.nst ?_ | refine W.shl ?_ | refine W.shr ?_ | refine W.bnot ?_ | refine W.ng ?_ | refine W.ai ?_ | refine SW.seq ?_ | refine SW.region ?_ | refine SW.block ?_ | refine SW.cond_t rfl ?_ | refine SW.cond_f rfl ?_ | refine SW.exit ?_ | refine SW.ret ?_ | refine SW.skip ?_))
        refine HandF.mk (i + 1, v2, kvs ++ [.slice a len cap], H2) ?_ (hr := ?_)
        · rw [hq]; exact ⟨by omega, h2, hrow.app hrt⟩
        · dsimp only
          rw [hq]
          (repeat' first | exact trivial | refine And.intro rfl ?_)
    · have hi2 : i = pl := by omega
      subst hi2
      have hall : ts.take i = ts := List.take_of_length_le (by omega)
      rw [hall] at hrow ⊢
      (repeat' (first | refine W.mv ?_ | refine W.ls ?_ | refine W.fa ?_ | refine W.nl ?_ | refine W.as ?_ | refine W.ct ?_ | refine W.cf ?_ | refine W.ad ?_ | refine W.sb ?_ | refine W.ml ?_ | refine W.st ?_ | refine SL.nilB ?_ | refine SL.nil ?_ | refine W.ln ?_ | refine W.ix ?_ | refine W.lw ?_ | refine W.la ?_ | refine W.al fun b_ => ?_ | refine W.bx fun b_ => ?_ | refine W.bxa fun b_ => ?_ | refine W.sw ?_ | refine W.sa ?_ | refine W.pkt ?_ | refine W.pkf ?_ | refine W.ua ?_ | refine W.en ?_ | refine W.nn ?_ | refine W.es ?_ | refine W.ns ?_ | refine W.nt ?_ | refine W.fs ?_ | refine W.fg ?_ | refine W.bd ?_ | refine W.bda ?_ | refine W.mf ?_ | refine W.mx ?_ | refine W.mn ?_ | refine W.qu ?_ | refine W.rm ?_ | refine W.lr ?_ | refine W.lt ?_ | refine W.cp ?_ | refine W.ixa ?_ | refine W.sk ?_ | refine W.lsR (by assumption) ?_ | refine W.laR (by assumption) ?_ | refine W.eb ?_ | refine W.nb ?_ | refine W.ci ?_ | refine W.cv ?_ | refine W.s01 ?_ | refine W.s10 ?_ | refine W.s11 ?_ | refine W.s10e ?_ | refine W.sar ?_ | refine W.bs0 fun b_ => ?_ | refine W.ma fun b_ => ?_ | refine W.ex ?_ | refine W.bsl fun b_ => ?_ | refine W.mk ?_ | refine W.ett ?_ | refine W.est ?_ | refine W.nst ?_ | refine W.shl ?_ | refine W.shr ?_ | refine W.bnot ?_ | refine W.ng ?_ | refine W.ai ?_ | refine SW.seq ?_ | refine SW.region ?_ | refine SW.block ?_ | refine SW.cond_t rfl ?_ | refine SW.cond_f rfl ?_ | refine SW.exit ?_ | refine SW.ret ?_ | refine SW.skip ?_))
      refine CutF.mk (kv, kvs, Hk) ?_
      exact ⟨hv, hrow⟩
  rintro ⟨kv, kvs, Hk⟩ ⟨hv, hrow⟩
  dsimp only at hv hrow ⊢
  obtain ⟨ka, kl, kc, rfl, hkvl⟩ := hv.form
  have hkk : (kof ts).1.length = kl := by rw [← hrow.len]; omega
  rw [hkk]
  (repeat' (first | refine W.mv ?_ | refine W.ls ?_ | refine W.fa ?_ | refine W.nl ?_ | refine W.as ?_ | refine W.ct ?_ | refine W.cf ?_ | refine W.ad ?_ | refine W.sb ?_ | refine W.ml ?_ | refine W.st ?_ | refine SL.nilB ?_ | refine SL.nil ?_ | refine W.ln ?_ | refine W.ix ?_ | refine W.lw ?_ | refine W.la ?_ | refine W.al fun b_ => ?_ | refine W.bx fun b_ => ?_ | refine W.bxa fun b_ => ?_ | refine W.sw ?_ | refine W.sa ?_ | refine W.pkt ?_ | refine W.pkf ?_ | refine W.ua ?_ | refine W.en ?_ | refine W.nn ?_ | refine W.es ?_ | refine W.ns ?_ | refine W.nt ?_ | refine W.fs ?_ | refine W.fg ?_ | refine W.bd ?_ | refine W.bda ?_ | refine W.mf ?_ | refine W.mx ?_ | refine W.mn ?_ | refine W.qu ?_ | refine W.rm ?_ | refine W.lr ?_ | refine W.lt ?_ | refine W.cp ?_ | refine W.ixa ?_ | refine W.sk ?_ | refine W.lsR (by assumption) ?_ | refine W.laR (by assumption) ?_ | refine W.eb ?_ | refine W.nb ?_ | refine W.ci ?_ | refine W.cv ?_ | refine W.s01 ?_ | refine W.s10 ?_ | refine W.s11 ?_ | refine W.s10e ?_ | refine W.sar ?_ | refine W.bs0 fun b_ => ?_ | refine W.ma fun b_ => ?_ | refine W.ex ?_ | refine W.bsl fun b_ => ?_ | refine W.mk ?_ | refine W.ett ?_ | refine W.est ?_ | refine W.nst ?_ | refine W.shl ?_ | refine W.shr ?_ | refine W.bnot ?_ | refine W.ng ?_ | refine W.ai ?_ | refine SW.seq ?_ | refine SW.region ?_ | refine SW.block ?_ | refine SW.cond_t rfl ?_ | refine SW.cond_f rfl ?_ | refine SW.exit ?_ | refine SW.ret ?_ | refine SW.skip ?_))
  exact F.f2 rfl
/-- A slice of byte slices of one's own. -/
def AllP (av : Value) (ts : List (List UInt8)) (H : Hp) : Prop := ∃ vs Hall Hx, H = Hall ++ Hx ∧ Sl 33 1 av vs Hall ∧ vs.length = ts.length ∧ ∀ (j : Nat) (t : List UInt8), ts[j]? = some t → ∃ v, vs[j]? = some v ∧ RdH Hx v t
theorem AllP.rds {K : List Nat} {w0 w : World} {H Ha r : Hp} {av : Value} {ts : List (List UInt8)} (h : AllP av ts Ha) (hs : St K w0 H w) (hp : Part H Ha r) : RdS [] w av ts := by
  obtain ⟨vs, Hall, Hx, rfl, h1, h2, h3⟩ := h
  have p1 : Part H ([] ++ Hall) (Hx ++ r) := ⟨by have := hp.perm; simpa using this⟩
  have p2 : Part H ([] ++ Hx) (Hall ++ r) := ⟨by
    refine hp.perm.trans ?_
    rw [List.nil_append, ← List.append_assoc]
    exact List.Perm.append_right r List.perm_append_comm⟩
  refine ⟨vs, Rd.own (Hc := []) h1 hs p1, h2, fun i bs hi => ?_⟩
  obtain ⟨v, h4, h5⟩ := h3 i bs hi
  have h6 := h5.rd (Hc := []) hs (hp := p2)
  obtain ⟨a, len, cap, rfl, -⟩ := id h6
  exact ⟨a, len, cap, h4, h6⟩
theorem AllP.app {v2 tv : Value} {ts : List (List UInt8)} {t : List UInt8} {vs : List Value} {Hx H2 Ht : Hp} (h2 : vs.length = ts.length) (h3 : ∀ (j : Nat) (t : List UInt8), ts[j]? = some t → ∃ v, vs[j]? = some v ∧ RdH Hx v t) (hv2 : Sl 33 1 v2 (vs ++ [tv]) H2) (ht : RdH Ht tv t) : AllP v2 (ts ++ [t]) (H2 ++ (Hx ++ Ht)) := by
  refine ⟨vs ++ [tv], H2, Hx ++ Ht, rfl, hv2, by simp [h2], fun j k hj => ?_⟩
  by_cases hlt : j < ts.length
  · rw [List.getElem?_append_left hlt] at hj
    obtain ⟨v, h4, h5⟩ := h3 j k hj
    exact ⟨v, by rw [List.getElem?_append_left (by omega)]; exact h4, h5.mono fun y hy => List.mem_append_left _ hy⟩
  · have hj2 : j = ts.length := by
      have := (List.getElem?_eq_some_iff.1 hj).1
      simp at this; omega
    subst hj2
    simp at hj
    subst hj
    exact ⟨tv, by rw [← h2]; simp, ht.mono fun y hy => List.mem_append_right _ hy⟩
theorem keeps_law (a : Option Addr) (len cap : Nat) (ys : List Value) : Tri Try.prog 11 [.slice a len cap] [] (fun w => TxsR w a len cap ys) (fun v _ => v = .bool true) := by
  refine Tri.mk Try.func11 rfl Try.ntmps11 rfl fun w hw => ?_
  have hmax : len ≤ maxLen := hw.le
  have hmax2 : maxLen ≤ 9223372036854775807 := by decide
  (repeat' (first | refine W.mv ?_ | refine W.ls ?_ | refine W.fa ?_ | refine W.nl ?_ | refine W.as ?_ | refine W.ct ?_ | refine W.cf ?_ | refine W.ad ?_ | refine W.sb ?_ | refine W.ml ?_ | refine W.st ?_ | refine SL.nilB ?_ | refine SL.nil ?_ | refine W.ln ?_ | refine W.ix ?_ | refine W.lw ?_ | refine W.la ?_ | refine W.al fun b_ => ?_ | refine W.bx fun b_ => ?_ | refine W.bxa fun b_ => ?_ | refine W.sw ?_ | refine W.sa ?_ | refine W.pkt ?_ | refine W.pkf ?_ | refine W.ua ?_ | refine W.en ?_ | refine W.nn ?_ | refine W.es ?_ | refine W.ns ?_ | refine W.nt ?_ | refine W.fs ?_ | refine W.fg ?_ | refine W.bd ?_ | refine W.bda ?_ | refine W.mf ?_ | refine W.mx ?_ | refine W.mn ?_ | refine W.qu ?_ | refine W.rm ?_ | refine W.lr ?_ | refine W.lt ?_ | refine W.cp ?_ | refine W.ixa ?_ | refine W.sk ?_ | refine W.lsR (by assumption) ?_ | refine W.laR (by assumption) ?_ | refine W.eb ?_ | refine W.nb ?_ | refine W.ci ?_ | refine W.cv ?_ | refine W.s01 ?_ | refine W.s10 ?_ | refine W.s11 ?_ | refine W.s10e ?_ | refine W.sar ?_ | refine W.bs0 fun b_ => ?_ | refine W.ma fun b_ => ?_ | refine W.ex ?_ | refine W.bsl fun b_ => ?_ | refine W.mk ?_ | refine W.ett ?_ | refine W.est ?_ | refine W.nst ?_ | refine W.shl ?_ | refine W.shr ?_ | refine W.bnot ?_ | refine W.ng ?_ | refine W.ai ?_ | refine SW.seq ?_ | refine SW.region ?_ | refine SW.cond_t rfl ?_ | refine SW.cond_f rfl ?_ | refine SW.exit ?_ | refine SW.ret ?_ | refine SW.skip ?_))
  refine W.call make_p ?_
  rintro _ _ ⟨tp, rfl, rfl⟩
  (repeat' (first | refine W.mv ?_ | refine W.ls ?_ | refine W.fa ?_ | refine W.nl ?_ | refine W.as ?_ | refine W.ct ?_ | refine W.cf ?_ | refine W.ad ?_ | refine W.sb ?_ | refine W.ml ?_ | refine W.st ?_ | refine SL.nilB ?_ | refine SL.nil ?_ | refine W.ln ?_ | refine W.ix ?_ | refine W.lw ?_ | refine W.la ?_ | refine W.al fun b_ => ?_ | refine W.bx fun b_ => ?_ | refine W.bxa fun b_ => ?_ | refine W.sw ?_ | refine W.sa ?_ | refine W.pkt ?_ | refine W.pkf ?_ | refine W.ua ?_ | refine W.en ?_ | refine W.nn ?_ | refine W.es ?_ | refine W.ns ?_ | refine W.nt ?_ | refine W.fs ?_ | refine W.fg ?_ | refine W.bd ?_ | refine W.bda ?_ | refine W.mf ?_ | refine W.mx ?_ | refine W.mn ?_ | refine W.qu ?_ | refine W.rm ?_ | refine W.lr ?_ | refine W.lt ?_ | refine W.cp ?_ | refine W.ixa ?_ | refine W.sk ?_ | refine W.lsR (by assumption) ?_ | refine W.laR (by assumption) ?_ | refine W.eb ?_ | refine W.nb ?_ | refine W.ci ?_ | refine W.cv ?_ | refine W.s01 ?_ | refine W.s10 ?_ | refine W.s11 ?_ | refine W.s10e ?_ | refine W.sar ?_ | refine W.bs0 fun b_ => ?_ | refine W.ma fun b_ => ?_ | refine W.ex ?_ | refine W.bsl fun b_ => ?_ | refine W.mk ?_ | refine W.ett ?_ | refine W.est ?_ | refine W.nst ?_ | refine W.shl ?_ | refine W.shr ?_ | refine W.bnot ?_ | refine W.ng ?_ | refine W.ai ?_ | refine SW.seq ?_ | refine SW.region ?_ | refine SW.cond_t rfl ?_ | refine SW.cond_f rfl ?_ | refine SW.exit ?_ | refine SW.ret ?_ | refine SW.skip ?_))
  refine W.call (BNew_p tp) ?_
  rintro _ B0 ⟨b, rfl, hB0⟩
  (repeat' (first | refine W.mv ?_ | refine W.ls ?_ | refine W.fa ?_ | refine W.nl ?_ | refine W.as ?_ | refine W.ct ?_ | refine W.cf ?_ | refine W.ad ?_ | refine W.sb ?_ | refine W.ml ?_ | refine W.st ?_ | refine SL.nilB ?_ | refine SL.nil ?_ | refine W.ln ?_ | refine W.ix ?_ | refine W.lw ?_ | refine W.la ?_ | refine W.al fun b_ => ?_ | refine W.bx fun b_ => ?_ | refine W.bxa fun b_ => ?_ | refine W.sw ?_ | refine W.sa ?_ | refine W.pkt ?_ | refine W.pkf ?_ | refine W.ua ?_ | refine W.en ?_ | refine W.nn ?_ | refine W.es ?_ | refine W.ns ?_ | refine W.nt ?_ | refine W.fs ?_ | refine W.fg ?_ | refine W.bd ?_ | refine W.bda ?_ | refine W.mf ?_ | refine W.mx ?_ | refine W.mn ?_ | refine W.qu ?_ | refine W.rm ?_ | refine W.lr ?_ | refine W.lt ?_ | refine W.cp ?_ | refine W.ixa ?_ | refine W.sk ?_ | refine W.lsR (by assumption) ?_ | refine W.laR (by assumption) ?_ | refine W.eb ?_ | refine W.nb ?_ | refine W.ci ?_ | refine W.cv ?_ | refine W.s01 ?_ | refine W.s10 ?_ | refine W.s11 ?_ | refine W.s10e ?_ | refine W.sar ?_ | refine W.bs0 fun b_ => ?_ | refine W.ma fun b_ => ?_ | refine W.ex ?_ | refine W.bsl fun b_ => ?_ | refine W.mk ?_ | refine W.ett ?_ | refine W.est ?_ | refine W.nst ?_ | refine W.shl ?_ | refine W.shr ?_ | refine W.bnot ?_ | refine W.ng ?_ | refine W.ai ?_ | refine SW.seq ?_ | refine SW.region ?_ | refine SW.cond_t rfl ?_ | refine SW.cond_f rfl ?_ | refine SW.exit ?_ | refine SW.ret ?_ | refine SW.skip ?_))
  have hA0 : AllP (.slice none 0 0) [] [] := ⟨[], [], [], rfl, Sl.nil _ _, rfl, fun j t h => by simp at h⟩
  refine SW.cutH [3] B0 (fun x : List (List UInt8) × Value × Hp × Hp => [(4, x.2.1)]) (fun x => x.2.2.1 ++ x.2.2.2) (fun x => x.1.length ≤ 12 ∧ (∀ t ∈ x.1, t.length ≤ 121) ∧ BookP b tp (Bk.of x.1) x.2.2.2 ∧ AllP x.2.1 x.1 x.2.2.1) ?_ ?_
  · (repeat' (first | refine W.mv ?_ | refine W.ls ?_ | refine W.fa ?_ | refine W.nl ?_ | refine W.as ?_ | refine W.ct ?_ | refine W.cf ?_ | refine W.ad ?_ | refine W.sb ?_ | refine W.ml ?_ | refine W.st ?_ | refine SL.nilB ?_ | refine SL.nil ?_ | refine W.ln ?_ | refine W.ix ?_ | refine W.lw ?_ | refine W.la ?_ | refine W.al fun b_ => ?_ | refine W.bx fun b_ => ?_ | refine W.bxa fun b_ => ?_ | refine W.sw ?_ | refine W.sa ?_ | refine W.pkt ?_ | refine W.pkf ?_ | refine W.ua ?_ | refine W.en ?_ | refine W.nn ?_ | refine W.es ?_ | refine W.ns ?_ | refine W.nt ?_ | refine W.fs ?_ | refine W.fg ?_ | refine W.bd ?_ | refine W.bda ?_ | refine W.mf ?_ | refine W.mx ?_ | refine W.mn ?_ | refine W.qu ?_ | refine W.rm ?_ | refine W.lr ?_ | refine W.lt ?_ | refine W.cp ?_ | refine W.ixa ?_ | refine W.sk ?_ | refine W.lsR (by assumption) ?_ | refine W.laR (by assumption) ?_ | refine W.eb ?_ | refine W.nb ?_ | refine W.ci ?_ | refine W.cv ?_ | refine W.s01 ?_ | refine W.s10 ?_ | refine W.s11 ?_ | refine W.s10e ?_ | refine W.sar ?_ | refine W.bs0 fun b_ => ?_ | refine W.ma fun b_ => ?_ | refine W.ex ?_ | refine W.bsl fun b_ => ?_ | refine W.mk ?_ | refine W.ett ?_ | refine W.est ?_ | refine W.nst ?_ | refine W.shl ?_ | refine W.shr ?_ | refine W.bnot ?_ | refine W.ng ?_ | refine W.ai ?_ | refine SW.seq ?_ | refine SW.region ?_ | refine SW.block ?_ | refine SW.cond_t rfl ?_ | refine SW.cond_f rfl ?_ | refine SW.exit ?_ | refine SW.ret ?_ | refine SW.skip ?_))
    refine SW.loopF (hp := by dsimp only; infer_instance) [3, 14, 15] (fun x : Nat × List (List UInt8) × Value × Hp × Hp => [(4, x.2.2.1), (16, .int .i64 (x.1 : Int))]) (fun x => x.2.2.2.1 ++ x.2.2.2.2) (fun x => 12 - x.1) (fun x => x.1 ≤ 12 ∧ x.1 ≤ len ∧ x.2.1.length = x.1 ∧ (∀ t ∈ x.2.1, t.length ≤ 121) ∧ BookP b tp (Bk.of x.2.1) x.2.2.2.2 ∧ AllP x.2.2.1 x.2.1 x.2.2.2.1) (0, [], .slice none 0 0, [], B0) ⟨by omega, by omega, rfl, by simp, hB0, hA0⟩ ?_
    rintro ⟨i, ts, av, HA, B⟩ ⟨hi, hil, hts, hlen, hB, hA⟩
    dsimp only at hi hil hts hlen hB hA ⊢
    by_cases hlt : i < len
    · obtain ⟨pb, po, l, T, fz, t, rfl, hpb, ht, hcs⟩ := hw.get hlt
      obtain ⟨X, Y, la, lb, hra, hrb, hXl, hYl, hpp⟩ := tx_parts t ht
      have hk : t.cells[0]? = some (.int .u8 (t.k.toNat : Int)) := rfl
      have hl : t.cells.length = 3 := rfl
      have hO : OC t.cells := by unfold Tx.cells; infer_instance
      have hpk : pb ∉ ([] : List Nat) := by simp
      have hXY : [X, Y].flatten = X ++ Y := by simp
      have hln : (X ++ Y).length ≤ 1099511626000 := by rw [List.length_append]; omega
      have hT : (t.k :: (X ++ Y)).length ≤ 121 := by rw [List.length_cons, List.length_append]; omega
      generalize t.cells = Z at hpp hk hl hO hcs ⊢
      by_cases h12 : i < 12
      · obtain ⟨vs, Hall, Hx, rfl, hsl, hvl, hvs⟩ := hA
        have hav := hsl.isOne
        (repeat' (first | refine W.mv ?_ | refine W.ls ?_ | refine W.fa ?_ | refine W.nl ?_ | refine W.as ?_ | refine W.ct ?_ | refine W.cf ?_ | refine W.ad ?_ | refine W.sb ?_ | refine W.ml ?_ | refine W.st ?_ | refine SL.nilB ?_ | refine SL.nil ?_ | refine W.ln ?_ | refine W.ix ?_ | refine W.lw ?_ | refine W.la ?_ | refine W.al fun b_ => ?_ | refine W.bx fun b_ => ?_ | refine W.bxa fun b_ => ?_ | refine W.sw ?_ | refine W.sa ?_ | refine W.pkt ?_ | refine W.pkf ?_ | refine W.ua ?_ | refine W.en ?_ | refine W.nn ?_ | refine W.es ?_ | refine W.ns ?_ | refine W.nt ?_ | refine W.fs ?_ | refine W.fg ?_ | refine W.bd ?_ | refine W.bda ?_ | refine W.mf ?_ | refine W.mx ?_ | refine W.mn ?_ | refine W.qu ?_ | refine W.rm ?_ | refine W.lr ?_ | refine W.lt ?_ | refine W.cp ?_ | refine W.ixa ?_ | refine W.sk ?_ | refine W.lsR (by assumption) ?_ | refine W.laR (by assumption) ?_ | refine W.eb ?_ | refine W.nb ?_ | refine W.ci ?_ | refine W.cv ?_ | refine W.s01 ?_ | refine W.s10 ?_ | refine W.s11 ?_ | refine W.s10e ?_ | refine W.sar ?_ | refine W.bs0 fun b_ => ?_ | refine W.ma fun b_ => ?_ | refine W.ex ?_ | refine W.bsl fun b_ => ?_ | refine W.mk ?_ | refine W.ett ?_ | refine W.est ?_ | refine W.nst ?_ | refine W.shl ?_ | refine W.shr ?_ | refine W.bnot ?_ | refine W.ng ?_ | refine W.ai ?_ | refine SW.seq ?_ | refine SW.region ?_ | refine SW.block ?_ | refine SW.cond_t rfl ?_ | refine SW.cond_f rfl ?_ | refine SW.exit ?_ | refine SW.ret ?_ | refine SW.skip ?_))
        (refine SW.regionS [5] ?_ (by kernel_rfl); refine SS.tw 0 rfl (p_move rfl rfl) ?_; refine SS.tw 1 rfl (p_fieldAddr rfl rfl OfN.ok) ?_; (first | refine SS.ls 2 [5] rfl ?_ | refine SS.tw 2 rfl (p_load_sR rfl rfl (by assumption) (by assumption) (by assumption)) ?_); (first | refine SS.lw 3 [4, 5] rfl ?_ | refine SS.la 3 [4, 5] rfl ?_ | refine SS.tw 3 rfl (p_load_aR rfl rfl (by assumption) (by assumption) (by assumption) (by assumption)) ?_); refine SS.effK 4 ?_ rfl (by kernel_rfl))
        refine W.call hpp ?_
        rintro _ _ ⟨r, rfl, rfl⟩
        (refine SL.nilB ?_; refine SS.effB 5 ?_ rfl (by kernel_rfl))
        refine W.call (BSum_p hB t.k (.slice (some ⟨r, 0, none⟩) 2 2) [X, Y] (by rw [hXY]; exact hln) (by simp)) ?_ (hpre := fun w2 hs => ?_)
        rotate_left
        · exact RdS.at (T := 33) (fz := (0, 0)) (Hc := B) (vs := [.slice t.a la t.ca, .slice t.b lb t.cb]) (bss := [X, Y]) hs rfl (Nat.le_refl _) rfl (two_at rfl (hra.ro (Hc := B) hs) (hrb.ro (Hc := B) hs))
        rw [hXY]
        rintro _ B1 ⟨rfl, hB1⟩
        (refine SL.nilB ?_; refine SS.done ?_ (by kernel_rfl))
        (refine SW.regionS [5, 6, 7] ?_ (by kernel_rfl); refine SS.tw 0 rfl (p_move rfl rfl) ?_; refine SS.tw 1 rfl (p_fieldAddr rfl rfl OfN.ok) ?_; (first | refine SS.ls 2 [5, 6, 7] rfl ?_ | refine SS.tw 2 rfl (p_load_sR rfl rfl (by assumption) (by assumption) (by assumption)) ?_); (first | refine SS.lw 3 [4, 5, 6, 7] rfl ?_ | refine SS.la 3 [4, 5, 6, 7] rfl ?_ | refine SS.tw 3 rfl (p_load_aR rfl rfl (by assumption) (by assumption) (by assumption) (by assumption)) ?_); refine SS.effK 4 ?_ rfl (by kernel_rfl))
        refine W.call hpp ?_
        rintro _ _ ⟨r2, rfl, rfl⟩
        (refine SL.nilB ?_; refine SS.effB 5 ?_ rfl (by kernel_rfl))
        refine W.call (RText_p t.k (.slice (some ⟨r2, 0, none⟩) 2 2) [X, Y] (by rw [hXY]; exact hln) (by simp)) ?_ (hpre := fun w2 hs => ?_)
        rotate_left
        · exact RdS.at (T := 33) (fz := (0, 0)) (Hc := []) (vs := [.slice t.a la t.ca, .slice t.b lb t.cb]) (bss := [X, Y]) hs rfl (Nat.le_refl _) rfl (two_at rfl (hra.ro (Hc := []) hs) (hrb.ro (Hc := []) hs))
        rw [hXY]
        intro v1 V1 hv1
        have hv11 := hv1.isOne
        obtain ⟨va, vl, vc, rfl, hvl2⟩ := hv1.form
        (refine SL.nilB ?_; refine SS.effB 6 ?_ rfl (by kernel_rfl))
        refine W.bsl (rv := [.slice va vl vc]) (fun b6 => ?_) (hr := rfl)
        (refine SL.nilB ?_; refine SS.effB 7 ?_ rfl (by kernel_rfl))
        refine W.ap hsl (ys := [.slice va vl vc]) (mm := 1) (fun w2 hs => SrcOf.block (l := [.slice va vl vc]) hs.at rfl rfl) (fun v2 H2 h2 => ?_) (hys := rfl) (hbytes := by rw [List.length_singleton]; omega)
        have h21 := h2.isOne
        (refine SL.nilB ?_; refine SS.tw 8 rfl (p_assign rfl rfl) ?_; refine SS.done ?_ (by kernel_rfl))
        (repeat' (first | refine W.mv ?_ | refine W.ls ?_ | refine W.fa ?_ | refine W.nl ?_ | refine W.as ?_ | refine W.ct ?_ | refine W.cf ?_ | refine W.ad ?_ | refine W.sb ?_ | refine W.ml ?_ | refine W.st ?_ | refine SL.nilB ?_ | refine SL.nil ?_ | refine W.ln ?_ | refine W.ix ?_ | refine W.lw ?_ | refine W.la ?_ | refine W.al fun b_ => ?_ | refine W.bx fun b_ => ?_ | refine W.bxa fun b_ => ?_ | refine W.sw ?_ | refine W.sa ?_ | refine W.pkt ?_ | refine W.pkf ?_ | refine W.ua ?_ | refine W.en ?_ | refine W.nn ?_ | refine W.es ?_ | refine W.ns ?_ | refine W.nt ?_ | refine W.fs ?_ | refine W.fg ?_ | refine W.bd ?_ | refine W.bda ?_ | refine W.mf ?_ | refine W.mx ?_ | refine W.mn ?_ | refine W.qu ?_ | refine W.rm ?_ | refine W.lr ?_ | refine W.lt ?_ | refine W.cp ?_ | refine W.ixa ?_ | refine W.sk ?_ | refine W.lsR (by assumption) ?_ | refine W.laR (by assumption) ?_ | refine W.eb ?_ | refine W.nb ?_ | refine W.ci ?_ | refine W.cv ?_ | refine W.s01 ?_ | refine W.s10 ?_ | refine W.s11 ?_ | refine W.s10e ?_ | refine W.sar ?_ | refine W.bs0 fun b_ => ?_ | refine W.ma fun b_ => ?_ | refine W.ex ?_ | refine W.bsl fun b_ => ?_ | refine W.mk ?_ | refine W.ett ?_ | refine W.est ?_ | refine W.nst ?_ | refine W.shl ?_ | refine W.shr ?_ | refine W.bnot ?_ | refine W.ng ?_ | refine W.ai ?_ | refine SW.seq ?_ | refine SW.region ?_ | refine SW.block ?_ | refine SW.cond_t rfl ?_ | refine SW.cond_f rfl ?_ | refine SW.exit ?_ | refine SW.ret ?_ | refine SW.skip ?_))
        refine HandF.mk (i + 1, ts ++ [t.k :: (X ++ Y)], v2, H2 ++ (Hx ++ V1), B1) ?_
        refine ⟨by dsimp only; omega, by dsimp only; omega, by simp [hts], ?_, ?_, AllP.app hvl hvs h2 (RdH.of hv1)⟩
        · intro u hu
          rcases List.mem_append.1 hu with hu | hu
          · exact hlen u hu
          · rw [List.mem_singleton] at hu; subst hu; exact hT
        · dsimp only
          rw [Bk.of_app]
          exact hB1
      · have hz : i = 12 := by omega
        (repeat' (first | refine W.mv ?_ | refine W.ls ?_ | refine W.fa ?_ | refine W.nl ?_ | refine W.as ?_ | refine W.ct ?_ | refine W.cf ?_ | refine W.ad ?_ | refine W.sb ?_ | refine W.ml ?_ | refine W.st ?_ | refine SL.nilB ?_ | refine SL.nil ?_ | refine W.ln ?_ | refine W.ix ?_ | refine W.lw ?_ | refine W.la ?_ | refine W.al fun b_ => ?_ | refine W.bx fun b_ => ?_ | refine W.bxa fun b_ => ?_ | refine W.sw ?_ | refine W.sa ?_ | refine W.pkt ?_ | refine W.pkf ?_ | refine W.ua ?_ | refine W.en ?_ | refine W.nn ?_ | refine W.es ?_ | refine W.ns ?_ | refine W.nt ?_ | refine W.fs ?_ | refine W.fg ?_ | refine W.bd ?_ | refine W.bda ?_ | refine W.mf ?_ | refine W.mx ?_ | refine W.mn ?_ | refine W.qu ?_ | refine W.rm ?_ | refine W.lr ?_ | refine W.lt ?_ | refine W.cp ?_ | refine W.ixa ?_ | refine W.sk ?_ | refine W.lsR (by assumption) ?_ | refine W.laR (by assumption) ?_ | refine W.eb ?_ | refine W.nb ?_ | refine W.ci ?_ | refine W.cv ?_ | refine W.s01 ?_ | refine W.s10 ?_ | refine W.s11 ?_ | refine W.s10e ?_ | refine W.sar ?_ | refine W.bs0 fun b_ => ?_ | refine W.ma fun b_ => ?_ | refine W.ex ?_ | refine W.bsl fun b_ => ?_ | refine W.mk ?_ | refine W.ett ?_ | refine W.est ?_ | refine W.nst ?_ | refine W.shl ?_ | refine W.shr ?_ | refine W.bnot ?_ | refine W.ng ?_ | refine W.ai ?_ | refine SW.seq ?_ | refine SW.region ?_ | refine SW.block ?_ | refine SW.cond_t rfl ?_ | refine SW.cond_f rfl ?_ | refine SW.exit ?_ | refine SW.ret ?_ | refine SW.skip ?_))
        refine CutF.mk (ts, av, HA, B) ?_
        exact ⟨by dsimp only; omega, hlen, hB, hA⟩
    · have : i = len := by omega
      subst this
      (repeat' (first | refine W.mv ?_ | refine W.ls ?_ | refine W.fa ?_ | refine W.nl ?_ | refine W.as ?_ | refine W.ct ?_ | refine W.cf ?_ | refine W.ad ?_ | refine W.sb ?_ | refine W.ml ?_ | refine W.st ?_ | refine SL.nilB ?_ | refine SL.nil ?_ | refine W.ln ?_ | refine W.ix ?_ | refine W.lw ?_ | refine W.la ?_ | refine W.al fun b_ => ?_ | refine W.bx fun b_ => ?_ | refine W.bxa fun b_ => ?_ | refine W.sw ?_ | refine W.sa ?_ | refine W.pkt ?_ | refine W.pkf ?_ | refine W.ua ?_ | refine W.en ?_ | refine W.nn ?_ | refine W.es ?_ | refine W.ns ?_ | refine W.nt ?_ | refine W.fs ?_ | refine W.fg ?_ | refine W.bd ?_ | refine W.bda ?_ | refine W.mf ?_ | refine W.mx ?_ | refine W.mn ?_ | refine W.qu ?_ | refine W.rm ?_ | refine W.lr ?_ | refine W.lt ?_ | refine W.cp ?_ | refine W.ixa ?_ | refine W.sk ?_ | refine W.lsR (by assumption) ?_ | refine W.laR (by assumption) ?_ | refine W.eb ?_ | refine W.nb ?_ | refine W.ci ?_ | refine W.cv ?_ | refine W.s01 ?_ | refine W.s10 ?_ | refine W.s11 ?_ | refine W.s10e ?_ | refine W.sar ?_ | refine W.bs0 fun b_ => ?_ | refine W.ma fun b_ => ?_ | refine W.ex ?_ | refine W.bsl fun b_ => ?_ | refine W.mk ?_ | refine W.ett ?_ | refine W.est ?_ | refine W.nst ?_ | refine W.shl ?_ | refine W.shr ?_ | refine W.bnot ?_ | refine W.ng ?_ | refine W.ai ?_ | refine SW.seq ?_ | refine SW.region ?_ | refine SW.block ?_ | refine SW.cond_t rfl ?_ | refine SW.cond_f rfl ?_ | refine SW.exit ?_ | refine SW.ret ?_ | refine SW.skip ?_))
      refine CutF.mk (ts, av, HA, B) ?_
      exact ⟨by dsimp only; omega, hlen, hB, hA⟩
  rintro ⟨ts, av, HA, B⟩ ⟨hn, hlen, hB, hA⟩
  dsimp only at hn hlen hB hA ⊢
  obtain ⟨h0, h1, h2⟩ := agree ts.length ts rfl hn
  have hav : One av := by obtain ⟨vs, Hall, Hx, -, hsl, -⟩ := hA; exact hsl.isOne
  (repeat' (first | refine W.mv ?_ | refine W.ls ?_ | refine W.fa ?_ | refine W.nl ?_ | refine W.as ?_ | refine W.ct ?_ | refine W.cf ?_ | refine W.ad ?_ | refine W.sb ?_ | refine W.ml ?_ | refine W.st ?_ | refine SL.nilB ?_ | refine SL.nil ?_ | refine W.ln ?_ | refine W.ix ?_ | refine W.lw ?_ | refine W.la ?_ | refine W.al fun b_ => ?_ | refine W.bx fun b_ => ?_ | refine W.bxa fun b_ => ?_ | refine W.sw ?_ | refine W.sa ?_ | refine W.pkt ?_ | refine W.pkf ?_ | refine W.ua ?_ | refine W.en ?_ | refine W.nn ?_ | refine W.es ?_ | refine W.ns ?_ | refine W.nt ?_ | refine W.fs ?_ | refine W.fg ?_ | refine W.bd ?_ | refine W.bda ?_ | refine W.mf ?_ | refine W.mx ?_ | refine W.mn ?_ | refine W.qu ?_ | refine W.rm ?_ | refine W.lr ?_ | refine W.lt ?_ | refine W.cp ?_ | refine W.ixa ?_ | refine W.sk ?_ | refine W.lsR (by assumption) ?_ | refine W.laR (by assumption) ?_ | refine W.eb ?_ | refine W.nb ?_ | refine W.ci ?_ | refine W.cv ?_ | refine W.s01 ?_ | refine W.s10 ?_ | refine W.s11 ?_ | refine W.s10e ?_ | refine W.sar ?_ | refine W.bs0 fun b_ => ?_ | refine W.ma fun b_ => ?_ | refine W.ex ?_ | refine W.bsl fun b_ => ?_ | refine W.mk ?_ | refine W.ett ?_ | refine W.est ?_ | refine W.nst ?_ | refine W.shl ?_ | refine W.shr ?_ | refine W.bnot ?_ | refine W.ng ?_ | refine W.ai ?_ | refine SW.seq ?_ | refine SW.region ?_ | refine SW.block ?_ | refine SW.cond_t rfl ?_ | refine SW.cond_f rfl ?_ | refine SW.exit ?_ | refine SW.ret ?_ | refine SW.skip ?_))
  refine W.call (Kept_p av ts hn (fun t ht => Nat.le_trans (hlen t ht) (by decide))) ?_ rfl (fun w2 hs => hA.rds hs inferInstance)
  intro v1 V1 hv1
  subst hv1
  (repeat' (first | refine W.mv ?_ | refine W.ls ?_ | refine W.fa ?_ | refine W.nl ?_ | refine W.as ?_ | refine W.ct ?_ | refine W.cf ?_ | refine W.ad ?_ | refine W.sb ?_ | refine W.ml ?_ | refine W.st ?_ | refine SL.nilB ?_ | refine SL.nil ?_ | refine W.ln ?_ | refine W.ix ?_ | refine W.lw ?_ | refine W.la ?_ | refine W.al fun b_ => ?_ | refine W.bx fun b_ => ?_ | refine W.bxa fun b_ => ?_ | refine W.sw ?_ | refine W.sa ?_ | refine W.pkt ?_ | refine W.pkf ?_ | refine W.ua ?_ | refine W.en ?_ | refine W.nn ?_ | refine W.es ?_ | refine W.ns ?_ | refine W.nt ?_ | refine W.fs ?_ | refine W.fg ?_ | refine W.bd ?_ | refine W.bda ?_ | refine W.mf ?_ | refine W.mx ?_ | refine W.mn ?_ | refine W.qu ?_ | refine W.rm ?_ | refine W.lr ?_ | refine W.lt ?_ | refine W.cp ?_ | refine W.ixa ?_ | refine W.sk ?_ | refine W.lsR (by assumption) ?_ | refine W.laR (by assumption) ?_ | refine W.eb ?_ | refine W.nb ?_ | refine W.ci ?_ | refine W.cv ?_ | refine W.s01 ?_ | refine W.s10 ?_ | refine W.s11 ?_ | refine W.s10e ?_ | refine W.sar ?_ | refine W.bs0 fun b_ => ?_ | refine W.ma fun b_ => ?_ | refine W.ex ?_ | refine W.bsl fun b_ => ?_ | refine W.mk ?_ | refine W.ett ?_ | refine W.est ?_ | refine W.nst ?_ | refine W.shl ?_ | refine W.shr ?_ | refine W.bnot ?_ | refine W.ng ?_ | refine W.ai ?_ | refine SW.seq ?_ | refine SW.region ?_ | refine SW.block ?_ | refine SW.cond_t rfl ?_ | refine SW.cond_f rfl ?_ | refine SW.exit ?_ | refine SW.ret ?_ | refine SW.skip ?_))
  refine W.call (Clash_p hB) ?_
  rintro _ H' (⟨hcl, rfl, hH⟩ | ⟨x, y, vx, vy, Hx, Hy, hcl, rfl, hx, hy, hH⟩)
  all_goals subst hH
  · rw [hcl] at h1
    rw [h1] at h2 ⊢
    obtain ⟨h3, -⟩ := h2 rfl
    rw [h3]
    (repeat' (first | refine W.mv ?_ | refine W.ls ?_ | refine W.fa ?_ | refine W.nl ?_ | refine W.as ?_ | refine W.ct ?_ | refine W.cf ?_ | refine W.ad ?_ | refine W.sb ?_ | refine W.ml ?_ | refine W.st ?_ | refine SL.nilB ?_ | refine SL.nil ?_ | refine W.ln ?_ | refine W.ix ?_ | refine W.lw ?_ | refine W.la ?_ | refine W.al fun b_ => ?_ | refine W.bx fun b_ => ?_ | refine W.bxa fun b_ => ?_ | refine W.sw ?_ | refine W.sa ?_ | refine W.pkt ?_ | refine W.pkf ?_ | refine W.ua ?_ | refine W.en ?_ | refine W.nn ?_ | refine W.es ?_ | refine W.ns ?_ | refine W.nt ?_ | refine W.fs ?_ | refine W.fg ?_ | refine W.bd ?_ | refine W.bda ?_ | refine W.mf ?_ | refine W.mx ?_ | refine W.mn ?_ | refine W.qu ?_ | refine W.rm ?_ | refine W.lr ?_ | refine W.lt ?_ | refine W.cp ?_ | refine W.ixa ?_ | refine W.sk ?_ | refine W.lsR (by assumption) ?_ | refine W.laR (by assumption) ?_ | refine W.eb ?_ | refine W.nb ?_ | refine W.ci ?_ | refine W.cv ?_ | refine W.s01 ?_ | refine W.s10 ?_ | refine W.s11 ?_ | refine W.s10e ?_ | refine W.sar ?_ | refine W.bs0 fun b_ => ?_ | refine W.ma fun b_ => ?_ | refine W.ex ?_ | refine W.bsl fun b_ => ?_ | refine W.mk ?_ | refine W.ett ?_ | refine W.est ?_ | refine W.nst ?_ | refine W.shl ?_ | refine W.shr ?_ | refine W.bnot ?_ | refine W.ng ?_ | refine W.ai ?_ | refine SW.seq ?_ | refine SW.region ?_ | refine SW.block ?_ | refine SW.cond_t rfl ?_ | refine SW.cond_f rfl ?_ | refine SW.exit ?_ | refine SW.ret ?_ | refine SW.skip ?_))
    refine W.call (BLen_p hB) ?_
    rintro _ _ ⟨rfl, rfl⟩
    (repeat' (first | refine W.mv ?_ | refine W.ls ?_ | refine W.fa ?_ | refine W.nl ?_ | refine W.as ?_ | refine W.ct ?_ | refine W.cf ?_ | refine W.ad ?_ | refine W.sb ?_ | refine W.ml ?_ | refine W.st ?_ | refine SL.nilB ?_ | refine SL.nil ?_ | refine W.ln ?_ | refine W.ix ?_ | refine W.lw ?_ | refine W.la ?_ | refine W.al fun b_ => ?_ | refine W.bx fun b_ => ?_ | refine W.bxa fun b_ => ?_ | refine W.sw ?_ | refine W.sa ?_ | refine W.pkt ?_ | refine W.pkf ?_ | refine W.ua ?_ | refine W.en ?_ | refine W.nn ?_ | refine W.es ?_ | refine W.ns ?_ | refine W.nt ?_ | refine W.fs ?_ | refine W.fg ?_ | refine W.bd ?_ | refine W.bda ?_ | refine W.mf ?_ | refine W.mx ?_ | refine W.mn ?_ | refine W.qu ?_ | refine W.rm ?_ | refine W.lr ?_ | refine W.lt ?_ | refine W.cp ?_ | refine W.ixa ?_ | refine W.sk ?_ | refine W.lsR (by assumption) ?_ | refine W.laR (by assumption) ?_ | refine W.eb ?_ | refine W.nb ?_ | refine W.ci ?_ | refine W.cv ?_ | refine W.s01 ?_ | refine W.s10 ?_ | refine W.s11 ?_ | refine W.s10e ?_ | refine W.sar ?_ | refine W.bs0 fun b_ => ?_ | refine W.ma fun b_ => ?_ | refine W.ex ?_ | refine W.bsl fun b_ => ?_ | refine W.mk ?_ | refine W.ett ?_ | refine W.est ?_ | refine W.nst ?_ | refine W.shl ?_ | refine W.shr ?_ | refine W.bnot ?_ | refine W.ng ?_ | refine W.ai ?_ | refine SW.seq ?_ | refine SW.region ?_ | refine SW.block ?_ | refine SW.cond_t rfl ?_ | refine SW.cond_f rfl ?_ | refine SW.exit ?_ | refine SW.ret ?_ | refine SW.skip ?_))
    refine W.call awake4_p ?_
    rintro _ _ ⟨rfl, rfl⟩
    (repeat' (first | refine W.mv ?_ | refine W.ls ?_ | refine W.fa ?_ | refine W.nl ?_ | refine W.as ?_ | refine W.ct ?_ | refine W.cf ?_ | refine W.ad ?_ | refine W.sb ?_ | refine W.ml ?_ | refine W.st ?_ | refine SL.nilB ?_ | refine SL.nil ?_ | refine W.ln ?_ | refine W.ix ?_ | refine W.lw ?_ | refine W.la ?_ | refine W.al fun b_ => ?_ | refine W.bx fun b_ => ?_ | refine W.bxa fun b_ => ?_ | refine W.sw ?_ | refine W.sa ?_ | refine W.pkt ?_ | refine W.pkf ?_ | refine W.ua ?_ | refine W.en ?_ | refine W.nn ?_ | refine W.es ?_ | refine W.ns ?_ | refine W.nt ?_ | refine W.fs ?_ | refine W.fg ?_ | refine W.bd ?_ | refine W.bda ?_ | refine W.mf ?_ | refine W.mx ?_ | refine W.mn ?_ | refine W.qu ?_ | refine W.rm ?_ | refine W.lr ?_ | refine W.lt ?_ | refine W.cp ?_ | refine W.ixa ?_ | refine W.sk ?_ | refine W.lsR (by assumption) ?_ | refine W.laR (by assumption) ?_ | refine W.eb ?_ | refine W.nb ?_ | refine W.ci ?_ | refine W.cv ?_ | refine W.s01 ?_ | refine W.s10 ?_ | refine W.s11 ?_ | refine W.s10e ?_ | refine W.sar ?_ | refine W.bs0 fun b_ => ?_ | refine W.ma fun b_ => ?_ | refine W.ex ?_ | refine W.bsl fun b_ => ?_ | refine W.mk ?_ | refine W.ett ?_ | refine W.est ?_ | refine W.nst ?_ | refine W.shl ?_ | refine W.shr ?_ | refine W.bnot ?_ | refine W.ng ?_ | refine W.ai ?_ | refine SW.seq ?_ | refine SW.region ?_ | refine SW.block ?_ | refine SW.cond_t rfl ?_ | refine SW.cond_f rfl ?_ | refine SW.exit ?_ | refine SW.ret ?_ | refine SW.skip ?_))
    refine Fin.to [] ?_
    exact F.f1 rfl
  · rw [hcl] at h1
    rw [h1]
    have hx1 := hx.isOne
    have hy1 := hy.isOne
    (repeat' (first | refine W.mv ?_ | refine W.ls ?_ | refine W.fa ?_ | refine W.nl ?_ | refine W.as ?_ | refine W.ct ?_ | refine W.cf ?_ | refine W.ad ?_ | refine W.sb ?_ | refine W.ml ?_ | refine W.st ?_ | refine SL.nilB ?_ | refine SL.nil ?_ | refine W.ln ?_ | refine W.ix ?_ | refine W.lw ?_ | refine W.la ?_ | refine W.al fun b_ => ?_ | refine W.bx fun b_ => ?_ | refine W.bxa fun b_ => ?_ | refine W.sw ?_ | refine W.sa ?_ | refine W.pkt ?_ | refine W.pkf ?_ | refine W.ua ?_ | refine W.en ?_ | refine W.nn ?_ | refine W.es ?_ | refine W.ns ?_ | refine W.nt ?_ | refine W.fs ?_ | refine W.fg ?_ | refine W.bd ?_ | refine W.bda ?_ | refine W.mf ?_ | refine W.mx ?_ | refine W.mn ?_ | refine W.qu ?_ | refine W.rm ?_ | refine W.lr ?_ | refine W.lt ?_ | refine W.cp ?_ | refine W.ixa ?_ | refine W.sk ?_ | refine W.lsR (by assumption) ?_ | refine W.laR (by assumption) ?_ | refine W.eb ?_ | refine W.nb ?_ | refine W.ci ?_ | refine W.cv ?_ | refine W.s01 ?_ | refine W.s10 ?_ | refine W.s11 ?_ | refine W.s10e ?_ | refine W.sar ?_ | refine W.bs0 fun b_ => ?_ | refine W.ma fun b_ => ?_ | refine W.ex ?_ | refine W.bsl fun b_ => ?_ | refine W.mk ?_ | refine W.ett ?_ | refine W.est ?_ | refine W.nst ?_ | refine W.shl ?_ | refine W.shr ?_ | refine W.bnot ?_ | refine W.ng ?_ | refine W.ai ?_ | refine SW.seq ?_ | refine SW.region ?_ | refine SW.block ?_ | refine SW.cond_t rfl ?_ | refine SW.cond_f rfl ?_ | refine SW.exit ?_ | refine SW.ret ?_ | refine SW.skip ?_))
    refine W.call awake4_p ?_
    rintro _ _ ⟨rfl, rfl⟩
    (repeat' (first | refine W.mv ?_ | refine W.ls ?_ | refine W.fa ?_ | refine W.nl ?_ | refine W.as ?_ | refine W.ct ?_ | refine W.cf ?_ | refine W.ad ?_ | refine W.sb ?_ | refine W.ml ?_ | refine W.st ?_ | refine SL.nilB ?_ | refine SL.nil ?_ | refine W.ln ?_ | refine W.ix ?_ | refine W.lw ?_ | refine W.la ?_ | refine W.al fun b_ => ?_ | refine W.bx fun b_ => ?_ | refine W.bxa fun b_ => ?_ | refine W.sw ?_ | refine W.sa ?_ | refine W.pkt ?_ | refine W.pkf ?_ | refine W.ua ?_ | refine W.en ?_ | refine W.nn ?_ | refine W.es ?_ | refine W.ns ?_ | refine W.nt ?_ | refine W.fs ?_ | refine W.fg ?_ | refine W.bd ?_ | refine W.bda ?_ | refine W.mf ?_ | refine W.mx ?_ | refine W.mn ?_ | refine W.qu ?_ | refine W.rm ?_ | refine W.lr ?_ | refine W.lt ?_ | refine W.cp ?_ | refine W.ixa ?_ | refine W.sk ?_ | refine W.lsR (by assumption) ?_ | refine W.laR (by assumption) ?_ | refine W.eb ?_ | refine W.nb ?_ | refine W.ci ?_ | refine W.cv ?_ | refine W.s01 ?_ | refine W.s10 ?_ | refine W.s11 ?_ | refine W.s10e ?_ | refine W.sar ?_ | refine W.bs0 fun b_ => ?_ | refine W.ma fun b_ => ?_ | refine W.ex ?_ | refine W.bsl fun b_ => ?_ | refine W.mk ?_ | refine W.ett ?_ | refine W.est ?_ | refine W.nst ?_ | refine W.shl ?_ | refine W.shr ?_ | refine W.bnot ?_ | refine W.ng ?_ | refine W.ai ?_ | refine SW.seq ?_ | refine SW.region ?_ | refine SW.block ?_ | refine SW.cond_t rfl ?_ | refine SW.cond_f rfl ?_ | refine SW.exit ?_ | refine SW.ret ?_ | refine SW.skip ?_))
    refine Fin.to [] ?_
    exact F.f1 rfl
end Go.Proofs.Ytpdokachnmlhlaa
