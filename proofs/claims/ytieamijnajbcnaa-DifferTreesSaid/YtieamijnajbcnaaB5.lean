/- What a book's clash is; a book of few texts that has none keeps them apart. -/
import Derived.Test.YtieamijnajbcnaaD5
set_option linter.unusedVariables false
set_option linter.unusedSimpArgs false
namespace Go.Proofs.Ytieamijnajbcnaa
open Go
attribute [local irreducible] SW SL SQ SH SA SS Pu Fin CutF HandF

instance arrEq : EqB Try.prog 24 32 where
  guard := by kernel_rfl
  row := inferInstance
  ok := ⟨_, Try.underlying24, Try.underlying5, by kernel_rfl, inferInstance⟩
structure Bk.Inv (s : Bk) : Prop where
  len : ∀ k ∈ s.kept, k.length ≤ 121
  cl : ∀ x y, s.clash = some (x, y) → x ≠ y ∧ Sha.sum x = Sha.sum y ∧ x.length ≤ 121 ∧ y.length ≤ 121
theorem Bk.Inv.new : Bk.new.Inv := ⟨by simp [Bk.new], by simp [Bk.new]⟩
theorem Bk.Inv.add {s : Bk} (h : s.Inv) (t : List UInt8) (ht : t.length ≤ 121) : (s.add t).Inv := by
  unfold Bk.add
  cases hf : s.kept.find? fun k => decide (Sha.sum t = Sha.sum k) with
  | none =>
    dsimp only
    split
    · refine ⟨fun k hk => ?_, h.cl⟩
      rcases List.mem_append.1 hk with hk | hk
      · exact h.len k hk
      · rw [List.mem_singleton] at hk; subst hk; exact ht
    · exact h
  | some old =>
    have hm := List.mem_of_find?_eq_some hf
    have hs := List.find?_some hf
    simp only [decide_eq_true_eq] at hs
    dsimp only
    split
    · rename_i hc
      refine ⟨h.len, fun x y hxy => ?_⟩
      simp only [Option.some.injEq, Prod.mk.injEq] at hxy
      obtain ⟨rfl, rfl⟩ := hxy
      exact ⟨hc.1, hs.symm, h.len _ hm, ht⟩
    · exact h
theorem Clash_p {b tp : Nat} {s : Bk} {H : Hp} (hB : BookP b tp s H) : Tri Try.prog 28 [.pointer (some ⟨b, 0, none⟩)] H (fun _ => True)
    (fun v H' => (s.clash = none ∧ v = .tuple #[.slice none 0 0, .slice none 0 0, .bool false] ∧ H' = H) ∨ ∃ x y vx vy Hx Hy, s.clash = some (x, y) ∧ v = .tuple #[vx, vy, .bool true] ∧ Sl 5 1 vx (cbs x) Hx ∧ Sl 5 1 vy (cbs y) Hy ∧ H' = Hx ++ (Hy ++ H)) := by
  obtain ⟨m, kt, cp, Ht, rfl, hk, hr, hc⟩ := hB
  refine Tri.mk Try.func28 rfl Try.ntmps28 rfl fun w hw => ?_
  cases hcl : s.clash with
  | none =>
    rw [hcl] at hc
    have hcp : cp = none := hc
    subst hcp
    (repeat' (first | refine W.mv ?_ | refine W.zl ?_ | refine W.fa ?_ | refine W.nl ?_ | refine W.as ?_ | refine W.zb ?_ | refine W.za ?_ | refine W.zi ?_ | refine W.zc ?_ | refine W.zp ?_ | refine W.st ?_ | refine SL.nilB ?_ | refine SL.nil ?_ | refine W.al fun b_ => ?_ | refine W.bx fun b_ => ?_ | refine W.bxa fun b_ => ?_ | refine W.sw ?_ | refine W.sa ?_ | refine W.sk ?_ | refine W.bs0 fun b_ => ?_ | refine W.ma fun b_ => ?_ | refine W.bsl fun b_ => ?_ | refine W.zu ?_ | refine W.zf ?_ | refine W.zd ?_ | refine W.zs ?_ | refine W.zv ?_ | refine W.zx ?_ | refine W.ex ?_ | refine W.mf ?_ | refine W.mk ?_ | refine SW.seq ?_ | refine SW.region ?_ | refine SW.block ?_ | refine SW.cond_t rfl ?_ | refine SW.cond_f rfl ?_ | refine SW.exit ?_ | refine SW.ret ?_ | refine SW.skip ?_))
    exact F.f3 (.inl ⟨rfl, rfl, rfl⟩)
  | some q =>
    obtain ⟨x, y⟩ := q
    rw [hcl] at hc
    obtain ⟨c, vx, vy, rfl, hmem, hx, hy, hxl, hyl⟩ := hc
    haveI : At Ht c (cl [vx, vy] 99) := ⟨hmem⟩
    have hx1 := hx.one
    have hy1 := hy.one
    (repeat' (first | refine W.mv ?_ | refine W.zl ?_ | refine W.fa ?_ | refine W.nl ?_ | refine W.as ?_ | refine W.zb ?_ | refine W.za ?_ | refine W.zi ?_ | refine W.zc ?_ | refine W.zp ?_ | refine W.st ?_ | refine SL.nilB ?_ | refine SL.nil ?_ | refine W.al fun b_ => ?_ | refine W.bx fun b_ => ?_ | refine W.bxa fun b_ => ?_ | refine W.sw ?_ | refine W.sa ?_ | refine W.sk ?_ | refine W.bs0 fun b_ => ?_ | refine W.ma fun b_ => ?_ | refine W.bsl fun b_ => ?_ | refine W.zu ?_ | refine W.zf ?_ | refine W.zd ?_ | refine W.zs ?_ | refine W.zv ?_ | refine W.zx ?_ | refine W.ex ?_ | refine W.mf ?_ | refine W.mk ?_ | refine SW.seq ?_ | refine SW.region ?_ | refine SW.block ?_ | refine SW.cond_t rfl ?_ | refine SW.cond_f rfl ?_ | refine SW.exit ?_ | refine SW.ret ?_ | refine SW.skip ?_))
    (refine SW.regionS [15] ?_ (by kernel_rfl); refine SS.tw 0 rfl (p_move rfl rfl) ?_; refine SS.tw 1 rfl (p_nil rfl rfl) ?_; refine SS.tw 2 rfl (p_fieldAddr rfl rfl OfN.ok) ?_; (first | refine SS.ls 3 [4, 5, 6, 7, 15] rfl ?_ | refine SS.tw 3 rfl (p_load_sR rfl rfl (by assumption) (by assumption) (by assumption)) ?_); refine SS.tw 4 rfl (p_nil rfl rfl) ?_; refine SS.tw 5 rfl (p_fieldAddr rfl rfl OfN.ok) ?_; (first | refine SS.ls 6 [7, 15] rfl ?_ | refine SS.tw 6 rfl (p_load_sR rfl rfl (by assumption) (by assumption) (by assumption)) ?_); refine SS.tw 8 rfl (p_move rfl rfl) ?_; refine SS.tw 9 rfl (p_nil rfl rfl) ?_; refine SS.tw 10 rfl (p_fieldAddr rfl rfl OfN.ok) ?_; (first | refine SS.ls 11 [12, 13, 14, 15] rfl ?_ | refine SS.tw 11 rfl (p_load_sR rfl rfl (by assumption) (by assumption) (by assumption)) ?_); refine SS.tw 12 rfl (p_nil rfl rfl) ?_; refine SS.tw 13 rfl (p_fieldAddr rfl rfl OfN.ok) ?_; (first | refine SS.ls 14 [15] rfl ?_ | refine SS.tw 14 rfl (p_load_sR rfl rfl (by assumption) (by assumption) (by assumption)) ?_); refine SS.effK 7 ?_ rfl (by kernel_rfl))
    refine W.call (Clone_p vx x hxl) ?_ rfl (fun w2 hs => hx.rd (Hc := []) hs)
    intro v1 H1 h1
    have h11 := h1.isOne
    (refine SL.nilB ?_; refine SS.effB 15 ?_ rfl (by kernel_rfl))
    refine W.call (Clone_p vy y hyl) ?_ rfl (fun w2 hs => hy.rd (Hc := []) hs)
    intro v2 H2 h2
    have h21 := h2.isOne
    (refine SL.nilB ?_; refine SS.tw 16 rfl (p_assign rfl rfl) ?_; refine SS.tw 17 rfl (p_assign rfl rfl) ?_; refine SS.tw 18 rfl (p_assign rfl rfl) ?_; refine SS.done ?_ (by kernel_rfl))
    (repeat' (first | refine W.mv ?_ | refine W.zl ?_ | refine W.fa ?_ | refine W.nl ?_ | refine W.as ?_ | refine W.zb ?_ | refine W.za ?_ | refine W.zi ?_ | refine W.zc ?_ | refine W.zp ?_ | refine W.st ?_ | refine SL.nilB ?_ | refine SL.nil ?_ | refine W.al fun b_ => ?_ | refine W.bx fun b_ => ?_ | refine W.bxa fun b_ => ?_ | refine W.sw ?_ | refine W.sa ?_ | refine W.sk ?_ | refine W.bs0 fun b_ => ?_ | refine W.ma fun b_ => ?_ | refine W.bsl fun b_ => ?_ | refine W.zu ?_ | refine W.zf ?_ | refine W.zd ?_ | refine W.zs ?_ | refine W.zv ?_ | refine W.zx ?_ | refine W.ex ?_ | refine W.mf ?_ | refine W.mk ?_ | refine SW.seq ?_ | refine SW.region ?_ | refine SW.block ?_ | refine SW.cond_t rfl ?_ | refine SW.cond_f rfl ?_ | refine SW.exit ?_ | refine SW.ret ?_ | refine SW.skip ?_))
    refine Fin.to (H1 ++ (H2 ++ ((b, cl (bkc tp m (some ⟨c, 0, none⟩)) 96) :: (m, mo (kvs kt)) :: (tp, cl tabC 136) :: Ht))) ?_
    exact F.f3 (.inr ⟨x, y, v1, v2, H1, H2, rfl, rfl, h1, h2, rfl⟩)
section
variable {P : Program} {C : Ctx} {Q : Exit → Fr → Hp → Prop} {ρ : Fr} {H : Hp} {L rest : List Oper} {d : Option Tmp} {ty : TypeId} {pos : String} {af : Array Edge} {g : Option (Nat × Bool)} {t t' len : Nat} {d' : Option Nat} {x y : Operand} {a b : List UInt8} {o : Oper}
theorem W.esT (hk : SL P C L Q rest (pt ρ d' (.bool true)) H) (h : a = b) (hx : ev ρ x = some (.string (strV a)) := by exact rfl) (hy : ev ρ y = some (.string (strV b)) := by exact rfl) (hg : gd L ρ ⟨d, .binOp .eql t x y t', ty, pos, af, g⟩ = some true := by exact rfl) (hd : dk C.n d = some d' := by exact rfl) : SL P C L Q (⟨d, .binOp .eql t x y t', ty, pos, af, g⟩ :: rest) ρ H :=
  W.est (by rw [strV_eq, decide_eq_true h]; exact hk) hx hy hg hd
theorem W.esF (hk : SL P C L Q rest (pt ρ d' (.bool false)) H) (h : ¬ a = b) (hx : ev ρ x = some (.string (strV a)) := by exact rfl) (hy : ev ρ y = some (.string (strV b)) := by exact rfl) (hg : gd L ρ ⟨d, .binOp .eql t x y t', ty, pos, af, g⟩ = some true := by exact rfl) (hd : dk C.n d = some d' := by exact rfl) : SL P C L Q (⟨d, .binOp .eql t x y t', ty, pos, af, g⟩ :: rest) ρ H :=
  W.est (by rw [strV_eq, decide_eq_false h]; exact hk) hx hy hg hd
theorem W.nsT (hk : SL P C L Q rest (pt ρ d' (.bool true)) H) (h : ¬ a = b) (hx : ev ρ x = some (.string (strV a)) := by exact rfl) (hy : ev ρ y = some (.string (strV b)) := by exact rfl) (hg : gd L ρ ⟨d, .binOp .neq t x y t', ty, pos, af, g⟩ = some true := by exact rfl) (hd : dk C.n d = some d' := by exact rfl) : SL P C L Q (⟨d, .binOp .neq t x y t', ty, pos, af, g⟩ :: rest) ρ H :=
  W.nst (by rw [strV_eq, decide_eq_false h]; exact hk) hx hy hg hd
theorem W.nsF (hk : SL P C L Q rest (pt ρ d' (.bool false)) H) (h : a = b) (hx : ev ρ x = some (.string (strV a)) := by exact rfl) (hy : ev ρ y = some (.string (strV b)) := by exact rfl) (hg : gd L ρ ⟨d, .binOp .neq t x y t', ty, pos, af, g⟩ = some true := by exact rfl) (hd : dk C.n d = some d' := by exact rfl) : SL P C L Q (⟨d, .binOp .neq t x y t', ty, pos, af, g⟩ :: rest) ρ H :=
  W.nst (by rw [strV_eq, decide_eq_true h]; exact hk) hx hy hg hd
theorem W.eAF [h : EqB P t len] (hk : SL P C L Q rest (pt ρ d' (.bool false)) H) (h1 : a.length = len) (h2 : b.length = len) (he : ¬ a = b) (hx : ev ρ x = some (.agg (cbs a).toArray) := by exact rfl) (hy : ev ρ y = some (.agg (cbs b).toArray) := by exact rfl) (hg : gd L ρ ⟨d, .binOp .eql t x y t', ty, pos, af, g⟩ = some true := by exact rfl) (hd : dk C.n d = some d' := by exact rfl) : SL P C L Q (⟨d, .binOp .eql t x y t', ty, pos, af, g⟩ :: rest) ρ H :=
  SL.pu (p_eqA rfl hx hy h1 h2) hg hd (by rw [decide_eq_false he]; exact hk)
end
theorem Bk.Inv.adds {s : Bk} (h : s.Inv) (ts : List (List UInt8)) (ht : ∀ t ∈ ts, t.length ≤ 121) : (s.adds ts).Inv := by
  unfold Bk.adds
  induction ts generalizing s with
  | nil => exact h
  | cons t ts ih => exact ih (h.add t (ht t (List.mem_cons_self ..))) (fun u hu => ht u (List.mem_cons_of_mem _ hu))
/-- What a book of these texts has, as long as there is no clash. -/
structure Bk.Has (s : Bk) (us : List (List UInt8)) : Prop where
  len : s.kept.length ≤ us.length
  all : s.clash = none → (∀ t ∈ us, t ∈ s.kept) ∧ ∀ x ∈ s.kept, ∀ y ∈ s.kept, Sha.sum x = Sha.sum y → x = y
theorem Bk.Has.add {s : Bk} {us : List (List UInt8)} (h : s.Has us) (t : List UInt8) (hl : us.length < 16384) : (s.add t).Has (us ++ [t]) := by
  have hl2 := h.len
  unfold Bk.add
  cases hf : s.kept.find? fun k => decide (Sha.sum t = Sha.sum k) with
  | none =>
    have hn : ∀ k ∈ s.kept, Sha.sum t ≠ Sha.sum k := fun k hk => by
      have := List.find?_eq_none.1 hf k hk
      simpa using this
    dsimp only
    rw [if_pos (by omega)]
    refine ⟨by simp; omega, fun hc => ?_⟩
    obtain ⟨h1, h2⟩ := h.all hc
    refine ⟨fun u hu => ?_, fun x hx y hy e => ?_⟩
    · rcases List.mem_append.1 hu with hu | hu
      · exact List.mem_append_left _ (h1 u hu)
      · exact List.mem_append_right _ hu
    · rcases List.mem_append.1 hx with hx1 | hx1 <;> rcases List.mem_append.1 hy with hy1 | hy1
      · exact h2 x hx1 y hy1 e
      · rw [List.mem_singleton] at hy1; rw [hy1] at e; exact absurd e.symm (hn x hx1)
      · rw [List.mem_singleton] at hx1; rw [hx1] at e; exact absurd e (hn y hy1)
      · rw [List.mem_singleton] at hx1 hy1; rw [hx1, hy1]
  | some old =>
    have hm := List.mem_of_find?_eq_some hf
    dsimp only
    split
    · exact ⟨by simp; omega, fun hc => by cases hc⟩
    · rename_i hc0
      refine ⟨by simp; omega, fun hc => ?_⟩
      obtain ⟨h1, h2⟩ := h.all hc
      have ho : old = t := by
        by_cases e : old = t
        · exact e
        · exact absurd ⟨e, hc⟩ hc0
      subst ho
      refine ⟨fun u hu => ?_, h2⟩
      rcases List.mem_append.1 hu with hu | hu
      · exact h1 u hu
      · rw [List.mem_singleton] at hu; subst hu; exact hm
theorem Bk.Has.adds {s : Bk} {us : List (List UInt8)} (h : s.Has us) (ts : List (List UInt8)) (hl : us.length + ts.length ≤ 16384) : (s.adds ts).Has (us ++ ts) := by
  unfold Bk.adds
  induction ts generalizing s us with
  | nil => rw [List.append_nil]; exact h
  | cons t ts ih =>
    rw [List.length_cons] at hl
    have := ih (h.add t (by omega)) (by simp; omega)
    rwa [List.append_assoc, List.singleton_append] at this
theorem Bk.Has.new : Bk.new.Has [] := ⟨Nat.le_refl _, fun _ => ⟨by simp, by simp [Bk.new]⟩⟩
/-- No clash: no two unlike texts have one sum. -/
theorem Bk.clear {ts : List (List UInt8)} (hl : ts.length ≤ 16384) (h : (Bk.new.adds ts).clash = none) : ∀ t ∈ ts, ∀ u ∈ ts, Sha.sum t = Sha.sum u → t = u := by
  have := Bk.Has.new.adds ts (by simpa using hl)
  obtain ⟨h1, h2⟩ := this.all h
  rw [List.nil_append] at h1
  exact fun t ht u hu e => h2 t (h1 t ht) u (h1 u hu) e
end Go.Proofs.Ytieamijnajbcnaa
