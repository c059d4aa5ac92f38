/- What is joined, what is the same, copies. The book. The document's Text and Sum of layer 4. -/
import Derived.Test.YtieamijnajbcnaaGreatAE
import Derived.Test.YtieamijnajbcnaaGreatAC
import Derived.Test.YtieamijnajbcnaaGreatAG
set_option linter.unusedVariables false
set_option linter.unusedSimpArgs false
namespace Go.Proofs.YtieamijnajbcnaaGreat
open Go
attribute [local irreducible] SW SL SQ SH SA SS Pu Fin CutF HandF

section
variable {P : Program} {C : Ctx} {ρ : Fr} {H : Hp} {o : Oper} {t e n len cap l h : Nat} {x y : Operand} {a : Option Addr} {k : IntKind} {m : Int}
theorem p_s01g [SliceTy P t e n] [hi : NatI m h] (ho : o.op = .slice t x none (some y) none) (hx : ev ρ x = some (.slice a len cap)) (hy : ev ρ y = some (.int k m)) (hh : h ≤ cap) : Pu P C ρ H o (.slice (sadr a cap 0 n) (h - 0) (cap - 0)) :=
  p_slice (vl := none) (vh := none) ho hx (l := 0) (h := h) (.inl ⟨rfl, rfl⟩) (.inr ⟨y, k, m, rfl, hy, hi.ok⟩) (Nat.zero_le _) hh
end
theorem Grow_p (n : Nat) (hn : n ≤ 1099511627776) : Tri Tryz.prog 105 [.slice none 0 0, .int .i64 (n : Int)] [] (fun _ => True) (fun v H => Sl 5 1 v [] H) := by
  refine Tri.mk Tryz.func105 rfl Tryz.ntmps105 rfl fun w hw => ?_
  haveI i0 : NatI ((n : Int) - (0 - 0)) n := ⟨by omega⟩
  by_cases h : n = 0
  · subst h
    (repeat' (first | refine W.mv ?_ | refine W.zl ?_ | refine W.fa ?_ | refine W.nl ?_ | refine W.as ?_ | refine W.zb ?_ | refine W.za ?_ | refine W.zi ?_ | refine W.zc ?_ | refine W.zp ?_ | refine W.st ?_ | refine SL.nilB ?_ | refine SL.nil ?_ | refine W.al fun b_ => ?_ | refine W.bx fun b_ => ?_ | refine W.bxa fun b_ => ?_ | refine W.sw ?_ | refine W.sa ?_ | refine W.sk ?_ | refine W.bs0 fun b_ => ?_ | refine W.ma fun b_ => ?_ | refine W.bsl fun b_ => ?_ | refine W.zu ?_ | refine W.zf ?_ | refine W.zd ?_ | refine W.zs ?_ | refine W.zv ?_ | refine W.zx ?_ | refine W.ex ?_ | refine W.mf ?_ | refine W.mk ?_ | refine SW.seq ?_ | refine SW.region ?_ | refine SW.block ?_ | refine SW.cond_t rfl ?_ | refine SW.cond_f rfl ?_ | refine SW.exit ?_ | refine SW.ret ?_ | refine SW.skip ?_))
    exact F.f1 (Sl.nil _ _)
  · (repeat' (first | refine W.mv ?_ | refine W.zl ?_ | refine W.fa ?_ | refine W.nl ?_ | refine W.as ?_ | refine W.zb ?_ | refine W.za ?_ | refine W.zi ?_ | refine W.zc ?_ | refine W.zp ?_ | refine W.st ?_ | refine SL.nilB ?_ | refine SL.nil ?_ | refine W.al fun b_ => ?_ | refine W.bx fun b_ => ?_ | refine W.bxa fun b_ => ?_ | refine W.sw ?_ | refine W.sa ?_ | refine W.sk ?_ | refine W.bs0 fun b_ => ?_ | refine W.ma fun b_ => ?_ | refine W.bsl fun b_ => ?_ | refine W.zu ?_ | refine W.zf ?_ | refine W.zd ?_ | refine W.zs ?_ | refine W.zv ?_ | refine W.zx ?_ | refine W.ex ?_ | refine W.mf ?_ | refine W.mk ?_ | refine SW.seq ?_ | refine SW.region ?_ | refine SW.block ?_ | refine SW.cond_t rfl ?_ | refine SW.cond_f rfl ?_ | refine SW.exit ?_ | refine SW.ret ?_ | refine SW.skip ?_))
    refine SL.pu (p_s01g (a := none) (len := 0) (cap := 0) (h := 0) rfl rfl rfl (Nat.le_refl _)) rfl rfl ?_
    (repeat' (first | refine W.mv ?_ | refine W.zl ?_ | refine W.fa ?_ | refine W.nl ?_ | refine W.as ?_ | refine W.zb ?_ | refine W.za ?_ | refine W.zi ?_ | refine W.zc ?_ | refine W.zp ?_ | refine W.st ?_ | refine SL.nilB ?_ | refine SL.nil ?_ | refine W.al fun b_ => ?_ | refine W.bx fun b_ => ?_ | refine W.bxa fun b_ => ?_ | refine W.sw ?_ | refine W.sa ?_ | refine W.sk ?_ | refine W.bs0 fun b_ => ?_ | refine W.ma fun b_ => ?_ | refine W.bsl fun b_ => ?_ | refine W.zu ?_ | refine W.zf ?_ | refine W.zd ?_ | refine W.zs ?_ | refine W.zv ?_ | refine W.zx ?_ | refine W.ex ?_ | refine W.mf ?_ | refine W.mk ?_ | refine SW.seq ?_ | refine SW.region ?_ | refine SW.block ?_ | refine SW.cond_t rfl ?_ | refine SW.cond_f rfl ?_ | refine SW.exit ?_ | refine SW.ret ?_ | refine SW.skip ?_))
    refine W.apz (Sl.nil _ _) (fun v1 H1 h1 => ?_) (hbytes := by simp; omega)
    rcases h1 with ⟨-, h1, -⟩ | ⟨b, len, cap, junk, rfl, hx, hj, hlc, rfl⟩
    · simp at h1; omega
    · have hlen : len = n := by simpa using hx.symm
      subst hlen
      (repeat' (first | refine W.mv ?_ | refine W.zl ?_ | refine W.fa ?_ | refine W.nl ?_ | refine W.as ?_ | refine W.zb ?_ | refine W.za ?_ | refine W.zi ?_ | refine W.zc ?_ | refine W.zp ?_ | refine W.st ?_ | refine SL.nilB ?_ | refine SL.nil ?_ | refine W.al fun b_ => ?_ | refine W.bx fun b_ => ?_ | refine W.bxa fun b_ => ?_ | refine W.sw ?_ | refine W.sa ?_ | refine W.sk ?_ | refine W.bs0 fun b_ => ?_ | refine W.ma fun b_ => ?_ | refine W.bsl fun b_ => ?_ | refine W.zu ?_ | refine W.zf ?_ | refine W.zd ?_ | refine W.zs ?_ | refine W.zv ?_ | refine W.zx ?_ | refine W.ex ?_ | refine W.mf ?_ | refine W.mk ?_ | refine SW.seq ?_ | refine SW.region ?_ | refine SW.block ?_ | refine SW.cond_t rfl ?_ | refine SW.cond_f rfl ?_ | refine SW.exit ?_ | refine SW.ret ?_ | refine SW.skip ?_))
      refine F.f1 ?_
      refine .inr ⟨b, 0, cap, ([] ++ List.replicate len (.int .u8 0)) ++ junk, rfl, rfl, ?_, Nat.zero_le _, by simp⟩
      rw [List.length_append, hx]; omega
theorem Concat_p (v : Value) (bss : List (List UInt8)) (hn : bss.flatten.length ≤ 1099511627776) (hn2 : bss.length ≤ 1099511627776) : Tri Tryz.prog 85 [v] [] (fun w => RdS [] w v bss) (fun v H => Sl 5 1 v (cbs bss.flatten) H) := by
  refine Tri.mk Tryz.func85 rfl Tryz.ntmps85 rfl fun w hw => ?_
  obtain ⟨vs, hR, hvl, hvs⟩ := hw
  obtain ⟨pa, pl, pc, rfl, hpl, hpc, hpr⟩ := hR
  rw [Nat.mul_one] at hpl
  have hbl : bss.length = pl := by omega
  (repeat' (first | refine W.mv ?_ | refine W.zl ?_ | refine W.fa ?_ | refine W.nl ?_ | refine W.as ?_ | refine W.zb ?_ | refine W.za ?_ | refine W.zi ?_ | refine W.zc ?_ | refine W.zp ?_ | refine W.st ?_ | refine SL.nilB ?_ | refine SL.nil ?_ | refine W.al fun b_ => ?_ | refine W.bx fun b_ => ?_ | refine W.bxa fun b_ => ?_ | refine W.sw ?_ | refine W.sa ?_ | refine W.sk ?_ | refine W.bs0 fun b_ => ?_ | refine W.ma fun b_ => ?_ | refine W.bsl fun b_ => ?_ | refine W.zu ?_ | refine W.zf ?_ | refine W.zd ?_ | refine W.zs ?_ | refine W.zv ?_ | refine W.zx ?_ | refine W.ex ?_ | refine W.mf ?_ | refine W.mk ?_ | refine SW.seq ?_ | refine SW.region ?_ | refine SW.cond_t rfl ?_ | refine SW.cond_f rfl ?_ | refine SW.exit ?_ | refine SW.ret ?_ | refine SW.skip ?_))
  refine SW.cut [0] [] (fun _ : Unit => [(3, .int .i64 (bss.flatten.length : Int))]) (fun _ => []) (fun _ => True) ?_ ?_
  · (repeat' (first | refine W.mv ?_ | refine W.zl ?_ | refine W.fa ?_ | refine W.nl ?_ | refine W.as ?_ | refine W.zb ?_ | refine W.za ?_ | refine W.zi ?_ | refine W.zc ?_ | refine W.zp ?_ | refine W.st ?_ | refine SL.nilB ?_ | refine SL.nil ?_ | refine W.al fun b_ => ?_ | refine W.bx fun b_ => ?_ | refine W.bxa fun b_ => ?_ | refine W.sw ?_ | refine W.sa ?_ | refine W.sk ?_ | refine W.bs0 fun b_ => ?_ | refine W.ma fun b_ => ?_ | refine W.bsl fun b_ => ?_ | refine W.zu ?_ | refine W.zf ?_ | refine W.zd ?_ | refine W.zs ?_ | refine W.zv ?_ | refine W.zx ?_ | refine W.ex ?_ | refine W.mf ?_ | refine W.mk ?_ | refine SW.seq ?_ | refine SW.region ?_ | refine SW.block ?_ | refine SW.cond_t rfl ?_ | refine SW.cond_f rfl ?_ | refine SW.exit ?_ | refine SW.ret ?_ | refine SW.skip ?_))
    refine SW.loopG [0, 9, 10] [] (fun i : Nat => [(3, .int .i64 ((bss.take i).flatten.length : Int)), (11, .int .i64 (i : Int))]) (fun _ => []) (fun i => pl - i) (fun i => i ≤ pl) 0 (by omega) ?_
    intro i hi
    by_cases hip : i < pl
    · obtain ⟨bs, hbs⟩ : ∃ bs, bss[i]? = some bs := ⟨_, List.getElem?_eq_getElem (by omega)⟩
      obtain ⟨a, len, cap, hvi, hrd⟩ := hvs i bs hbs
      have hfl := flat_le bss (i + 1)
      have hf2 := take_flat bss hbs
      obtain ⟨pb, po, l, T, fz, rfl, hpb, hpk, hpy⟩ := hpr.resolve_left (by omega)
      have hl : l[po + i]? = some (.slice a len cap) := by
        rw [← hpy, List.getElem?_take, if_pos (by omega), List.getElem?_drop] at hvi
        exact hvi
      obtain ⟨hbsl, hlc⟩ := hrd.len1
      have hNl : ((bss.take (i + 1)).flatten).length = ((bss.take i).flatten).length + len := by rw [hf2, List.length_append, hbsl]
      have hNi : (((bss.take (i + 1)).flatten).length : Int) = (((bss.take i).flatten).length : Int) + len := by omega
      generalize ((bss.take i).flatten).length = N at hNl hNi ⊢
      (repeat' (first | refine W.mv ?_ | refine W.zl ?_ | refine W.fa ?_ | refine W.nl ?_ | refine W.as ?_ | refine W.zb ?_ | refine W.za ?_ | refine W.zi ?_ | refine W.zc ?_ | refine W.zp ?_ | refine W.st ?_ | refine SL.nilB ?_ | refine SL.nil ?_ | refine W.al fun b_ => ?_ | refine W.bx fun b_ => ?_ | refine W.bxa fun b_ => ?_ | refine W.sw ?_ | refine W.sa ?_ | refine W.sk ?_ | refine W.bs0 fun b_ => ?_ | refine W.ma fun b_ => ?_ | refine W.bsl fun b_ => ?_ | refine W.zu ?_ | refine W.zf ?_ | refine W.zd ?_ | refine W.zs ?_ | refine W.zv ?_ | refine W.zx ?_ | refine W.ex ?_ | refine W.mf ?_ | refine W.mk ?_ | refine SW.seq ?_ | refine SW.region ?_ | refine SW.block ?_ | refine SW.cond_t rfl ?_ | refine SW.cond_f rfl ?_ | refine SW.exit ?_ | refine SW.ret ?_ | refine SW.skip ?_))
      rw [← hNi]
      refine HandF.mk (i + 1) ?_
      omega
    · have hi2 : i = pl := by omega
      subst hi2
      have hall : bss.take i = bss := List.take_of_length_le (by omega)
      rw [hall]
      (repeat' (first | refine W.mv ?_ | refine W.zl ?_ | refine W.fa ?_ | refine W.nl ?_ | refine W.as ?_ | refine W.zb ?_ | refine W.za ?_ | refine W.zi ?_ | refine W.zc ?_ | refine W.zp ?_ | refine W.st ?_ | refine SL.nilB ?_ | refine SL.nil ?_ | refine W.al fun b_ => ?_ | refine W.bx fun b_ => ?_ | refine W.bxa fun b_ => ?_ | refine W.sw ?_ | refine W.sa ?_ | refine W.sk ?_ | refine W.bs0 fun b_ => ?_ | refine W.ma fun b_ => ?_ | refine W.bsl fun b_ => ?_ | refine W.zu ?_ | refine W.zf ?_ | refine W.zd ?_ | refine W.zs ?_ | refine W.zv ?_ | refine W.zx ?_ | refine W.ex ?_ | refine W.mf ?_ | refine W.mk ?_ | refine SW.seq ?_ | refine SW.region ?_ | refine SW.block ?_ | refine SW.cond_t rfl ?_ | refine SW.cond_f rfl ?_ | refine SW.exit ?_ | refine SW.ret ?_ | refine SW.skip ?_))
      refine CutF.mk () ?_
      trivial
  rintro _ -
  (repeat' (first | refine W.mv ?_ | refine W.zl ?_ | refine W.fa ?_ | refine W.nl ?_ | refine W.as ?_ | refine W.zb ?_ | refine W.za ?_ | refine W.zi ?_ | refine W.zc ?_ | refine W.zp ?_ | refine W.st ?_ | refine SL.nilB ?_ | refine SL.nil ?_ | refine W.al fun b_ => ?_ | refine W.bx fun b_ => ?_ | refine W.bxa fun b_ => ?_ | refine W.sw ?_ | refine W.sa ?_ | refine W.sk ?_ | refine W.bs0 fun b_ => ?_ | refine W.ma fun b_ => ?_ | refine W.bsl fun b_ => ?_ | refine W.zu ?_ | refine W.zf ?_ | refine W.zd ?_ | refine W.zs ?_ | refine W.zv ?_ | refine W.zx ?_ | refine W.ex ?_ | refine W.mf ?_ | refine W.mk ?_ | refine SW.seq ?_ | refine SW.region ?_ | refine SW.cond_t rfl ?_ | refine SW.cond_f rfl ?_ | refine SW.exit ?_ | refine SW.ret ?_ | refine SW.skip ?_))
  refine W.call (Grow_p bss.flatten.length hn) ?_
  intro v1 H1 h1
  have h11 := h1.isOne
  (repeat' (first | refine W.mv ?_ | refine W.zl ?_ | refine W.fa ?_ | refine W.nl ?_ | refine W.as ?_ | refine W.zb ?_ | refine W.za ?_ | refine W.zi ?_ | refine W.zc ?_ | refine W.zp ?_ | refine W.st ?_ | refine SL.nilB ?_ | refine SL.nil ?_ | refine W.al fun b_ => ?_ | refine W.bx fun b_ => ?_ | refine W.bxa fun b_ => ?_ | refine W.sw ?_ | refine W.sa ?_ | refine W.sk ?_ | refine W.bs0 fun b_ => ?_ | refine W.ma fun b_ => ?_ | refine W.bsl fun b_ => ?_ | refine W.zu ?_ | refine W.zf ?_ | refine W.zd ?_ | refine W.zs ?_ | refine W.zv ?_ | refine W.zx ?_ | refine W.ex ?_ | refine W.mf ?_ | refine W.mk ?_ | refine SW.seq ?_ | refine SW.region ?_ | refine SW.cond_t rfl ?_ | refine SW.cond_f rfl ?_ | refine SW.exit ?_ | refine SW.ret ?_ | refine SW.skip ?_))
  refine SW.cutH [] H1 (fun x : Value × Hp => [(6, x.1)]) (fun x => x.2) (fun x => Sl 5 1 x.1 (cbs bss.flatten) x.2) ?_ ?_
  · (repeat' (first | refine W.mv ?_ | refine W.zl ?_ | refine W.fa ?_ | refine W.nl ?_ | refine W.as ?_ | refine W.zb ?_ | refine W.za ?_ | refine W.zi ?_ | refine W.zc ?_ | refine W.zp ?_ | refine W.st ?_ | refine SL.nilB ?_ | refine SL.nil ?_ | refine W.al fun b_ => ?_ | refine W.bx fun b_ => ?_ | refine W.bxa fun b_ => ?_ | refine W.sw ?_ | refine W.sa ?_ | refine W.sk ?_ | refine W.bs0 fun b_ => ?_ | refine W.ma fun b_ => ?_ | refine W.bsl fun b_ => ?_ | refine W.zu ?_ | refine W.zf ?_ | refine W.zd ?_ | refine W.zs ?_ | refine W.zv ?_ | refine W.zx ?_ | refine W.ex ?_ | refine W.mf ?_ | refine W.mk ?_ | refine SW.seq ?_ | refine SW.region ?_ | refine SW.block ?_ | refine SW.cond_t rfl ?_ | refine SW.cond_f rfl ?_ | refine SW.exit ?_ | refine SW.ret ?_ | refine SW.skip ?_))
    refine SW.loopF [25, 26] (fun x : Nat × Value × Hp => [(6, x.2.1), (27, .int .i64 (x.1 : Int))]) (fun x => x.2.2) (fun x => pl - x.1) (fun x => x.1 ≤ pl ∧ Sl 5 1 x.2.1 (cbs (bss.take x.1).flatten) x.2.2) (0, v1, H1) ⟨by omega, h1⟩ ?_
    rintro ⟨i, v2, H2⟩ ⟨hi, h2⟩
    dsimp only at hi h2 ⊢
    have h21 := h2.isOne
    by_cases hip : i < pl
    · obtain ⟨bs, hbs⟩ : ∃ bs, bss[i]? = some bs := ⟨_, List.getElem?_eq_getElem (by omega)⟩
      obtain ⟨a, len, cap, hvi, hrd⟩ := hvs i bs hbs
      have hfl := flat_le bss (i + 1)
      have hf2 := take_flat bss hbs
      obtain ⟨pb, po, l, T, fz, rfl, hpb, hpk, hpy⟩ := hpr.resolve_left (by omega)
      have hl : l[po + i]? = some (.slice a len cap) := by
        rw [← hpy, List.getElem?_take, if_pos (by omega), List.getElem?_drop] at hvi
        exact hvi
      obtain ⟨hbsl, hlc⟩ := hrd.len1
      have hNl : ((bss.take (i + 1)).flatten).length = ((bss.take i).flatten).length + len := by rw [hf2, List.length_append, hbsl]
      (repeat' (first | refine W.mv ?_ | refine W.zl ?_ | refine W.fa ?_ | refine W.nl ?_ | refine W.as ?_ | refine W.zb ?_ | refine W.za ?_ | refine W.zi ?_ | refine W.zc ?_ | refine W.zp ?_ | refine W.st ?_ | refine SL.nilB ?_ | refine SL.nil ?_ | refine W.al fun b_ => ?_ | refine W.bx fun b_ => ?_ | refine W.bxa fun b_ => ?_ | refine W.sw ?_ | refine W.sa ?_ | refine W.sk ?_ | refine W.bs0 fun b_ => ?_ | refine W.ma fun b_ => ?_ | refine W.bsl fun b_ => ?_ | refine W.zu ?_ | refine W.zf ?_ | refine W.zd ?_ | refine W.zs ?_ | refine W.zv ?_ | refine W.zx ?_ | refine W.ex ?_ | refine W.mf ?_ | refine W.mk ?_ | refine SW.seq ?_ | refine SW.region ?_ | refine SW.block ?_ | refine SW.cond_t rfl ?_ | refine SW.cond_f rfl ?_ | refine SW.exit ?_ | refine SW.ret ?_ | refine SW.skip ?_))
      refine W.ap h2 (fun w2 hs => hrd.srcAt hs) (fun v3 H3 h3 => ?_) (hys := by rw [cbs_len]; omega) (hbytes := by rw [cbs_len, cbs_len]; omega)
      have h31 := h3.isOne
      rw [← cbs_app, ← hf2] at h3
      (repeat' (first | refine W.mv ?_ | refine W.zl ?_ | refine W.fa ?_ | refine W.nl ?_ | refine W.as ?_ | refine W.zb ?_ | refine W.za ?_ | refine W.zi ?_ | refine W.zc ?_ | refine W.zp ?_ | refine W.st ?_ | refine SL.nilB ?_ | refine SL.nil ?_ | refine W.al fun b_ => ?_ | refine W.bx fun b_ => ?_ | refine W.bxa fun b_ => ?_ | refine W.sw ?_ | refine W.sa ?_ | refine W.sk ?_ | refine W.bs0 fun b_ => ?_ | refine W.ma fun b_ => ?_ | refine W.bsl fun b_ => ?_ | refine W.zu ?_ | refine W.zf ?_ | refine W.zd ?_ | refine W.zs ?_ | refine W.zv ?_ | refine W.zx ?_ | refine W.ex ?_ | refine W.mf ?_ | refine W.mk ?_ | refine SW.seq ?_ | refine SW.region ?_ | refine SW.block ?_ | refine SW.cond_t rfl ?_ | refine SW.cond_f rfl ?_ | refine SW.exit ?_ | refine SW.ret ?_ | refine SW.skip ?_))
      refine HandF.mk (i + 1, v3, H3) ?_
      exact ⟨by omega, h3⟩
    · have hi2 : i = pl := by omega
      subst hi2
      have hall : bss.take i = bss := List.take_of_length_le (by omega)
      rw [hall] at h2
      (repeat' (first | refine W.mv ?_ | refine W.zl ?_ | refine W.fa ?_ | refine W.nl ?_ | refine W.as ?_ | refine W.zb ?_ | refine W.za ?_ | refine W.zi ?_ | refine W.zc ?_ | refine W.zp ?_ | refine W.st ?_ | refine SL.nilB ?_ | refine SL.nil ?_ | refine W.al fun b_ => ?_ | refine W.bx fun b_ => ?_ | refine W.bxa fun b_ => ?_ | refine W.sw ?_ | refine W.sa ?_ | refine W.sk ?_ | refine W.bs0 fun b_ => ?_ | refine W.ma fun b_ => ?_ | refine W.bsl fun b_ => ?_ | refine W.zu ?_ | refine W.zf ?_ | refine W.zd ?_ | refine W.zs ?_ | refine W.zv ?_ | refine W.zx ?_ | refine W.ex ?_ | refine W.mf ?_ | refine W.mk ?_ | refine SW.seq ?_ | refine SW.region ?_ | refine SW.block ?_ | refine SW.cond_t rfl ?_ | refine SW.cond_f rfl ?_ | refine SW.exit ?_ | refine SW.ret ?_ | refine SW.skip ?_))
      refine CutF.mk (v2, H2) ?_
      exact h2
  rintro ⟨v2, H2⟩ h2
  dsimp only at h2 ⊢
  have h21 := h2.isOne
  (repeat' (first | refine W.mv ?_ | refine W.zl ?_ | refine W.fa ?_ | refine W.nl ?_ | refine W.as ?_ | refine W.zb ?_ | refine W.za ?_ | refine W.zi ?_ | refine W.zc ?_ | refine W.zp ?_ | refine W.st ?_ | refine SL.nilB ?_ | refine SL.nil ?_ | refine W.al fun b_ => ?_ | refine W.bx fun b_ => ?_ | refine W.bxa fun b_ => ?_ | refine W.sw ?_ | refine W.sa ?_ | refine W.sk ?_ | refine W.bs0 fun b_ => ?_ | refine W.ma fun b_ => ?_ | refine W.bsl fun b_ => ?_ | refine W.zu ?_ | refine W.zf ?_ | refine W.zd ?_ | refine W.zs ?_ | refine W.zv ?_ | refine W.zx ?_ | refine W.ex ?_ | refine W.mf ?_ | refine W.mk ?_ | refine SW.seq ?_ | refine SW.region ?_ | refine SW.block ?_ | refine SW.cond_t rfl ?_ | refine SW.cond_f rfl ?_ | refine SW.exit ?_ | refine SW.ret ?_ | refine SW.skip ?_))
  refine Fin.to H2 ?_
  exact F.f1 h2
theorem Equal_p (va vb : Value) (x y : List UInt8) : Tri Tryz.prog 86 [va, vb] [] (fun w => Rd [] w 1 va (cbs x) ∧ Rd [] w 1 vb (cbs y)) (fun v H => v = .bool (decide (x = y)) ∧ H = []) := by
  refine Tri.mk Tryz.func86 rfl Tryz.ntmps86 rfl fun w hw => ?_
  obtain ⟨h1, h2⟩ := hw
  obtain ⟨a, la, ca, rfl, -⟩ := h1.get
  obtain ⟨b, lb, cb, rfl, -⟩ := h2.get
  (repeat' (first | refine W.mv ?_ | refine W.zl ?_ | refine W.fa ?_ | refine W.nl ?_ | refine W.as ?_ | refine W.zb ?_ | refine W.za ?_ | refine W.zi ?_ | refine W.zc ?_ | refine W.zp ?_ | refine W.st ?_ | refine SL.nilB ?_ | refine SL.nil ?_ | refine W.al fun b_ => ?_ | refine W.bx fun b_ => ?_ | refine W.bxa fun b_ => ?_ | refine W.sw ?_ | refine W.sa ?_ | refine W.sk ?_ | refine W.bs0 fun b_ => ?_ | refine W.ma fun b_ => ?_ | refine W.bsl fun b_ => ?_ | refine W.zu ?_ | refine W.zf ?_ | refine W.zd ?_ | refine W.zs ?_ | refine W.zv ?_ | refine W.zx ?_ | refine W.ex ?_ | refine W.mf ?_ | refine W.mk ?_ | refine SW.seq ?_ | refine SW.region ?_ | refine SW.block ?_ | refine SW.cond_t rfl ?_ | refine SW.cond_f rfl ?_ | refine SW.exit ?_ | refine SW.ret ?_ | refine SW.skip ?_))
  refine W.cst (fun w2 hs => h1.srcAt hs) ?_
  (repeat' (first | refine W.mv ?_ | refine W.zl ?_ | refine W.fa ?_ | refine W.nl ?_ | refine W.as ?_ | refine W.zb ?_ | refine W.za ?_ | refine W.zi ?_ | refine W.zc ?_ | refine W.zp ?_ | refine W.st ?_ | refine SL.nilB ?_ | refine SL.nil ?_ | refine W.al fun b_ => ?_ | refine W.bx fun b_ => ?_ | refine W.bxa fun b_ => ?_ | refine W.sw ?_ | refine W.sa ?_ | refine W.sk ?_ | refine W.bs0 fun b_ => ?_ | refine W.ma fun b_ => ?_ | refine W.bsl fun b_ => ?_ | refine W.zu ?_ | refine W.zf ?_ | refine W.zd ?_ | refine W.zs ?_ | refine W.zv ?_ | refine W.zx ?_ | refine W.ex ?_ | refine W.mf ?_ | refine W.mk ?_ | refine SW.seq ?_ | refine SW.region ?_ | refine SW.block ?_ | refine SW.cond_t rfl ?_ | refine SW.cond_f rfl ?_ | refine SW.exit ?_ | refine SW.ret ?_ | refine SW.skip ?_))
  refine W.cst (fun w2 hs => h2.srcAt hs) ?_
  refine W.est ?_
  rw [strV_eq]
  (repeat' (first | refine W.mv ?_ | refine W.zl ?_ | refine W.fa ?_ | refine W.nl ?_ | refine W.as ?_ | refine W.zb ?_ | refine W.za ?_ | refine W.zi ?_ | refine W.zc ?_ | refine W.zp ?_ | refine W.st ?_ | refine SL.nilB ?_ | refine SL.nil ?_ | refine W.al fun b_ => ?_ | refine W.bx fun b_ => ?_ | refine W.bxa fun b_ => ?_ | refine W.sw ?_ | refine W.sa ?_ | refine W.sk ?_ | refine W.bs0 fun b_ => ?_ | refine W.ma fun b_ => ?_ | refine W.bsl fun b_ => ?_ | refine W.zu ?_ | refine W.zf ?_ | refine W.zd ?_ | refine W.zs ?_ | refine W.zv ?_ | refine W.zx ?_ | refine W.ex ?_ | refine W.mf ?_ | refine W.mk ?_ | refine SW.seq ?_ | refine SW.region ?_ | refine SW.block ?_ | refine SW.cond_t rfl ?_ | refine SW.cond_f rfl ?_ | refine SW.exit ?_ | refine SW.ret ?_ | refine SW.skip ?_))
  exact F.f1 ⟨rfl, rfl⟩
end Go.Proofs.YtieamijnajbcnaaGreat

namespace Go.Proofs.YtieamijnajbcnaaGreat
open Go
attribute [local irreducible] SW SL SQ SH SA SS Pu Fin CutF HandF

section
variable {P : Program} {C : Ctx} {L : List Oper} {Q : Exit → Fr → Hp → Prop} {B : List Nat} {R R' H : Hp} {fuel : Nat} {listed : Array Bool} {ρ : Fr} {o : Oper}
theorem SS.lkA {t len r : Nat} {z : Value} {x y : Operand} {b : List UInt8} {l : List (List UInt8 × Value)} (i : Nat) (Ws : List Nat) (hi : L[i]? = some o) {d' : Option Nat} (hk : SS P C L Q B R' fuel (listed.setIfInBounds i true) (pt ρ d' (.tuple #[(atK l b).getD z, .bool (atK l b).isSome])) H) (hb : b.length = len) (hl : ∀ x ∈ l, x.1.length = len) (hok : canL L B listed i Ws = true := by kernel_rfl) (ho : o.op = .lookup t x y true := by exact rfl) (iM : MapB P t len z := by infer_instance) (hx : ev ρ x = some (.map (some r)) := by exact rfl) (hy : ev ρ y = some (.agg (cbs b).toArray) := by exact rfl) (hat : At H r (mo l) := by infer_instance) (hin : Ins R r (mo l) R' := by infer_instance) (hg : gd L ρ o = some true := by exact rfl) (hd : dk C.n o.dst = some d' := by exact rfl) (hQ : ∀ c ρ H, Q (.panic c) ρ H → False := by exact fun _ _ _ h => Fin.np h) : SS P C L Q B R (fuel + 1) listed ρ H :=
  SS.putL i Ws hi hok hQ hin.ok.2.1 (fun x hx => (hin.ok.2.2 x hx).elim (fun e => .inr (e ▸ hat.mem)) .inl) (fun a hf => .inl ⟨gd_wanted hf hg, fun w hr => by
    have hb2 := hr.2 _ hin.ok.1
    unfold execOp; rw [ho]; simp [hf.eval hx, hf.eval hy, run_lookupA b hb hl hb2]⟩) hd hk
end
theorem F.f3 {P : Program} {C : Ctx} {ρ : Fr} {H : Hp} {fn : Func} {R : Value → Hp → Prop} {e : Exit} {t u x : Nat} {v v2 v3 : Value} (hR : R (.tuple #[v, v2, v3]) H) (he : e = .ret ∨ e = .normal := by first | exact .inl rfl | exact .inr rfl) (hrs : fn.results = #[.tmp t, .tmp u, .tmp x] := by exact rfl) (ht : lk ρ t = some v := by exact rfl) (hu : lk ρ u = some v2 := by exact rfl) (hx : lk ρ x = some v3 := by exact rfl) : Fin P C fn R e ρ H := Fin.r3 he hrs ht hu hx H hR
/-- A slice of bytes that lies in these blocks. -/
def RdH (H : Hp) (v : Value) (bs : List UInt8) : Prop :=
  ∃ (a : Option Addr) (len cap : Nat), v = .slice a len cap ∧ bs.length = len ∧ len ≤ cap ∧ (len = 0 ∨ ∃ (b o : Nat) (l : List Value) (T : TypeId) (fz : Nat × Nat), a = some ⟨b, o, none⟩ ∧ (b, Obj.cells l.toArray T fz) ∈ H ∧ (l.drop o).take len = cbs bs)
theorem RdH.of {e : Nat} {v : Value} {bs : List UInt8} {Hs : Hp} (h : Sl e 1 v (cbs bs) Hs) : RdH Hs v bs := by
  rcases h with ⟨rfl, hb, rfl⟩ | ⟨b, len, cap, junk, rfl, hx, hj, hlc, rfl⟩
  · have : bs = [] := by simpa using hb
    subst this
    exact ⟨none, 0, 0, rfl, rfl, Nat.le_refl _, .inl rfl⟩
  · rw [Nat.mul_one] at hx
    refine ⟨_, len, cap, rfl, by rw [← cbs_len]; exact hx, hlc, .inr ⟨b, 0, cbs bs ++ junk, e, (0, 0), rfl, by simp, ?_⟩⟩
    rw [List.drop_zero, ← hx, List.take_left']; rfl
theorem RdH.mono {H H' : Hp} {v : Value} {bs : List UInt8} (h : RdH H v bs) (hs : ∀ x ∈ H, x ∈ H') : RdH H' v bs := by
  obtain ⟨a, len, cap, h1, h2, h3, h4⟩ := h
  exact ⟨a, len, cap, h1, h2, h3, h4.imp id fun ⟨b, o, l, T, fz, e1, e2, e3⟩ => ⟨b, o, l, T, fz, e1, hs _ e2, e3⟩⟩
theorem RdH.one {H : Hp} {v : Value} {bs : List UInt8} (h : RdH H v bs) : One v := by
  obtain ⟨a, len, cap, rfl, -⟩ := h; exact ⟨rfl⟩
theorem RdH.rd {K : List Nat} {w0 w : World} {H Hc Ht r : Hp} {v : Value} {bs : List UInt8} (h : RdH Ht v bs) (hs : St K w0 H w) [hp : Part H (Hc ++ Ht) r] : Rd (Hc.map Prod.fst) w 1 v (cbs bs) := by
  obtain ⟨a, len, cap, rfl, h2, h3, h4⟩ := h
  have hs2 := hs.perm hp.perm
  have hn := hs2.nodup
  refine ⟨a, len, cap, rfl, by rw [cbs_len, h2, Nat.mul_one], h3, h4.imp id fun ⟨b, o, l, T, fz, e1, e2, e3⟩ => ⟨b, o, l, T, fz, e1, hs2.own b _ (by simp [e2]), fun hm => ?_, by rw [Nat.mul_one]; exact e3⟩⟩
  simp only [List.map_append, List.append_assoc] at hn
  exact (List.nodup_append.1 hn).2.2 b hm b (List.mem_append_left _ (List.mem_map_of_mem (f := Prod.fst) e2)) rfl
/-- One slice in a row. -/
theorem one_at {K : List Nat} {vs : List Value} {a : Option Addr} {l c : Nat} {b : List UInt8} {w : World} (hv : vs = [.slice a l c]) (h : Rd K w 1 (.slice a l c) (cbs b)) : ∀ (i : Nat) (bs : List UInt8), [b][i]? = some bs → ∃ (a : Option Addr) (len cap : Nat), vs[i]? = some (Value.slice a len cap) ∧ Rd K w 1 (.slice a len cap) (cbs bs) := by
  intro i bs hi
  have hi0 : i = 0 := by
    have := (List.getElem?_eq_some_iff.1 hi).1
    simp at this; omega
  subst hi0
  cases hi
  subst hv
  exact ⟨a, l, c, rfl, h⟩
/-- What a book has. -/
structure Bk where
  kept : List (List UInt8)
  clash : Option (List UInt8 × List UInt8)
def Bk.new : Bk := ⟨[], none⟩
def Bk.add (s : Bk) (t : List UInt8) : Bk :=
  match s.kept.find? fun k => decide (Sha.sum t = Sha.sum k) with
  | some old => if old ≠ t ∧ s.clash = none then { s with clash := some (old, t) } else s
  | none => if s.kept.length < 16384 then { s with kept := s.kept ++ [t] } else s
abbrev bkc (tp m : Nat) (cp : Option Addr) : List Value := [.func (.func 41) #[.pointer (some ⟨tp, 0, none⟩)] #[], .map (some m), .pointer cp]
/-- A text's key and value. -/
abbrev kvs (kt : List (List UInt8 × Value)) : List (List UInt8 × Value) := kt.map fun x => (Sha.sum x.1, x.2)
theorem kvs_len (kt : List (List UInt8 × Value)) : ∀ x ∈ kvs kt, x.1.length = 32 := by
  intro x hx
  obtain ⟨y, -, rfl⟩ := List.mem_map.1 hx
  exact Sha.sum_len _
theorem kvs_app (kt : List (List UInt8 × Value)) (t : List UInt8) (v : Value) : kvs kt ++ [(Sha.sum t, v)] = kvs (kt ++ [(t, v)]) := by simp
theorem atK_kvs (kt : List (List UInt8 × Value)) (t : List UInt8) : atK (kvs kt) (Sha.sum t) = (kt.find? fun x => decide (Sha.sum t = Sha.sum x.1)).map Prod.snd := by
  unfold atK kvs
  rw [List.find?_map]
  simp [Function.comp_def]
theorem find_kept (kt : List (List UInt8 × Value)) (t : List UInt8) : (kt.map Prod.fst).find? (fun k => decide (Sha.sum t = Sha.sum k)) = (kt.find? fun x => decide (Sha.sum t = Sha.sum x.1)).map Prod.fst := by
  rw [List.find?_map]
  rfl
def ClP (Ht : Hp) : Option (List UInt8 × List UInt8) → Option Addr → Prop
  | none, cp => cp = none
  | some (x, y), cp => ∃ c vx vy, cp = some ⟨c, 0, none⟩ ∧ (c, cl [vx, vy] 216) ∈ Ht ∧ RdH Ht vx x ∧ RdH Ht vy y ∧ x.length ≤ 1099511627776 ∧ y.length ≤ 1099511627776
theorem ClP.mono {H H' : Hp} {q : Option (List UInt8 × List UInt8)} {cp : Option Addr} (h : ClP H q cp) (hs : ∀ x ∈ H, x ∈ H') : ClP H' q cp := by
  cases q with
  | none => exact h
  | some x =>
    obtain ⟨x, y⟩ := x
    obtain ⟨c, vx, vy, h1, h2, h3, h4, h5⟩ := h
    exact ⟨c, vx, vy, h1, hs _ h2, h3.mono hs, h4.mono hs, h5⟩
def BookP (b tp : Nat) (s : Bk) (H : Hp) : Prop :=
  ∃ (m : Nat) (kt : List (List UInt8 × Value)) (cp : Option Addr) (Ht : Hp), H = (b, cl (bkc tp m cp) 114) :: (m, mo (kvs kt)) :: (tp, cl tabC 119) :: Ht ∧
    s.kept = kt.map Prod.fst ∧ (∀ x ∈ kt, RdH Ht x.2 x.1 ∧ x.1.length ≤ 1099511627776) ∧ ClP Ht s.clash cp
instance texts : MapB Tryz.prog 111 32 (.slice none 0 0) where
  ok := ⟨72, 81, Tryz.underlying111, ⟨by kernel_rfl, inferInstance, _, Tryz.underlying72, Tryz.underlying5, by kernel_rfl, inferInstance⟩, by kernel_rfl⟩
theorem BNew_p (tp : Nat) : Tri Tryz.prog 12 [.pointer (some ⟨tp, 0, none⟩)] [(tp, cl tabC 119)] (fun _ => True) (fun v H => ∃ b, v = .pointer (some ⟨b, 0, none⟩) ∧ BookP b tp Bk.new H) := by
  refine Tri.mk Tryz.func12 rfl Tryz.ntmps12 rfl fun w hw => ?_
  (repeat' (first | refine W.mv ?_ | refine W.zl ?_ | refine W.fa ?_ | refine W.nl ?_ | refine W.as ?_ | refine W.zb ?_ | refine W.za ?_ | refine W.zi ?_ | refine W.zc ?_ | refine W.zp ?_ | refine W.st ?_ | refine SL.nilB ?_ | refine SL.nil ?_ | refine W.al fun b_ => ?_ | refine W.bx fun b_ => ?_ | refine W.bxa fun b_ => ?_ | refine W.sw ?_ | refine W.sa ?_ | refine W.sk ?_ | refine W.bs0 fun b_ => ?_ | refine W.ma fun b_ => ?_ | refine W.bsl fun b_ => ?_ | refine W.zu ?_ | refine W.zf ?_ | refine W.zd ?_ | refine W.zs ?_ | refine W.zv ?_ | refine W.zx ?_ | refine W.ex ?_ | refine W.mf ?_ | refine W.mk ?_ | refine SW.seq ?_ | refine SW.region ?_ | refine SW.block ?_ | refine SW.cond_t rfl ?_ | refine SW.cond_f rfl ?_ | refine SW.exit ?_ | refine SW.ret ?_ | refine SW.skip ?_))
  refine W.mkm fun m => ?_
  have hbd : bfill (fun i => [(0, 1), (1, 1), (2, 1)][i]?) ([.nilFunc] ++ [.map none] ++ [.pointer none]) [(0, .func (.func 41) #[.pointer (some ⟨tp, 0, none⟩)] #[]), (1, .map (some m))] = some (bkc tp m none) := rfl
  (repeat' (first | refine W.mv ?_ | refine W.zl ?_ | refine W.fa ?_ | refine W.nl ?_ | refine W.as ?_ | refine W.zb ?_ | refine W.za ?_ | refine W.zi ?_ | refine W.zc ?_ | refine W.zp ?_ | refine W.st ?_ | refine SL.nilB ?_ | refine SL.nil ?_ | refine W.al fun b_ => ?_ | refine W.bx fun b_ => ?_ | refine W.bxa fun b_ => ?_ | refine W.sw ?_ | refine W.sa ?_ | refine W.sk ?_ | refine W.bs0 fun b_ => ?_ | refine W.ma fun b_ => ?_ | refine W.bsl fun b_ => ?_ | refine W.zu ?_ | refine W.zf ?_ | refine W.zd ?_ | refine W.zs ?_ | refine W.zv ?_ | refine W.zx ?_ | refine W.ex ?_ | refine W.mf ?_ | refine W.mk ?_ | refine SW.seq ?_ | refine SW.region ?_ | refine SW.block ?_ | refine SW.cond_t rfl ?_ | refine SW.cond_f rfl ?_ | refine SW.exit ?_ | refine SW.ret ?_ | refine SW.skip ?_))
  refine F.f1 ?_
  exact ⟨b_, rfl, m, [], none, [], rfl, rfl, by simp, rfl⟩
theorem BSum_p {b tp : Nat} {s : Bk} {H : Hp} (hB : BookP b tp s H) (k : UInt8) (pv : Value) (bss : List (List UInt8)) (hn : bss.flatten.length ≤ 1099511626000) (hn2 : bss.length ≤ 1099511627776) :
    Tri Tryz.prog 57 [.pointer (some ⟨b, 0, none⟩), .int .u8 (k.toNat : Int), pv] H (fun w => RdS (H.map Prod.fst) w pv bss) (fun v H' => v = .agg (cbs (Sha.sum (k :: bss.flatten))).toArray ∧ BookP b tp (s.add (k :: bss.flatten)) H') := by
  obtain ⟨m, kt, cp, Ht, rfl, hk, hr, hc⟩ := hB
  refine Tri.mk Tryz.func57 rfl Tryz.ntmps57 rfl fun w hw => ?_
  have hpv := hw.one
  have hw2 := hw
  obtain ⟨-, ⟨pa, pl, pc, rfl, -⟩, -⟩ := hw
  have hb1 : bfill (fun i => some (i * 1, 1)) (zs [.int .u8 0] 1) [(0, .int .u8 (k.toNat : Int))] = some (cbs [k]) := rfl
  (repeat' (first | refine W.mv ?_ | refine W.zl ?_ | refine W.fa ?_ | refine W.nl ?_ | refine W.as ?_ | refine W.zb ?_ | refine W.za ?_ | refine W.zi ?_ | refine W.zc ?_ | refine W.zp ?_ | refine W.st ?_ | refine SL.nilB ?_ | refine SL.nil ?_ | refine W.al fun b_ => ?_ | refine W.bx fun b_ => ?_ | refine W.bxa fun b_ => ?_ | refine W.sw ?_ | refine W.sa ?_ | refine W.sk ?_ | refine W.bs0 fun b_ => ?_ | refine W.ma fun b_ => ?_ | refine W.bsl fun b_ => ?_ | refine W.zu ?_ | refine W.zf ?_ | refine W.zd ?_ | refine W.zs ?_ | refine W.zv ?_ | refine W.zx ?_ | refine W.ex ?_ | refine W.mf ?_ | refine W.mk ?_ | refine SW.seq ?_ | refine SW.region ?_ | refine SW.block ?_ | refine SW.cond_t rfl ?_ | refine SW.cond_f rfl ?_ | refine SW.exit ?_ | refine SW.ret ?_ | refine SW.skip ?_))
  refine W.call (Concat_p _ bss (by omega) hn2) ?_ rfl (fun w2 hs => hw2.ro (Hc := []) hs)
  intro v1 H1 h1
  have h11 := h1.isOne
  obtain ⟨a1, l1, c1, rfl, hl1⟩ := h1.form
  rw [cbs_len, Nat.mul_one] at hl1
  have hA : Sl 5 1 (.slice (some ⟨b_, 0, none⟩) 1 1) (cbs [k]) [(b_, cl (cbs [k]) 5)] := by
    have := Sl.mk (e := 5) (n := 1) (b := b_) (len := 1) (cap := 1) (xs := cbs [k]) (junk := []) rfl rfl (Nat.le_refl _)
    rwa [List.append_nil] at this
  refine W.ap hA (fun w2 hs => h1.srcAt hs inferInstance) (fun v2 H2 h2 => ?_) (hys := by rw [cbs_len]; omega) (hbytes := by rw [cbs_len, cbs_len, List.length_singleton]; omega)
  have h21 := h2.isOne
  rw [← cbs_app, show [k] ++ bss.flatten = k :: bss.flatten from rfl] at h2
  have hTl : (k :: bss.flatten).length ≤ 1099511627000 := by rw [List.length_cons]; omega
  generalize k :: bss.flatten = T at h2 hTl ⊢
  obtain ⟨a2, l2, c2, rfl, hl2⟩ := h2.form
  have hb4 : bfill (fun i => some (i * 1, 1)) (zs [.slice none 0 0] 1) [(0, .slice a2 l2 c2)] = some [.slice a2 l2 c2] := rfl
  have hf : [T].flatten = T := by simp
  have hT := fun b4 => TSum_p (tp := tp) [T] (.slice (some ⟨b4, 0, none⟩) 1 1) (by rw [hf]; omega) (by simp)
  rw [hf] at hT
  (repeat' (first | refine W.mv ?_ | refine W.zl ?_ | refine W.fa ?_ | refine W.nl ?_ | refine W.as ?_ | refine W.zb ?_ | refine W.za ?_ | refine W.zi ?_ | refine W.zc ?_ | refine W.zp ?_ | refine W.st ?_ | refine SL.nilB ?_ | refine SL.nil ?_ | refine W.al fun b_ => ?_ | refine W.bx fun b_ => ?_ | refine W.bxa fun b_ => ?_ | refine W.sw ?_ | refine W.sa ?_ | refine W.sk ?_ | refine W.bs0 fun b_ => ?_ | refine W.ma fun b_ => ?_ | refine W.bsl fun b_ => ?_ | refine W.zu ?_ | refine W.zf ?_ | refine W.zd ?_ | refine W.zs ?_ | refine W.zv ?_ | refine W.zx ?_ | refine W.ex ?_ | refine W.mf ?_ | refine W.mk ?_ | refine SW.seq ?_ | refine SW.region ?_ | refine SW.block ?_ | refine SW.cond_t rfl ?_ | refine SW.cond_f rfl ?_ | refine SW.exit ?_ | refine SW.ret ?_ | refine SW.skip ?_))
  refine SL.callv [(tp, cl tabC 119)] rfl rfl rfl rfl rfl rfl (hT b_) (fun w2 hs => ?_) ?_
  · exact RdS.at (T := 81) (fz := (0, 0)) (Hc := [(tp, cl tabC 119)]) (vs := [.slice a2 l2 c2]) (bss := [T]) hs rfl (Nat.le_refl _) rfl (one_at rfl (Rd.own (Hc := [(tp, cl tabC 119)]) h2 hs inferInstance))
  rintro _ _ ⟨rfl, rfl⟩
  have h32 : (cbs (Sha.sum T)).length = 32 := by rw [cbs_len, Sha.sum_len]
  (repeat' (first | refine W.mv ?_ | refine W.zl ?_ | refine W.fa ?_ | refine W.nl ?_ | refine W.as ?_ | refine W.zb ?_ | refine W.za ?_ | refine W.zi ?_ | refine W.zc ?_ | refine W.zp ?_ | refine W.st ?_ | refine SL.nilB ?_ | refine SL.nil ?_ | refine W.al fun b_ => ?_ | refine W.bx fun b_ => ?_ | refine W.bxa fun b_ => ?_ | refine W.sw ?_ | refine W.sa ?_ | refine W.sk ?_ | refine W.bs0 fun b_ => ?_ | refine W.ma fun b_ => ?_ | refine W.bsl fun b_ => ?_ | refine W.zu ?_ | refine W.zf ?_ | refine W.zd ?_ | refine W.zs ?_ | refine W.zv ?_ | refine W.zx ?_ | refine W.ex ?_ | refine W.mf ?_ | refine W.mk ?_ | refine SW.seq ?_ | refine SW.region ?_ | refine SW.block ?_ | refine SW.cond_t rfl ?_ | refine SW.cond_f rfl ?_ | refine SW.exit ?_ | refine SW.ret ?_ | refine SW.skip ?_))
  (refine SW.regionS [] ?_ (by kernel_rfl); refine SS.tw 0 rfl (p_move rfl rfl) ?_; refine SS.tw 1 rfl (p_nil rfl rfl) ?_; refine SS.tw 2 rfl (p_fieldAddr rfl rfl OfN.ok) ?_; (first | refine SS.ls 3 [] rfl ?_ | refine SS.tw 3 rfl (p_load_sR rfl rfl (by assumption) (by assumption) (by assumption)) ?_); (first | refine SS.lw 4 [] rfl ?_ | refine SS.la 4 [] rfl ?_ | refine SS.tw 4 rfl (p_load_aR rfl rfl (by assumption) (by assumption) (by assumption) (by assumption)) ?_); refine SS.lkA 5 [] rfl ?_ (Sha.sum_len _) (kvs_len _); refine SS.tw 6 rfl (p_move rfl rfl) ?_; refine SS.tw 7 rfl (p_ext rfl rfl rfl) ?_; refine SS.tw 8 rfl (p_ext rfl rfl rfl) ?_; refine SS.tw 9 rfl (p_assign rfl rfl) ?_; refine SS.tw 10 rfl (p_assign rfl rfl) ?_; refine SS.done ?_ (by kernel_rfl))
  rw [atK_kvs]
  have hkeep : BookP b tp s ((b, cl (bkc tp m cp) 114) :: (m, mo (kvs kt)) :: (tp, cl tabC 119) :: Ht) := ⟨m, kt, cp, Ht, rfl, hk, hr, hc⟩
  have hadd : s.add T = match (kt.find? fun x => decide (Sha.sum T = Sha.sum x.1)).map Prod.fst with
      | some old => if old ≠ T ∧ s.clash = none then { s with clash := some (old, T) } else s
      | none => if s.kept.length < 16384 then { s with kept := s.kept ++ [T] } else s := by
    unfold Bk.add
    rw [hk, find_kept]
  cases hfd : kt.find? fun x => decide (Sha.sum T = Sha.sum x.1) with
  | none =>
    rw [hfd] at hadd
    have hkl : (kvs kt).length = kt.length := List.length_map ..
    have hskl : s.kept.length = kt.length := by rw [hk, List.length_map]
    have hn0 : atK (kvs kt) (Sha.sum T) = none := by rw [atK_kvs, hfd]; rfl
    dsimp only [Option.map_none, Option.getD_none, Option.isSome_none]
    dsimp only [Option.map_none] at hadd
    by_cases hlt : kt.length < 16384
    · rw [if_pos (by omega)] at hadd
      (repeat' (first | refine W.mv ?_ | refine W.zl ?_ | refine W.fa ?_ | refine W.nl ?_ | refine W.as ?_ | refine W.zb ?_ | refine W.za ?_ | refine W.zi ?_ | refine W.zc ?_ | refine W.zp ?_ | refine W.st ?_ | refine SL.nilB ?_ | refine SL.nil ?_ | refine W.al fun b_ => ?_ | refine W.bx fun b_ => ?_ | refine W.bxa fun b_ => ?_ | refine W.sw ?_ | refine W.sa ?_ | refine W.sk ?_ | refine W.bs0 fun b_ => ?_ | refine W.ma fun b_ => ?_ | refine W.bsl fun b_ => ?_ | refine W.zu ?_ | refine W.zf ?_ | refine W.zd ?_ | refine W.zs ?_ | refine W.zv ?_ | refine W.zx ?_ | refine W.ex ?_ | refine W.mf ?_ | refine W.mk ?_ | refine SW.seq ?_ | refine SW.region ?_ | refine SW.block ?_ | refine SW.cond_t rfl ?_ | refine SW.cond_f rfl ?_ | refine SW.exit ?_ | refine SW.ret ?_ | refine SW.skip ?_))
      refine W.lnm ?_
      rw [hkl]
      (repeat' (first | refine W.mv ?_ | refine W.zl ?_ | refine W.fa ?_ | refine W.nl ?_ | refine W.as ?_ | refine W.zb ?_ | refine W.za ?_ | refine W.zi ?_ | refine W.zc ?_ | refine W.zp ?_ | refine W.st ?_ | refine SL.nilB ?_ | refine SL.nil ?_ | refine W.al fun b_ => ?_ | refine W.bx fun b_ => ?_ | refine W.bxa fun b_ => ?_ | refine W.sw ?_ | refine W.sa ?_ | refine W.sk ?_ | refine W.bs0 fun b_ => ?_ | refine W.ma fun b_ => ?_ | refine W.bsl fun b_ => ?_ | refine W.zu ?_ | refine W.zf ?_ | refine W.zd ?_ | refine W.zs ?_ | refine W.zv ?_ | refine W.zx ?_ | refine W.ex ?_ | refine W.mf ?_ | refine W.mk ?_ | refine SW.seq ?_ | refine SW.region ?_ | refine SW.block ?_ | refine SW.cond_t rfl ?_ | refine SW.cond_f rfl ?_ | refine SW.exit ?_ | refine SW.ret ?_ | refine SW.skip ?_))
      (refine SW.regionS [6] ?_ (by kernel_rfl); refine SS.tw 0 rfl (p_move rfl rfl) ?_; refine SS.tw 1 rfl (p_nil rfl rfl) ?_; refine SS.tw 2 rfl (p_fieldAddr rfl rfl OfN.ok) ?_; (first | refine SS.ls 3 [6] rfl ?_ | refine SS.tw 3 rfl (p_load_sR rfl rfl (by assumption) (by assumption) (by assumption)) ?_); (first | refine SS.lw 4 [6] rfl ?_ | refine SS.la 4 [6] rfl ?_ | refine SS.tw 4 rfl (p_load_aR rfl rfl (by assumption) (by assumption) (by assumption) (by assumption)) ?_); refine SS.tw 5 rfl (p_move rfl rfl) ?_; refine SS.effB 6 ?_ rfl (by kernel_rfl))
      refine W.mup ?_ (Sha.sum_len _) (kvs_len _) hn0
      rw [kvs_app]
      (refine SL.nilB ?_; refine SS.done ?_ (by kernel_rfl))
      (repeat' (first | refine W.mv ?_ | refine W.zl ?_ | refine W.fa ?_ | refine W.nl ?_ | refine W.as ?_ | refine W.zb ?_ | refine W.za ?_ | refine W.zi ?_ | refine W.zc ?_ | refine W.zp ?_ | refine W.st ?_ | refine SL.nilB ?_ | refine SL.nil ?_ | refine W.al fun b_ => ?_ | refine W.bx fun b_ => ?_ | refine W.bxa fun b_ => ?_ | refine W.sw ?_ | refine W.sa ?_ | refine W.sk ?_ | refine W.bs0 fun b_ => ?_ | refine W.ma fun b_ => ?_ | refine W.bsl fun b_ => ?_ | refine W.zu ?_ | refine W.zf ?_ | refine W.zd ?_ | refine W.zs ?_ | refine W.zv ?_ | refine W.zx ?_ | refine W.ex ?_ | refine W.mf ?_ | refine W.mk ?_ | refine SW.seq ?_ | refine SW.region ?_ | refine SW.block ?_ | refine SW.cond_t rfl ?_ | refine SW.cond_f rfl ?_ | refine SW.exit ?_ | refine SW.ret ?_ | refine SW.skip ?_))
      refine F.cH ((b, cl (bkc tp m cp) 114) :: (m, mo (kvs (kt ++ [(T, .slice a2 l2 c2)]))) :: (tp, cl tabC 119) :: (H2 ++ Ht)) (cbs (Sha.sum T)) ?_
      refine ⟨rfl, m, kt ++ [(T, .slice a2 l2 c2)], cp, H2 ++ Ht, rfl, ?_, ?_, ?_⟩
      · rw [hadd, List.map_append, ← hk]; rfl
      · intro x hx
        rcases List.mem_append.1 hx with h | h
        · exact ⟨(hr x h).1.mono fun y hy => List.mem_append_right _ hy, (hr x h).2⟩
        · rw [List.mem_singleton] at h
          subst h
          exact ⟨(RdH.of h2).mono fun y hy => List.mem_append_left _ hy, by show T.length ≤ _; omega⟩
      · rw [hadd]
        exact hc.mono fun y hy => List.mem_append_right _ hy
    · rw [if_neg (by omega)] at hadd
      (repeat' (first | refine W.mv ?_ | refine W.zl ?_ | refine W.fa ?_ | refine W.nl ?_ | refine W.as ?_ | refine W.zb ?_ | refine W.za ?_ | refine W.zi ?_ | refine W.zc ?_ | refine W.zp ?_ | refine W.st ?_ | refine SL.nilB ?_ | refine SL.nil ?_ | refine W.al fun b_ => ?_ | refine W.bx fun b_ => ?_ | refine W.bxa fun b_ => ?_ | refine W.sw ?_ | refine W.sa ?_ | refine W.sk ?_ | refine W.bs0 fun b_ => ?_ | refine W.ma fun b_ => ?_ | refine W.bsl fun b_ => ?_ | refine W.zu ?_ | refine W.zf ?_ | refine W.zd ?_ | refine W.zs ?_ | refine W.zv ?_ | refine W.zx ?_ | refine W.ex ?_ | refine W.mf ?_ | refine W.mk ?_ | refine SW.seq ?_ | refine SW.region ?_ | refine SW.block ?_ | refine SW.cond_t rfl ?_ | refine SW.cond_f rfl ?_ | refine SW.exit ?_ | refine SW.ret ?_ | refine SW.skip ?_))
      refine W.lnm ?_
      rw [hkl]
      (repeat' (first | refine W.mv ?_ | refine W.zl ?_ | refine W.fa ?_ | refine W.nl ?_ | refine W.as ?_ | refine W.zb ?_ | refine W.za ?_ | refine W.zi ?_ | refine W.zc ?_ | refine W.zp ?_ | refine W.st ?_ | refine SL.nilB ?_ | refine SL.nil ?_ | refine W.al fun b_ => ?_ | refine W.bx fun b_ => ?_ | refine W.bxa fun b_ => ?_ | refine W.sw ?_ | refine W.sa ?_ | refine W.sk ?_ | refine W.bs0 fun b_ => ?_ | refine W.ma fun b_ => ?_ | refine W.bsl fun b_ => ?_ | refine W.zu ?_ | refine W.zf ?_ | refine W.zd ?_ | refine W.zs ?_ | refine W.zv ?_ | refine W.zx ?_ | refine W.ex ?_ | refine W.mf ?_ | refine W.mk ?_ | refine SW.seq ?_ | refine SW.region ?_ | refine SW.block ?_ | refine SW.cond_t rfl ?_ | refine SW.cond_f rfl ?_ | refine SW.exit ?_ | refine SW.ret ?_ | refine SW.skip ?_))
      refine F.cH ((b, cl (bkc tp m cp) 114) :: (m, mo (kvs kt)) :: (tp, cl tabC 119) :: Ht) (cbs (Sha.sum T)) ?_
      exact ⟨rfl, by rw [hadd]; exact hkeep⟩
  | some x =>
    obtain ⟨old, ov⟩ := x
    rw [hfd] at hadd
    have hmem := List.mem_of_find?_eq_some hfd
    obtain ⟨hov, hol⟩ := hr _ hmem
    dsimp only at hov hol
    have hov2 := hov
    have hov1 := hov.one
    obtain ⟨oa, ol, oc, rfl, -⟩ := hov2
    dsimp only [Option.map_some, Option.getD_some, Option.isSome_some]
    dsimp only [Option.map_some] at hadd
    (repeat' (first | refine W.mv ?_ | refine W.zl ?_ | refine W.fa ?_ | refine W.nl ?_ | refine W.as ?_ | refine W.zb ?_ | refine W.za ?_ | refine W.zi ?_ | refine W.zc ?_ | refine W.zp ?_ | refine W.st ?_ | refine SL.nilB ?_ | refine SL.nil ?_ | refine W.al fun b_ => ?_ | refine W.bx fun b_ => ?_ | refine W.bxa fun b_ => ?_ | refine W.sw ?_ | refine W.sa ?_ | refine W.sk ?_ | refine W.bs0 fun b_ => ?_ | refine W.ma fun b_ => ?_ | refine W.bsl fun b_ => ?_ | refine W.zu ?_ | refine W.zf ?_ | refine W.zd ?_ | refine W.zs ?_ | refine W.zv ?_ | refine W.zx ?_ | refine W.ex ?_ | refine W.mf ?_ | refine W.mk ?_ | refine SW.seq ?_ | refine SW.region ?_ | refine SW.block ?_ | refine SW.cond_t rfl ?_ | refine SW.cond_f rfl ?_ | refine SW.exit ?_ | refine SW.ret ?_ | refine SW.skip ?_))
    refine W.call (Equal_p (.slice oa ol oc) (.slice a2 l2 c2) old T) ?_ rfl (fun w2 hs => ⟨hov.rd (Hc := []) hs, Rd.ownB [] h2 hs⟩)
    rintro _ _ ⟨rfl, rfl⟩
    by_cases ho : old = T
    · rw [decide_eq_true ho]
      rw [if_neg (by simp [ho])] at hadd
      (repeat' (first | refine W.mv ?_ | refine W.zl ?_ | refine W.fa ?_ | refine W.nl ?_ | refine W.as ?_ | refine W.zb ?_ | refine W.za ?_ | refine W.zi ?_ | refine W.zc ?_ | refine W.zp ?_ | refine W.st ?_ | refine SL.nilB ?_ | refine SL.nil ?_ | refine W.al fun b_ => ?_ | refine W.bx fun b_ => ?_ | refine W.bxa fun b_ => ?_ | refine W.sw ?_ | refine W.sa ?_ | refine W.sk ?_ | refine W.bs0 fun b_ => ?_ | refine W.ma fun b_ => ?_ | refine W.bsl fun b_ => ?_ | refine W.zu ?_ | refine W.zf ?_ | refine W.zd ?_ | refine W.zs ?_ | refine W.zv ?_ | refine W.zx ?_ | refine W.ex ?_ | refine W.mf ?_ | refine W.mk ?_ | refine SW.seq ?_ | refine SW.region ?_ | refine SW.block ?_ | refine SW.cond_t rfl ?_ | refine SW.cond_f rfl ?_ | refine SW.exit ?_ | refine SW.ret ?_ | refine SW.skip ?_))
      refine F.cH ((b, cl (bkc tp m cp) 114) :: (m, mo (kvs kt)) :: (tp, cl tabC 119) :: Ht) (cbs (Sha.sum T)) ?_
      exact ⟨rfl, by rw [hadd]; exact hkeep⟩
    · rw [decide_eq_false ho]
      cases hcl : s.clash with
      | none =>
        rw [hcl] at hc
        have hcp : cp = none := hc
        subst hcp
        rw [if_pos ⟨ho, hcl⟩] at hadd
        have hb9 : bfill (fun i => [(0, 1), (1, 1)][i]?) ([.slice none 0 0] ++ [.slice none 0 0]) [(0, .slice oa ol oc), (1, .slice a2 l2 c2)] = some [.slice oa ol oc, .slice a2 l2 c2] := rfl
        (repeat' (first | refine W.mv ?_ | refine W.zl ?_ | refine W.fa ?_ | refine W.nl ?_ | refine W.as ?_ | refine W.zb ?_ | refine W.za ?_ | refine W.zi ?_ | refine W.zc ?_ | refine W.zp ?_ | refine W.st ?_ | refine SL.nilB ?_ | refine SL.nil ?_ | refine W.al fun b_ => ?_ | refine W.bx fun b_ => ?_ | refine W.bxa fun b_ => ?_ | refine W.sw ?_ | refine W.sa ?_ | refine W.sk ?_ | refine W.bs0 fun b_ => ?_ | refine W.ma fun b_ => ?_ | refine W.bsl fun b_ => ?_ | refine W.zu ?_ | refine W.zf ?_ | refine W.zd ?_ | refine W.zs ?_ | refine W.zv ?_ | refine W.zx ?_ | refine W.ex ?_ | refine W.mf ?_ | refine W.mk ?_ | refine SW.seq ?_ | refine SW.region ?_ | refine SW.block ?_ | refine SW.cond_t rfl ?_ | refine SW.cond_f rfl ?_ | refine SW.exit ?_ | refine SW.ret ?_ | refine SW.skip ?_))
        rw [show (bkc tp m none).set 2 (.pointer (some ⟨b_, 0, none⟩)) = bkc tp m (some ⟨b_, 0, none⟩) from rfl]
        refine F.cH ((b, cl (bkc tp m (some ⟨b_, 0, none⟩)) 114) :: (m, mo (kvs kt)) :: (tp, cl tabC 119) :: (b_, cl [.slice oa ol oc, .slice a2 l2 c2] 216) :: (H2 ++ Ht)) (cbs (Sha.sum T)) ?_
        refine ⟨rfl, m, kt, some ⟨b_, 0, none⟩, (b_, cl [.slice oa ol oc, .slice a2 l2 c2] 216) :: (H2 ++ Ht), rfl, ?_, ?_, ?_⟩
        · rw [hadd]; exact hk
        · intro x hx
          exact ⟨(hr x hx).1.mono fun y hy => List.mem_cons_of_mem _ (List.mem_append_right _ hy), (hr x hx).2⟩
        · rw [hadd]
          exact ⟨b_, _, _, rfl, by simp, hov.mono fun y hy => List.mem_cons_of_mem _ (List.mem_append_right _ hy), (RdH.of h2).mono fun y hy => List.mem_cons_of_mem _ (List.mem_append_left _ hy), hol, by omega⟩
      | some q =>
        obtain ⟨q1, q2⟩ := q
        have hc2 := hc
        rw [hcl] at hc2
        obtain ⟨c, vx, vy, rfl, -⟩ := hc2
        rw [if_neg (by rw [hcl]; simp)] at hadd
        (repeat' (first | refine W.mv ?_ | refine W.zl ?_ | refine W.fa ?_ | refine W.nl ?_ | refine W.as ?_ | refine W.zb ?_ | refine W.za ?_ | refine W.zi ?_ | refine W.zc ?_ | refine W.zp ?_ | refine W.st ?_ | refine SL.nilB ?_ | refine SL.nil ?_ | refine W.al fun b_ => ?_ | refine W.bx fun b_ => ?_ | refine W.bxa fun b_ => ?_ | refine W.sw ?_ | refine W.sa ?_ | refine W.sk ?_ | refine W.bs0 fun b_ => ?_ | refine W.ma fun b_ => ?_ | refine W.bsl fun b_ => ?_ | refine W.zu ?_ | refine W.zf ?_ | refine W.zd ?_ | refine W.zs ?_ | refine W.zv ?_ | refine W.zx ?_ | refine W.ex ?_ | refine W.mf ?_ | refine W.mk ?_ | refine SW.seq ?_ | refine SW.region ?_ | refine SW.block ?_ | refine SW.cond_t rfl ?_ | refine SW.cond_f rfl ?_ | refine SW.exit ?_ | refine SW.ret ?_ | refine SW.skip ?_))
        refine F.cH ((b, cl (bkc tp m (some ⟨c, 0, none⟩)) 114) :: (m, mo (kvs kt)) :: (tp, cl tabC 119) :: Ht) (cbs (Sha.sum T)) ?_
        exact ⟨rfl, by rw [hadd]; exact hkeep⟩
end Go.Proofs.YtieamijnajbcnaaGreat

namespace Go.Proofs.YtieamijnajbcnaaGreat
open Go
attribute [local irreducible] SW SL SQ SH SA SS Pu Fin CutF HandF

instance digEq : EqB Tryz.prog 72 32 where
  guard := by kernel_rfl
  row := inferInstance
  ok := ⟨_, Tryz.underlying72, Tryz.underlying5, by kernel_rfl, inferInstance⟩
theorem two_at {K : List Nat} {vs : List Value} {a a' : Option Addr} {l l' c c' : Nat} {b b' : List UInt8} {w : World} (hv : vs = [.slice a l c, .slice a' l' c']) (h : Rd K w 1 (.slice a l c) (cbs b)) (h' : Rd K w 1 (.slice a' l' c') (cbs b')) : ∀ (i : Nat) (bs : List UInt8), [b, b'][i]? = some bs → ∃ (a : Option Addr) (len cap : Nat), vs[i]? = some (Value.slice a len cap) ∧ Rd K w 1 (.slice a len cap) (cbs bs) := by
  intro i bs hi
  have hi0 : i = 0 ∨ i = 1 := by
    have := (List.getElem?_eq_some_iff.1 hi).1
    simp at this; omega
  subst hv
  rcases hi0 with rfl | rfl
  · cases hi
    exact ⟨a, l, c, rfl, h⟩
  · cases hi
    exact ⟨a', l', c', rfl, h'⟩
end Go.Proofs.YtieamijnajbcnaaGreat
