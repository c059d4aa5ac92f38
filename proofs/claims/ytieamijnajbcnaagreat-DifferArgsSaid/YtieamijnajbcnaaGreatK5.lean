/- Slices that are cut into chunks: the library's iterator. -/
import Derived.Test.YtieamijnajbcnaaGreatK4
import Derived.Test.YtieamijnajbcnaaGreatY1
set_option linter.unusedVariables false
set_option linter.unusedSimpArgs false
namespace Go.Proofs.YtieamijnajbcnaaGreat
open Go

section
variable {P : Program} {C : Ctx} {ρ : Fr} {H : Hp} {o : Oper}
theorem p_sl3 {t e n b j len cap l h c : Nat} {x y z u : Operand} {k kk ku : IntKind} {m q r : Int} [ht : SliceTy P t e n] (ho : o.op = .slice t x (some y) (some z) (some u)) (hx : ev ρ x = some (.slice (some ⟨b, j, none⟩) len cap)) (hy : ev ρ y = some (.int k m)) (hz : ev ρ z = some (.int kk q)) (hu : ev ρ u = some (.int ku r))
    (hl : m = (l : Int)) (hh : q = (h : Int)) (hm : r = (h : Int)) (h1 : l < h) (h2 : h ≤ cap) (hc : j + l * n = c) : Pu P C ρ H o (.slice (some ⟨b, c, none⟩) (h - l) (h - l)) := fun ac w hf _ => by
  subst hl hh hm hc
  have h3 : ¬ h = l := by omega
  unfold execOp; rw [ho]
  simp [hf.eval hx, hf.eval hy, hf.eval hz, hf.eval hu, Instr.sliceAt, run_underlying ht.ok, Instr.slice, Instr.sliceBounds, Instr.sliceBound, asIntOf, h1, h2, Nat.le_of_lt h1, h3, run_sizeOf ht.size, add_mid]
end

attribute [local irreducible] SW SL SQ SH SA SS Pu Fin CutF HandF SX SJ

/-- What the rounds do, and what is handed on. -/
theorem chunk1_p {l bs bn kb ko len cap n : Nat} (xs : List UInt8) (hn : 0 < n) (hn2 : n ≤ 1000000) (hlen : len ≤ 1000000000) (J : Nat → Hp → Prop) (Jx : Hp → Prop) (H0 : Hp) (h0 : J 0 H0)
    (hY : ∀ k Hk, n * k < len → J k Hk → Rnd Tryz.prog l [.slice (some ⟨kb, ko + n * k, none⟩) (min n (len - n * k)) (min n (len - n * k))] Hk (fun w => Rd (Hk.map Prod.fst) w 1 (.slice (some ⟨kb, ko, none⟩) len cap) (cbs xs)) (fun v H' => (v = .bool true ∧ J (k + 1) H') ∨ (v = .bool false ∧ Jx H'))) :
    Tri Tryz.prog 93 [.func (.yield l) #[] #[], .pointer (some ⟨bs, 0, none⟩), .pointer (some ⟨bn, 0, none⟩)]
      ((bs, cl [.slice (some ⟨kb, ko, none⟩) len cap] 164) :: (bn, cl [.int .i64 (n : Int)] 3) :: H0)
      (fun w => Rd (((bs, cl [.slice (some ⟨kb, ko, none⟩) len cap] 164) :: (bn, cl [.int .i64 (n : Int)] 3) :: H0).map Prod.fst) w 1 (.slice (some ⟨kb, ko, none⟩) len cap) (cbs xs))
      (fun v H' => v = .tuple #[] ∧ ((∃ k, len ≤ n * k ∧ n * k < len + n ∧ J k H') ∨ Jx H')) := by
  refine Tri.mk Tryz.func93 rfl Tryz.ntmps93 rfl fun w hw => ?_
  have hlc : len ≤ cap := hw.len1.2
  (repeat' (first | refine W.mv ?_ | refine W.zl ?_ | refine W.fa ?_ | refine W.nl ?_ | refine W.as ?_ | refine W.zb ?_ | refine W.za ?_ | refine W.zi ?_ | refine W.zc ?_ | refine W.zp ?_ | refine W.st ?_ | refine SL.nilB ?_ | refine SL.nil ?_ | refine W.al fun b_ => ?_ | refine W.bx fun b_ => ?_ | refine W.bxa fun b_ => ?_ | refine W.sw ?_ | refine W.sa ?_ | refine W.sk ?_ | refine W.bs0 fun b_ => ?_ | refine W.ma fun b_ => ?_ | refine W.bsl fun b_ => ?_ | refine W.zu ?_ | refine W.zf ?_ | refine W.zd ?_ | refine W.zs ?_ | refine W.zv ?_ | refine W.zx ?_ | refine W.ex ?_ | refine W.mf ?_ | refine W.mk ?_ | refine SW.seq ?_ | refine SW.region ?_ | refine SW.cond_t rfl ?_ | refine SW.cond_f rfl ?_ | refine SW.exit ?_ | refine SW.ret ?_ | refine SW.skip ?_))
  (repeat' (first | refine W.mv ?_ | refine W.zl ?_ | refine W.fa ?_ | refine W.nl ?_ | refine W.as ?_ | refine W.zb ?_ | refine W.za ?_ | refine W.zi ?_ | refine W.zc ?_ | refine W.zp ?_ | refine W.st ?_ | refine SL.nilB ?_ | refine SL.nil ?_ | refine W.al fun b_ => ?_ | refine W.bx fun b_ => ?_ | refine W.bxa fun b_ => ?_ | refine W.sw ?_ | refine W.sa ?_ | refine W.sk ?_ | refine W.bs0 fun b_ => ?_ | refine W.ma fun b_ => ?_ | refine W.bsl fun b_ => ?_ | refine W.zu ?_ | refine W.zf ?_ | refine W.zd ?_ | refine W.zs ?_ | refine W.zv ?_ | refine W.zx ?_ | refine W.ex ?_ | refine W.mf ?_ | refine W.mk ?_ | refine SW.seq ?_ | refine SW.region ?_ | refine SW.block ?_ | refine SW.cond_t rfl ?_ | refine SW.cond_f rfl ?_ | refine SW.exit ?_ | refine SW.ret ?_ | refine SW.skip ?_))
  refine SW.loopF [0, 1, 2] (fun s : Nat × Nat × Hp => [(4, .int .i64 (s.1 : Int))]) (fun s => (bs, cl [.slice (some ⟨kb, ko, none⟩) len cap] 164) :: (bn, cl [.int .i64 (n : Int)] 3) :: s.2.2) (fun s => len + n - s.1) (fun s => s.1 = n * s.2.1 ∧ s.1 < len + n ∧ J s.2.1 s.2.2) (0, 0, H0) ⟨by simp, by simp; omega, h0⟩ ?_
  rintro ⟨i, k, Hk⟩ ⟨hik, hil, hJ⟩
  dsimp only at hik hil hJ ⊢
  by_cases h : i < len
  · have hci : i < cap := by omega
    have hil' : i ≤ len := by omega
    (repeat' (first | refine W.mv ?_ | refine W.zl ?_ | refine W.fa ?_ | refine W.nl ?_ | refine W.as ?_ | refine W.zb ?_ | refine W.za ?_ | refine W.zi ?_ | refine W.zc ?_ | refine W.zp ?_ | refine W.st ?_ | refine SL.nilB ?_ | refine SL.nil ?_ | refine W.al fun b_ => ?_ | refine W.bx fun b_ => ?_ | refine W.bxa fun b_ => ?_ | refine W.sw ?_ | refine W.sa ?_ | refine W.sk ?_ | refine W.bs0 fun b_ => ?_ | refine W.ma fun b_ => ?_ | refine W.bsl fun b_ => ?_ | refine W.zu ?_ | refine W.zf ?_ | refine W.zd ?_ | refine W.zs ?_ | refine W.zv ?_ | refine W.zx ?_ | refine W.ex ?_ | refine W.mf ?_ | refine W.mk ?_ | refine SW.seq ?_ | refine SW.region ?_ | refine SW.block ?_ | refine SW.cond_t rfl ?_ | refine SW.cond_f rfl ?_ | refine SW.exit ?_ | refine SW.ret ?_ | refine SW.skip ?_))
    (refine SW.regionS [] ?_ (by kernel_rfl); (first | refine SS.ls 0 [] rfl ?_ | refine SS.tw 0 rfl (p_load_sR rfl rfl (by assumption) (by assumption) (by assumption)) ?_); (first | refine SS.ls 1 [] rfl ?_ | refine SS.tw 1 rfl (p_load_sR rfl rfl (by assumption) (by assumption) (by assumption)) ?_); refine SS.tw 2 rfl (p_move rfl rfl) ?_; refine SS.tw 3 rfl (p_sl10 rfl rfl rfl (by omega) (by omega) (by omega)) ?_; refine SS.tw 4 rfl (p_len_slice rfl rfl) ?_; refine SS.tw 5 rfl (p_min rfl rfl rfl rfl) ?_; refine SS.tw 6 rfl (p_assign rfl rfl) ?_; refine SS.done ?_ (by kernel_rfl))
    rw [show min (n : Int) ((len - i : Nat) : Int) = ((min n (len - i) : Nat) : Int) by omega]
    obtain ⟨m, hm⟩ : ∃ m, min n (len - i) = m := ⟨_, rfl⟩
    have hm0 : 0 < m := by omega
    have hml : i + m ≤ len := by omega
    rw [hm]
    refine SW.seq ?_
    refine SW.ofR (SR.regionI (SJ.cut 10 ?_))
    (repeat' (first | refine W.mv ?_ | refine W.zl ?_ | refine W.fa ?_ | refine W.nl ?_ | refine W.as ?_ | refine W.zb ?_ | refine W.za ?_ | refine W.zi ?_ | refine W.zc ?_ | refine W.zp ?_ | refine W.st ?_ | refine SL.nilB ?_ | refine SL.nil ?_ | refine W.al fun b_ => ?_ | refine W.bx fun b_ => ?_ | refine W.bxa fun b_ => ?_ | refine W.sw ?_ | refine W.sa ?_ | refine W.sk ?_ | refine W.bs0 fun b_ => ?_ | refine W.ma fun b_ => ?_ | refine W.bsl fun b_ => ?_ | refine W.zu ?_ | refine W.zf ?_ | refine W.zd ?_ | refine W.zs ?_ | refine W.zv ?_ | refine W.zx ?_ | refine W.ex ?_ | refine W.mf ?_ | refine W.mk ?_))
    refine SL.pu (p_sl3 (l := i) (h := i + m) (c := ko + i) rfl rfl rfl rfl rfl rfl (by omega) (by omega) (by omega) (by omega) (by omega)) rfl rfl ?_
    refine SL.nil ?_
    have hY' := hY k Hk (by omega) hJ
    rw [← hik, hm] at hY'
    rw [show i + m - i = m by omega]
    refine SJ.yield Hk rfl rfl rfl rfl rfl hY' (fun w2 hs => hw.ro (Hc := Hk) hs) ?_
    rintro _ H' (⟨rfl, hJ'⟩ | ⟨rfl, hJx⟩)
    · refine SJ.all ?_
      (repeat' (first | refine W.mv ?_ | refine W.zl ?_ | refine W.fa ?_ | refine W.nl ?_ | refine W.as ?_ | refine W.zb ?_ | refine W.za ?_ | refine W.zi ?_ | refine W.zc ?_ | refine W.zp ?_ | refine W.st ?_ | refine SL.nilB ?_ | refine SL.nil ?_ | refine W.al fun b_ => ?_ | refine W.bx fun b_ => ?_ | refine W.bxa fun b_ => ?_ | refine W.sw ?_ | refine W.sa ?_ | refine W.sk ?_ | refine W.bs0 fun b_ => ?_ | refine W.ma fun b_ => ?_ | refine W.bsl fun b_ => ?_ | refine W.zu ?_ | refine W.zf ?_ | refine W.zd ?_ | refine W.zs ?_ | refine W.zv ?_ | refine W.zx ?_ | refine W.ex ?_ | refine W.mf ?_ | refine W.mk ?_ | refine SW.seq ?_ | refine SW.region ?_ | refine SW.block ?_ | refine SW.cond_t rfl ?_ | refine SW.cond_f rfl ?_ | refine SW.exit ?_ | refine SW.ret ?_ | refine SW.skip ?_))
      rw [show (i : Int) + (n : Int) = ((i + n : Nat) : Int) by omega]
      refine HandF.mk (i + n, k + 1, H') ?_
      exact ⟨by dsimp only; rw [hik, Nat.mul_succ], by dsimp only; omega, hJ'⟩
    · refine SJ.all ?_
      (repeat' (first | refine W.mv ?_ | refine W.zl ?_ | refine W.fa ?_ | refine W.nl ?_ | refine W.as ?_ | refine W.zb ?_ | refine W.za ?_ | refine W.zi ?_ | refine W.zc ?_ | refine W.zp ?_ | refine W.st ?_ | refine SL.nilB ?_ | refine SL.nil ?_ | refine W.al fun b_ => ?_ | refine W.bx fun b_ => ?_ | refine W.bxa fun b_ => ?_ | refine W.sw ?_ | refine W.sa ?_ | refine W.sk ?_ | refine W.bs0 fun b_ => ?_ | refine W.ma fun b_ => ?_ | refine W.bsl fun b_ => ?_ | refine W.zu ?_ | refine W.zf ?_ | refine W.zd ?_ | refine W.zs ?_ | refine W.zv ?_ | refine W.zx ?_ | refine W.ex ?_ | refine W.mf ?_ | refine W.mk ?_ | refine SW.seq ?_ | refine SW.region ?_ | refine SW.block ?_ | refine SW.cond_t rfl ?_ | refine SW.cond_f rfl ?_ | refine SW.exit ?_ | refine SW.ret ?_ | refine SW.skip ?_))
      refine Fin.to H' ?_
      exact F.f0 ⟨rfl, .inr hJx⟩
  · (repeat' (first | refine W.mv ?_ | refine W.zl ?_ | refine W.fa ?_ | refine W.nl ?_ | refine W.as ?_ | refine W.zb ?_ | refine W.za ?_ | refine W.zi ?_ | refine W.zc ?_ | refine W.zp ?_ | refine W.st ?_ | refine SL.nilB ?_ | refine SL.nil ?_ | refine W.al fun b_ => ?_ | refine W.bx fun b_ => ?_ | refine W.bxa fun b_ => ?_ | refine W.sw ?_ | refine W.sa ?_ | refine W.sk ?_ | refine W.bs0 fun b_ => ?_ | refine W.ma fun b_ => ?_ | refine W.bsl fun b_ => ?_ | refine W.zu ?_ | refine W.zf ?_ | refine W.zd ?_ | refine W.zs ?_ | refine W.zv ?_ | refine W.zx ?_ | refine W.ex ?_ | refine W.mf ?_ | refine W.mk ?_ | refine SW.seq ?_ | refine SW.region ?_ | refine SW.block ?_ | refine SW.cond_t rfl ?_ | refine SW.cond_f rfl ?_ | refine SW.exit ?_ | refine SW.ret ?_ | refine SW.skip ?_))
    refine Fin.to Hk ?_
    exact F.f0 ⟨rfl, .inl ⟨k, by omega, by omega, hJ⟩⟩
/-- Chunks of a slice: the iterator. -/
theorem chunk_p {kv : Value} [One kv] {n : Nat} (hn : 0 < n) : Tri Tryz.prog 66 [kv, .int .i64 (n : Int)] [] (fun _ => True)
    (fun v H => ∃ bs bn, v = .func (.func 93) #[] #[.pointer (some ⟨bs, 0, none⟩), .pointer (some ⟨bn, 0, none⟩)] ∧ H = [(bs, cl [kv] 164), (bn, cl [.int .i64 (n : Int)] 3)]) := by
  refine Tri.mk Tryz.func66 rfl Tryz.ntmps66 rfl fun w hw => ?_
  (repeat' (first | refine W.mv ?_ | refine W.zl ?_ | refine W.fa ?_ | refine W.nl ?_ | refine W.as ?_ | refine W.zb ?_ | refine W.za ?_ | refine W.zi ?_ | refine W.zc ?_ | refine W.zp ?_ | refine W.st ?_ | refine SL.nilB ?_ | refine SL.nil ?_ | refine W.al fun b_ => ?_ | refine W.bx fun b_ => ?_ | refine W.bxa fun b_ => ?_ | refine W.sw ?_ | refine W.sa ?_ | refine W.sk ?_ | refine W.bs0 fun b_ => ?_ | refine W.ma fun b_ => ?_ | refine W.bsl fun b_ => ?_ | refine W.zu ?_ | refine W.zf ?_ | refine W.zd ?_ | refine W.zs ?_ | refine W.zv ?_ | refine W.zx ?_ | refine W.ex ?_ | refine W.mf ?_ | refine W.mk ?_ | refine SW.seq ?_ | refine SW.region ?_ | refine SW.block ?_ | refine SW.cond_t rfl ?_ | refine SW.cond_f rfl ?_ | refine SW.exit ?_ | refine SW.ret ?_ | refine SW.skip ?_))
  rename_i bs
  refine Fin.to [(bs, cl [kv] 164), (b_, cl [.int .i64 (n : Int)] 3)] ?_
  exact F.f1 ⟨bs, b_, rfl, rfl⟩
end Go.Proofs.YtieamijnajbcnaaGreat
