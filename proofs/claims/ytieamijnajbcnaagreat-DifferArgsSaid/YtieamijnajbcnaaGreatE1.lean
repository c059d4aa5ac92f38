/- The laws of 12: a book, few leaves, leaves as the program's; chapter 12's example. -/
import Derived.Test.YtieamijnajbcnaaGreatD9
set_option linter.unusedVariables false
set_option linter.unusedSimpArgs false
namespace Go.Proofs.YtieamijnajbcnaaGreat
open Go
attribute [local irreducible] SW SL SQ SH SA SS Pu Fin CutF HandF

theorem Book_p : Tri Tryz.prog 5 [] [] (fun _ => True) (fun v H => ∃ b tp, v = .pointer (some ⟨b, 0, none⟩) ∧ BookP b tp Bk.new H) := by
  refine Tri.mk Tryz.func5 rfl Tryz.ntmps5 rfl fun w hw => ?_
  (repeat' (first | refine W.mv ?_ | refine W.zl ?_ | refine W.fa ?_ | refine W.nl ?_ | refine W.as ?_ | refine W.zb ?_ | refine W.za ?_ | refine W.zi ?_ | refine W.zc ?_ | refine W.zp ?_ | refine W.st ?_ | refine SL.nilB ?_ | refine SL.nil ?_ | refine W.al fun b_ => ?_ | refine W.bx fun b_ => ?_ | refine W.bxa fun b_ => ?_ | refine W.sw ?_ | refine W.sa ?_ | refine W.sk ?_ | refine W.bs0 fun b_ => ?_ | refine W.ma fun b_ => ?_ | refine W.bsl fun b_ => ?_ | refine W.zu ?_ | refine W.zf ?_ | refine W.zd ?_ | refine W.zs ?_ | refine W.zv ?_ | refine W.zx ?_ | refine W.ex ?_ | refine W.mf ?_ | refine W.mk ?_ | refine SW.seq ?_ | refine SW.region ?_ | refine SW.block ?_ | refine SW.cond_t rfl ?_ | refine SW.cond_f rfl ?_ | refine SW.exit ?_ | refine SW.ret ?_ | refine SW.skip ?_))
  refine W.call make_p ?_
  rintro _ _ ⟨tp, rfl, rfl⟩
  (repeat' (first | refine W.mv ?_ | refine W.zl ?_ | refine W.fa ?_ | refine W.nl ?_ | refine W.as ?_ | refine W.zb ?_ | refine W.za ?_ | refine W.zi ?_ | refine W.zc ?_ | refine W.zp ?_ | refine W.st ?_ | refine SL.nilB ?_ | refine SL.nil ?_ | refine W.al fun b_ => ?_ | refine W.bx fun b_ => ?_ | refine W.bxa fun b_ => ?_ | refine W.sw ?_ | refine W.sa ?_ | refine W.sk ?_ | refine W.bs0 fun b_ => ?_ | refine W.ma fun b_ => ?_ | refine W.bsl fun b_ => ?_ | refine W.zu ?_ | refine W.zf ?_ | refine W.zd ?_ | refine W.zs ?_ | refine W.zv ?_ | refine W.zx ?_ | refine W.ex ?_ | refine W.mf ?_ | refine W.mk ?_ | refine SW.seq ?_ | refine SW.region ?_ | refine SW.block ?_ | refine SW.cond_t rfl ?_ | refine SW.cond_f rfl ?_ | refine SW.exit ?_ | refine SW.ret ?_ | refine SW.skip ?_))
  refine W.call (BNew_p tp) ?_
  rintro _ B0 ⟨b, rfl, hB⟩
  (repeat' (first | refine W.mv ?_ | refine W.zl ?_ | refine W.fa ?_ | refine W.nl ?_ | refine W.as ?_ | refine W.zb ?_ | refine W.za ?_ | refine W.zi ?_ | refine W.zc ?_ | refine W.zp ?_ | refine W.st ?_ | refine SL.nilB ?_ | refine SL.nil ?_ | refine W.al fun b_ => ?_ | refine W.bx fun b_ => ?_ | refine W.bxa fun b_ => ?_ | refine W.sw ?_ | refine W.sa ?_ | refine W.sk ?_ | refine W.bs0 fun b_ => ?_ | refine W.ma fun b_ => ?_ | refine W.bsl fun b_ => ?_ | refine W.zu ?_ | refine W.zf ?_ | refine W.zd ?_ | refine W.zs ?_ | refine W.zv ?_ | refine W.zx ?_ | refine W.ex ?_ | refine W.mf ?_ | refine W.mk ?_ | refine SW.seq ?_ | refine SW.region ?_ | refine SW.block ?_ | refine SW.cond_t rfl ?_ | refine SW.cond_f rfl ?_ | refine SW.exit ?_ | refine SW.ret ?_ | refine SW.skip ?_))
  refine Fin.to B0 ?_
  exact F.f1 ⟨b, tp, rfl, hB⟩
/-- The first ones of a row of sums. -/
theorem Rd.preN {K : List Nat} {w : World} {a : Option Addr} {cap : Nat} {L : List (List UInt8)} (m : Nat) (hL : D32 L) (h : Rd K w 32 (.slice a L.length cap) (cbs L.flatten)) : Rd K w 32 (.slice a (min m L.length) cap) (cbs (L.take m).flatten) := by
  obtain ⟨a', len', cap', he, h1, h2, h3⟩ := h
  cases he
  refine ⟨_, _, _, rfl, ?_, by omega, ?_⟩
  · rw [cbs_len, flatN_len (fun x hx => hL x (List.mem_of_mem_take hx)), List.length_take]
  · rcases h3 with h3 | ⟨b, o, l, T, fz, rfl, hb, hk, hy⟩
    · left; omega
    · right
      refine ⟨b, o, l, T, fz, rfl, hb, hk, ?_⟩
      rw [← flatN_take hL, show (cbs (List.take (m * 32) L.flatten)) = (cbs L.flatten).take (m * 32) by simp [cbs, List.map_take], ← hy, List.take_take]
      congr 1
      omega
end Go.Proofs.YtieamijnajbcnaaGreat
