/- A number's lowest bytes, the program's and the document's. -/
import Derived.Test.YtieamijnajbcnaaGreatT1
import Derived.Test.YtieamijnajbcnaaGreatAG
set_option linter.unusedVariables false
set_option linter.unusedSimpArgs false
namespace Go.Proofs.YtieamijnajbcnaaGreat
open Go
attribute [local irreducible] SW SL SQ SH SA SS Pu Fin CutF HandF

instance (priority := low) cv8n (n : Nat) : Cv .u8 (n : Int) ((UInt8.ofNat n).toNat : Int) := ⟨by
  rw [wrap8, UInt8.toNat_ofNat']; omega⟩
theorem Sl.own (e n b : Nat) {len : Nat} {xs : List Value} (h : xs.length = len * n) : Sl e n (.slice (some ⟨b, 0, none⟩) len len) xs [(b, cl xs e)] := by
  have := Sl.mk (e := e) (n := n) (b := b) (len := len) (cap := len) (xs := xs) (junk := []) h (by simp) (Nat.le_refl _)
  rwa [List.append_nil] at this
theorem put_n (n : Nat) (v : UInt64) (hn : 1 ≤ n) (hn8 : n ≤ 8) : Tri Tryz.prog 58 [.int .i64 (n : Int), u64v v] [] (fun _ => True) (fun r H => ∃ b, r = .slice (some ⟨b, 0, none⟩) n n ∧ H = [(b, cl (cbs (leN n v)) 5)]) := by
  refine Tri.mk Tryz.func58 rfl Tryz.ntmps58 rfl fun w hw => ?_
  (repeat' (first | refine W.mv ?_ | refine W.zl ?_ | refine W.fa ?_ | refine W.nl ?_ | refine W.as ?_ | refine W.zb ?_ | refine W.za ?_ | refine W.zi ?_ | refine W.zc ?_ | refine W.zp ?_ | refine W.st ?_ | refine SL.nilB ?_ | refine SL.nil ?_ | refine W.al fun b_ => ?_ | refine W.bx fun b_ => ?_ | refine W.bxa fun b_ => ?_ | refine W.sw ?_ | refine W.sa ?_ | refine W.sk ?_ | refine W.bs0 fun b_ => ?_ | refine W.ma fun b_ => ?_ | refine W.bsl fun b_ => ?_ | refine W.zu ?_ | refine W.zf ?_ | refine W.zd ?_ | refine W.zs ?_ | refine W.zv ?_ | refine W.zx ?_ | refine W.ex ?_ | refine W.mf ?_ | refine W.mk ?_ | refine SW.seq ?_ | refine SW.region ?_ | refine SW.block ?_ | refine SW.cond_t rfl ?_ | refine SW.cond_f rfl ?_ | refine SW.exit ?_ | refine SW.ret ?_ | refine SW.skip ?_))
  refine W.call (bytes_p n v (byU v) 88 [numV n v] hn hn8 (fun k hk => up_p n v k (by omega))) ?_
  rintro _ _ ⟨b, rfl, rfl⟩
  rw [show (List.range n).map (byU v) = leN n v from rfl]
  (repeat' (first | refine W.mv ?_ | refine W.zl ?_ | refine W.fa ?_ | refine W.nl ?_ | refine W.as ?_ | refine W.zb ?_ | refine W.za ?_ | refine W.zi ?_ | refine W.zc ?_ | refine W.zp ?_ | refine W.st ?_ | refine SL.nilB ?_ | refine SL.nil ?_ | refine W.al fun b_ => ?_ | refine W.bx fun b_ => ?_ | refine W.bxa fun b_ => ?_ | refine W.sw ?_ | refine W.sa ?_ | refine W.sk ?_ | refine W.bs0 fun b_ => ?_ | refine W.ma fun b_ => ?_ | refine W.bsl fun b_ => ?_ | refine W.zu ?_ | refine W.zf ?_ | refine W.zd ?_ | refine W.zs ?_ | refine W.zv ?_ | refine W.zx ?_ | refine W.ex ?_ | refine W.mf ?_ | refine W.mk ?_ | refine SW.seq ?_ | refine SW.region ?_ | refine SW.block ?_ | refine SW.cond_t rfl ?_ | refine SW.cond_f rfl ?_ | refine SW.exit ?_ | refine SW.ret ?_ | refine SW.skip ?_))
  refine Fin.to [(b, cl (cbs (leN n v)) 5)] ?_
  refine F.f1 ?_
  exact ⟨b, rfl, rfl⟩
end Go.Proofs.YtieamijnajbcnaaGreat
