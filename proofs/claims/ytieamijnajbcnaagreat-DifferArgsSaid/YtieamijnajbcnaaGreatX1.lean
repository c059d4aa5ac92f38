/- Two trees held against one another. -/
import Derived.Test.YtieamijnajbcnaaGreatS6
import Derived.Test.YtieamijnajbcnaaGreatD7
import Derived.Test.YtieamijnajbcnaaGreatAQ
import Derived.Test.YtieamijnajbcnaaGreatT3
set_option linter.unusedVariables false
set_option linter.unusedSimpArgs false
set_option linter.unusedSectionVars false
namespace Go.Proofs.YtieamijnajbcnaaGreat
open Go
attribute [local irreducible] SW SL SQ SH SA SS Pu Fin CutF HandF
open Pq

def aheadB (x y : Int × Int) : Bool := decide (y.1 < x.1 ∨ (x.1 = y.1 ∧ x.2 < y.2))
theorem aheadB_ord : Ord (Int × Int) aheadB := ⟨fun x y h => by simp [aheadB] at h ⊢; omega, fun x y z h1 h2 => by simp [aheadB] at h1 h2 ⊢; omega⟩
abbrev fAh : FuncId := 16
theorem ahead_p : LessF fAh aheadB := fun x y => by
  refine Tri.mk Tryz.func16 rfl Tryz.ntmps16 rfl fun w hw => ?_
  by_cases h1 : y.1 < x.1
  · rw [show aheadB x y = true by simp [aheadB, h1]]
    (repeat' (first | refine W.mv ?_ | refine W.zl ?_ | refine W.fa ?_ | refine W.nl ?_ | refine W.as ?_ | refine W.zb ?_ | refine W.za ?_ | refine W.zi ?_ | refine W.zc ?_ | refine W.zp ?_ | refine W.st ?_ | refine SL.nilB ?_ | refine SL.nil ?_ | refine W.al fun b_ => ?_ | refine W.bx fun b_ => ?_ | refine W.bxa fun b_ => ?_ | refine W.sw ?_ | refine W.sa ?_ | refine W.sk ?_ | refine W.bs0 fun b_ => ?_ | refine W.ma fun b_ => ?_ | refine W.bsl fun b_ => ?_ | refine W.zu ?_ | refine W.zf ?_ | refine W.zd ?_ | refine W.zs ?_ | refine W.zv ?_ | refine W.zx ?_ | refine W.ex ?_ | refine W.mf ?_ | refine W.mk ?_ | refine SW.seq ?_ | refine SW.region ?_ | refine SW.block ?_ | refine SW.cond_t rfl ?_ | refine SW.cond_f rfl ?_ | refine SW.exit ?_ | refine SW.ret ?_ | refine SW.skip ?_))
    refine Fin.to [] ?_
    exact F.f1 ⟨rfl, rfl⟩
  · by_cases h2 : x.1 = y.1
    · by_cases h3 : x.2 < y.2
      · rw [show aheadB x y = true by simp [aheadB, h2, h3]]
        (repeat' (first | refine W.mv ?_ | refine W.zl ?_ | refine W.fa ?_ | refine W.nl ?_ | refine W.as ?_ | refine W.zb ?_ | refine W.za ?_ | refine W.zi ?_ | refine W.zc ?_ | refine W.zp ?_ | refine W.st ?_ | refine SL.nilB ?_ | refine SL.nil ?_ | refine W.al fun b_ => ?_ | refine W.bx fun b_ => ?_ | refine W.bxa fun b_ => ?_ | refine W.sw ?_ | refine W.sa ?_ | refine W.sk ?_ | refine W.bs0 fun b_ => ?_ | refine W.ma fun b_ => ?_ | refine W.bsl fun b_ => ?_ | refine W.zu ?_ | refine W.zf ?_ | refine W.zd ?_ | refine W.zs ?_ | refine W.zv ?_ | refine W.zx ?_ | refine W.ex ?_ | refine W.mf ?_ | refine W.mk ?_ | refine SW.seq ?_ | refine SW.region ?_ | refine SW.block ?_ | refine SW.cond_t rfl ?_ | refine SW.cond_f rfl ?_ | refine SW.exit ?_ | refine SW.ret ?_ | refine SW.skip ?_))
        refine Fin.to [] ?_
        exact F.f1 ⟨rfl, rfl⟩
      · rw [show aheadB x y = false by simp [aheadB, h1, h3]]
        (repeat' (first | refine W.mv ?_ | refine W.zl ?_ | refine W.fa ?_ | refine W.nl ?_ | refine W.as ?_ | refine W.zb ?_ | refine W.za ?_ | refine W.zi ?_ | refine W.zc ?_ | refine W.zp ?_ | refine W.st ?_ | refine SL.nilB ?_ | refine SL.nil ?_ | refine W.al fun b_ => ?_ | refine W.bx fun b_ => ?_ | refine W.bxa fun b_ => ?_ | refine W.sw ?_ | refine W.sa ?_ | refine W.sk ?_ | refine W.bs0 fun b_ => ?_ | refine W.ma fun b_ => ?_ | refine W.bsl fun b_ => ?_ | refine W.zu ?_ | refine W.zf ?_ | refine W.zd ?_ | refine W.zs ?_ | refine W.zv ?_ | refine W.zx ?_ | refine W.ex ?_ | refine W.mf ?_ | refine W.mk ?_ | refine SW.seq ?_ | refine SW.region ?_ | refine SW.block ?_ | refine SW.cond_t rfl ?_ | refine SW.cond_f rfl ?_ | refine SW.exit ?_ | refine SW.ret ?_ | refine SW.skip ?_))
        refine Fin.to [] ?_
        exact F.f1 ⟨rfl, rfl⟩
    · rw [show aheadB x y = false by simp [aheadB, h1, h2]]
      (repeat' (first | refine W.mv ?_ | refine W.zl ?_ | refine W.fa ?_ | refine W.nl ?_ | refine W.as ?_ | refine W.zb ?_ | refine W.za ?_ | refine W.zi ?_ | refine W.zc ?_ | refine W.zp ?_ | refine W.st ?_ | refine SL.nilB ?_ | refine SL.nil ?_ | refine W.al fun b_ => ?_ | refine W.bx fun b_ => ?_ | refine W.bxa fun b_ => ?_ | refine W.sw ?_ | refine W.sa ?_ | refine W.sk ?_ | refine W.bs0 fun b_ => ?_ | refine W.ma fun b_ => ?_ | refine W.bsl fun b_ => ?_ | refine W.zu ?_ | refine W.zf ?_ | refine W.zd ?_ | refine W.zs ?_ | refine W.zv ?_ | refine W.zx ?_ | refine W.ex ?_ | refine W.mf ?_ | refine W.mk ?_ | refine SW.seq ?_ | refine SW.region ?_ | refine SW.block ?_ | refine SW.cond_t rfl ?_ | refine SW.cond_f rfl ?_ | refine SW.exit ?_ | refine SW.ret ?_ | refine SW.skip ?_))
      refine Fin.to [] ?_
      exact F.f1 ⟨rfl, rfl⟩
def plx (x : Sx) : Pl := (x.a.toNat, x.b.toNat)
def NN (ws : List Sx) : Prop := ∀ x ∈ ws, 0 ≤ x.a ∧ 0 ≤ x.b
theorem pop_p {qp : Nat} {ws : List Sx} {next : Nat} {H : Hp} (hQ : QueueP qp fAh aheadB ws next H) (hN : NN ws) (hn : ws.length ≤ 1000000) : Tri Tryz.prog 19 [.pointer (some ⟨qp, 0, none⟩)] H (fun _ => True)
    (fun v H' => ∃ (p : Pl) (ok : Bool) (ws' : List Sx), v = .tuple #[placeV p.1 p.2, .bool ok] ∧ QueueP qp fAh aheadB ws' next H' ∧ NN ws' ∧ ((ok = false ∧ ws = [] ∧ ws' = []) ∨ (ok = true ∧ (ws.map plx).Perm (p :: ws'.map plx) ∧ ∀ y ∈ ws'.map plx, ¬ pah y p))) := by
  refine (QPop_p aheadB_ord ahead_p hQ hn).mono ?_
  rintro v H' (⟨h1, rfl, rfl⟩ | ⟨x, hmin, hQ2, rfl⟩)
  · subst h1
    exact ⟨(0, 0), false, [], rfl, hQ, hN, .inl ⟨rfl, rfl, rfl⟩⟩
  · obtain ⟨ha, hb⟩ := hN x hmin.1
    refine ⟨plx x, true, ws.erase x, ?_, hQ2, fun y hy => hN y (List.mem_of_mem_erase hy), .inr ⟨rfl, ?_, fun q hq h => ?_⟩⟩
    · unfold placeV tc plx
      dsimp only
      rw [Int.toNat_of_nonneg ha, Int.toNat_of_nonneg hb]
    · exact (List.perm_cons_erase hmin.1).map plx
    · obtain ⟨y, hy, rfl⟩ := List.mem_map.1 hq
      have hy1 := List.mem_of_mem_erase hy
      have h1 := hmin.2 y hy1
      obtain ⟨hc, hd⟩ := hN y hy1
      have h2 : aheadB (y.a, y.b) (x.a, x.b) = true := by
        unfold pah plx at h
        dsimp only at h
        unfold aheadB
        refine decide_eq_true ?_
        dsimp only
        omega
      unfold le lts at h1
      rw [h2] at h1
      simp at h1
abbrev tcP (p : Pl) : Int × Int := ((p.1 : Int), (p.2 : Int))
theorem b2a (p q : Int × Int) : bfill (fun i => some (i * 2, 2)) (zs [.int .i64 0, .int .i64 0] 2) [(0, .agg [(.int .i64 p.1 : Value), .int .i64 p.2].toArray), (1, .agg [(.int .i64 q.1 : Value), .int .i64 q.2].toArray)] = some ([p, q].flatMap tc) := rfl
theorem b1a (p : Int × Int) : bfill (fun i => some (i * 2, 2)) (zs [.int .i64 0, .int .i64 0] 1) [(0, .agg [(.int .i64 p.1 : Value), .int .i64 p.2].toArray)] = some ([p].flatMap tc) := rfl
theorem below_p (d i : Nat) (h1 : 1 ≤ d) (hd : d ≤ 1000) (hi : i ≤ 1099511627776) : Tri Tryz.prog 21 [placeV d i] [] (fun _ => True) (fun v H => ∃ r, v = .slice (some ⟨r, 0, none⟩) 2 2 ∧ H = [(r, cl ([tcP (d - 1, 2 * i), tcP (d - 1, 2 * i + 1)].flatMap tc) 66)]) := by
  refine Tri.mk Tryz.func21 rfl Tryz.ntmps21 rfl fun w hw => ?_
  have e1 : ((d - 1 : Nat) : Int) = (d : Int) - 1 := by omega
  have hb1 : bfill (fun i => [(0, 1), (1, 1)][i]?) ([.int .i64 0] ++ [.int .i64 0]) [(0, .int .i64 ((d : Int) - 1)), (1, .int .i64 (2 * (i : Int)))] = some [.int .i64 ((d - 1 : Nat) : Int), .int .i64 ((2 * i : Nat) : Int)] := by rw [e1]; rfl
  have hb2 : bfill (fun i => [(0, 1), (1, 1)][i]?) ([.int .i64 0] ++ [.int .i64 0]) [(0, .int .i64 ((d : Int) - 1)), (1, .int .i64 (2 * (i : Int) + 1))] = some [.int .i64 ((d - 1 : Nat) : Int), .int .i64 ((2 * i + 1 : Nat) : Int)] := by rw [e1]; rfl
  have hb3 := b2a (tcP (d - 1, 2 * i)) (tcP (d - 1, 2 * i + 1))
  (repeat' (first | refine W.mv ?_ | refine W.zl ?_ | refine W.fa ?_ | refine W.nl ?_ | refine W.as ?_ | refine W.zb ?_ | refine W.za ?_ | refine W.zi ?_ | refine W.zc ?_ | refine W.zp ?_ | refine W.st ?_ | refine SL.nilB ?_ | refine SL.nil ?_ | refine W.al fun b_ => ?_ | refine W.bx fun b_ => ?_ | refine W.bxa fun b_ => ?_ | refine W.sw ?_ | refine W.sa ?_ | refine W.sk ?_ | refine W.bs0 fun b_ => ?_ | refine W.ma fun b_ => ?_ | refine W.bsl fun b_ => ?_ | refine W.zu ?_ | refine W.zf ?_ | refine W.zd ?_ | refine W.zs ?_ | refine W.zv ?_ | refine W.zx ?_ | refine W.ex ?_ | refine W.mf ?_ | refine W.mk ?_ | refine SW.seq ?_ | refine SW.region ?_ | refine SW.block ?_ | refine SW.cond_t rfl ?_ | refine SW.cond_f rfl ?_ | refine SW.exit ?_ | refine SW.ret ?_ | refine SW.skip ?_))
  refine Fin.to [(b_, cl ([tcP (d - 1, 2 * i), tcP (d - 1, 2 * i + 1)].flatMap tc) 66)] ?_
  exact F.f1 ⟨b_, rfl, rfl⟩
theorem Trees_nil (v : Value) [One v] : Tri Tryz.prog 6 [.pointer none, v] [] (fun _ => True) (fun r H => r = .tuple #[.slice none 0 0, .int .i64 0, .int .i64 2] ∧ H = []) := by
  refine Tri.mk Tryz.func6 rfl Tryz.ntmps6 rfl fun w hw => ?_
  (repeat' (first | refine W.mv ?_ | refine W.zl ?_ | refine W.fa ?_ | refine W.nl ?_ | refine W.as ?_ | refine W.zb ?_ | refine W.za ?_ | refine W.zi ?_ | refine W.zc ?_ | refine W.zp ?_ | refine W.st ?_ | refine SL.nilB ?_ | refine SL.nil ?_ | refine W.al fun b_ => ?_ | refine W.bx fun b_ => ?_ | refine W.bxa fun b_ => ?_ | refine W.sw ?_ | refine W.sa ?_ | refine W.sk ?_ | refine W.bs0 fun b_ => ?_ | refine W.ma fun b_ => ?_ | refine W.bsl fun b_ => ?_ | refine W.zu ?_ | refine W.zf ?_ | refine W.zd ?_ | refine W.zs ?_ | refine W.zv ?_ | refine W.zx ?_ | refine W.ex ?_ | refine W.mf ?_ | refine W.mk ?_ | refine SW.seq ?_ | refine SW.region ?_ | refine SW.block ?_ | refine SW.cond_t rfl ?_ | refine SW.cond_f rfl ?_ | refine SW.exit ?_ | refine SW.ret ?_ | refine SW.skip ?_))
  exact F.f3 ⟨rfl, rfl⟩
def wt (q : Pl) : Nat := 2 ^ (q.1 + 1) - 1
def wtL (Q : List Pl) : Nat := (Q.map wt).foldr (· + ·) 0
theorem wtL_cons (q : Pl) (Q : List Pl) : wtL (q :: Q) = wt q + wtL Q := rfl
theorem wtL_app (Q R : List Pl) : wtL (Q ++ R) = wtL Q + wtL R := by
  induction Q with
  | nil => simp [wtL]
  | cons a t ih => rw [List.cons_append, wtL_cons, wtL_cons, ih]; omega
theorem wtL_perm {Q R : List Pl} (h : Q.Perm R) : wtL Q = wtL R := by
  induction h with
  | nil => rfl
  | cons x h ih => rw [wtL_cons, wtL_cons, ih]
  | swap x y l => rw [wtL_cons, wtL_cons, wtL_cons, wtL_cons]; omega
  | trans h1 h2 ih1 ih2 => rw [ih1, ih2]
theorem wt_pos (q : Pl) : 1 ≤ wt q := by
  unfold wt
  have : 2 ^ 1 ≤ 2 ^ (q.1 + 1) := Nat.pow_le_pow_right (by omega) (by omega)
  omega
theorem wtL_len (Q : List Pl) : Q.length ≤ wtL Q := by
  induction Q with
  | nil => simp
  | cons a t ih =>
    have := wt_pos a
    rw [wtL_cons, List.length_cons]; omega
theorem wt_kids {p : Pl} (h : 1 ≤ p.1) : wtL [(p.1 - 1, 2 * p.2), (p.1 - 1, 2 * p.2 + 1)] + 1 = wt p := by
  rw [wtL_cons, wtL_cons]
  unfold wt wtL
  simp only [List.map_nil, List.foldr_nil, Nat.add_zero]
  rw [show p.1 - 1 + 1 = p.1 by omega, Nat.pow_succ]
  have : 1 ≤ 2 ^ p.1 := Nat.one_le_two_pow
  omega
theorem nodeAt_in (l : List (List UInt8)) {d i : Nat} (hd : d ≤ dep l.length) (hi : i < 2 ^ (dep l.length - d)) : nodeAt l (d : Int) (i : Int) = atV l d i := by
  unfold nodeAt
  rw [if_pos ⟨by omega, by omega, by omega, by rw [Int.toNat_natCast]; omega⟩, Int.toNat_natCast, Int.toNat_natCast]
end Go.Proofs.YtieamijnajbcnaaGreat
