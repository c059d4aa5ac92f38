/- The order of places; which leaves there are. -/
import Derived.Test.YtieamijnajbcnaaD9
import Derived.Test.YtieamijnajbcnaaAP
import Derived.Test.YtieamijnajbcnaaT2
set_option linter.unusedVariables false
set_option linter.unusedSimpArgs false
set_option linter.unusedSectionVars false
namespace Go.Proofs.Ytieamijnajbcnaa
open Go
attribute [local irreducible] SW SL SQ SH SA SS Pu Fin CutF HandF
open Pq

def belowB (x y : Int × Int) : Bool := decide (x.1 < y.1 ∨ (x.1 = y.1 ∧ x.2 < y.2))
theorem belowB_ord : Ord (Int × Int) belowB := ⟨fun x y h => by simp [belowB] at h ⊢; omega, fun x y z h1 h2 => by simp [belowB] at h1 h2 ⊢; omega⟩
abbrev fBl : FuncId := 69
theorem below_p : LessF fBl belowB := fun x y => by
  refine Tri.mk Try.func69 rfl Try.ntmps69 rfl fun w hw => ?_
  by_cases h1 : x.1 < y.1
  · rw [show belowB x y = true by simp [belowB, h1]]
    (repeat' (first | refine W.mv ?_ | refine W.zl ?_ | refine W.fa ?_ | refine W.nl ?_ | refine W.as ?_ | refine W.zb ?_ | refine W.za ?_ | refine W.zi ?_ | refine W.zc ?_ | refine W.zp ?_ | refine W.st ?_ | refine SL.nilB ?_ | refine SL.nil ?_ | refine W.al fun b_ => ?_ | refine W.bx fun b_ => ?_ | refine W.bxa fun b_ => ?_ | refine W.sw ?_ | refine W.sa ?_ | refine W.sk ?_ | refine W.bs0 fun b_ => ?_ | refine W.ma fun b_ => ?_ | refine W.bsl fun b_ => ?_ | refine W.zu ?_ | refine W.zf ?_ | refine W.zd ?_ | refine W.zs ?_ | refine W.zv ?_ | refine W.zx ?_ | refine W.ex ?_ | refine W.mf ?_ | refine W.mk ?_ | refine SW.seq ?_ | refine SW.region ?_ | refine SW.block ?_ | refine SW.cond_t rfl ?_ | refine SW.cond_f rfl ?_ | refine SW.exit ?_ | refine SW.ret ?_ | refine SW.skip ?_))
    refine Fin.to [] ?_
    exact F.f1 ⟨rfl, rfl⟩
  · by_cases h2 : x.1 = y.1
    · by_cases h3 : x.2 < y.2
      · rw [show belowB x y = true by simp [belowB, h2, h3]]
        (repeat' (first | refine W.mv ?_ | refine W.zl ?_ | refine W.fa ?_ | refine W.nl ?_ | refine W.as ?_ | refine W.zb ?_ | refine W.za ?_ | refine W.zi ?_ | refine W.zc ?_ | refine W.zp ?_ | refine W.st ?_ | refine SL.nilB ?_ | refine SL.nil ?_ | refine W.al fun b_ => ?_ | refine W.bx fun b_ => ?_ | refine W.bxa fun b_ => ?_ | refine W.sw ?_ | refine W.sa ?_ | refine W.sk ?_ | refine W.bs0 fun b_ => ?_ | refine W.ma fun b_ => ?_ | refine W.bsl fun b_ => ?_ | refine W.zu ?_ | refine W.zf ?_ | refine W.zd ?_ | refine W.zs ?_ | refine W.zv ?_ | refine W.zx ?_ | refine W.ex ?_ | refine W.mf ?_ | refine W.mk ?_ | refine SW.seq ?_ | refine SW.region ?_ | refine SW.block ?_ | refine SW.cond_t rfl ?_ | refine SW.cond_f rfl ?_ | refine SW.exit ?_ | refine SW.ret ?_ | refine SW.skip ?_))
        refine Fin.to [] ?_
        exact F.f1 ⟨rfl, rfl⟩
      · rw [show belowB x y = false by simp [belowB, h1, h3]]
        (repeat' (first | refine W.mv ?_ | refine W.zl ?_ | refine W.fa ?_ | refine W.nl ?_ | refine W.as ?_ | refine W.zb ?_ | refine W.za ?_ | refine W.zi ?_ | refine W.zc ?_ | refine W.zp ?_ | refine W.st ?_ | refine SL.nilB ?_ | refine SL.nil ?_ | refine W.al fun b_ => ?_ | refine W.bx fun b_ => ?_ | refine W.bxa fun b_ => ?_ | refine W.sw ?_ | refine W.sa ?_ | refine W.sk ?_ | refine W.bs0 fun b_ => ?_ | refine W.ma fun b_ => ?_ | refine W.bsl fun b_ => ?_ | refine W.zu ?_ | refine W.zf ?_ | refine W.zd ?_ | refine W.zs ?_ | refine W.zv ?_ | refine W.zx ?_ | refine W.ex ?_ | refine W.mf ?_ | refine W.mk ?_ | refine SW.seq ?_ | refine SW.region ?_ | refine SW.block ?_ | refine SW.cond_t rfl ?_ | refine SW.cond_f rfl ?_ | refine SW.exit ?_ | refine SW.ret ?_ | refine SW.skip ?_))
        refine Fin.to [] ?_
        exact F.f1 ⟨rfl, rfl⟩
    · rw [show belowB x y = false by simp [belowB, h1, h2]]
      (repeat' (first | refine W.mv ?_ | refine W.zl ?_ | refine W.fa ?_ | refine W.nl ?_ | refine W.as ?_ | refine W.zb ?_ | refine W.za ?_ | refine W.zi ?_ | refine W.zc ?_ | refine W.zp ?_ | refine W.st ?_ | refine SL.nilB ?_ | refine SL.nil ?_ | refine W.al fun b_ => ?_ | refine W.bx fun b_ => ?_ | refine W.bxa fun b_ => ?_ | refine W.sw ?_ | refine W.sa ?_ | refine W.sk ?_ | refine W.bs0 fun b_ => ?_ | refine W.ma fun b_ => ?_ | refine W.bsl fun b_ => ?_ | refine W.zu ?_ | refine W.zf ?_ | refine W.zd ?_ | refine W.zs ?_ | refine W.zv ?_ | refine W.zx ?_ | refine W.ex ?_ | refine W.mf ?_ | refine W.mk ?_ | refine SW.seq ?_ | refine SW.region ?_ | refine SW.block ?_ | refine SW.cond_t rfl ?_ | refine SW.cond_f rfl ?_ | refine SW.exit ?_ | refine SW.ret ?_ | refine SW.skip ?_))
      refine Fin.to [] ?_
      exact F.f1 ⟨rfl, rfl⟩
/-- A leaf and its number, as the program has it. -/
def leafC (x : Int × List UInt8) : List Value := .int .i64 x.1 :: cbs x.2
abbrev leafsC (xs : List (Int × List UInt8)) : List Value := (xs.map leafC).flatten
theorem leafC_len {x : Int × List UInt8} (h : x.2.length = 32) : (leafC x).length = 33 := by unfold leafC; rw [List.length_cons, cbs_len, h]
instance (x : Int × List UInt8) : OC (leafC x) := by unfold leafC; infer_instance
/-- Rows of cells that are read. -/
theorem Rd.rows {K : List Nat} {w : World} {v : Value} {n : Nat} {L : List (List Value)} (hn : 0 < n) (h : Rd K w n v L.flatten) (hL : ∀ x ∈ L, x.length = n) : ∃ (a : Option Addr) (cap : Nat), v = .slice a L.length cap ∧ L.length ≤ cap ∧
    ∀ (i : Nat) (x : List Value), L[i]? = some x → ∃ (b o : Nat) (l : List Value) (T : TypeId) (fz : Nat × Nat), a = some ⟨b, o, none⟩ ∧ w.heap[b]? = some (.cells l.toArray T fz) ∧ b ∉ K ∧ (l.drop (o + i * n)).take n = x := by
  obtain ⟨a, len, cap, rfl, h1, h2, h3⟩ := h
  have hl : L.length = len := by
    rw [flatN_len hL] at h1
    exact Nat.eq_of_mul_eq_mul_right hn h1
  subst hl
  refine ⟨a, cap, rfl, h2, fun i x hi => ?_⟩
  have hlt : i < L.length := (List.getElem?_eq_some_iff.1 hi).1
  obtain ⟨b, o, l, T, fz, rfl, hb, hk, hy⟩ := h3.resolve_left (by omega)
  refine ⟨b, o, l, T, fz, rfl, hb, hk, ?_⟩
  have hm : (i + 1) * n ≤ L.length * n := Nat.mul_le_mul_right n hlt
  rw [Nat.succ_mul] at hm
  rw [← flatN_get hL hi, ← hy, List.drop_take, List.take_take, List.drop_drop, Nat.min_eq_left (by omega)]
def okK (n : Nat) (k : Int) : Bool := decide (0 ≤ k ∧ k < n)
theorem set1_p {t b n bx : Nat} {L : List (List (List UInt8))} {H : Hp} (hT : TreeP t b n L H) (x : Int × List UInt8) (hx : x.2.length = 32) : Tri Try.prog 67 [.agg (leafC x).toArray, .pointer (some ⟨bx, 0, none⟩)] ((bx, cl [.pointer (some ⟨t, 0, none⟩)] 34) :: H) (fun _ => True) (fun v H' => v = .bool (!okK n x.1) ∧ H' = (bx, cl [.pointer (some ⟨t, 0, none⟩)] 34) :: H) := by
  refine Tri.mk Try.func67 rfl Try.ntmps67 rfl fun w hw => ?_
  have hl := leafC_len hx
  have hv : (leafC x)[0]? = some (.int .i64 x.1) := rfl
  have hO : OC (leafC x) := inferInstance
  generalize leafC x = Z at *
  (repeat' (first | refine W.mv ?_ | refine W.zl ?_ | refine W.fa ?_ | refine W.nl ?_ | refine W.as ?_ | refine W.zb ?_ | refine W.za ?_ | refine W.zi ?_ | refine W.zc ?_ | refine W.zp ?_ | refine W.st ?_ | refine SL.nilB ?_ | refine SL.nil ?_ | refine W.al fun b_ => ?_ | refine W.bx fun b_ => ?_ | refine W.bxa fun b_ => ?_ | refine W.sw ?_ | refine W.sa ?_ | refine W.sk ?_ | refine W.bs0 fun b_ => ?_ | refine W.ma fun b_ => ?_ | refine W.bsl fun b_ => ?_ | refine W.zu ?_ | refine W.zf ?_ | refine W.zd ?_ | refine W.zs ?_ | refine W.zv ?_ | refine W.zx ?_ | refine W.ex ?_ | refine W.mf ?_ | refine W.mk ?_ | refine SW.seq ?_ | refine SW.region ?_ | refine SW.block ?_ | refine SW.cond_t rfl ?_ | refine SW.cond_f rfl ?_ | refine SW.exit ?_ | refine SW.ret ?_ | refine SW.skip ?_))
  refine W.call (has_p hT x.1) ?_
  rintro _ Hx ⟨rfl, rfl⟩
  (repeat' (first | refine W.mv ?_ | refine W.zl ?_ | refine W.fa ?_ | refine W.nl ?_ | refine W.as ?_ | refine W.zb ?_ | refine W.za ?_ | refine W.zi ?_ | refine W.zc ?_ | refine W.zp ?_ | refine W.st ?_ | refine SL.nilB ?_ | refine SL.nil ?_ | refine W.al fun b_ => ?_ | refine W.bx fun b_ => ?_ | refine W.bxa fun b_ => ?_ | refine W.sw ?_ | refine W.sa ?_ | refine W.sk ?_ | refine W.bs0 fun b_ => ?_ | refine W.ma fun b_ => ?_ | refine W.bsl fun b_ => ?_ | refine W.zu ?_ | refine W.zf ?_ | refine W.zd ?_ | refine W.zs ?_ | refine W.zv ?_ | refine W.zx ?_ | refine W.ex ?_ | refine W.mf ?_ | refine W.mk ?_ | refine SW.seq ?_ | refine SW.region ?_ | refine SW.block ?_ | refine SW.cond_t rfl ?_ | refine SW.cond_f rfl ?_ | refine SW.exit ?_ | refine SW.ret ?_ | refine SW.skip ?_))
  refine Fin.to ((bx, cl [.pointer (some ⟨t, 0, none⟩)] 34) :: Hx) ?_
  exact F.f1 ⟨rfl, rfl⟩
theorem idx_p {t b n bx : Nat} {L : List (List (List UInt8))} {H : Hp} (hT : TreeP t b n L H) (xs : List (Int × List UInt8)) (hxs : ∀ x ∈ xs, x.2.length = 32) (hn : xs.length ≤ 1000000) (v : Value) :
    Tri Try.prog 88 [v, .func (.func 67) #[] #[.pointer (some ⟨bx, 0, none⟩)]] ((bx, cl [.pointer (some ⟨t, 0, none⟩)] 34) :: H)
      (fun w => Rd (((bx, cl [.pointer (some ⟨t, 0, none⟩)] 34) :: H).map Prod.fst) w 33 v (leafsC xs)) (fun r H' => ∃ z, r = .int .i64 z ∧ H' = (bx, cl [.pointer (some ⟨t, 0, none⟩)] 34) :: H ∧ decide (0 ≤ z) = xs.any (fun x => !okK n x.1)) := by
  refine Tri.mk Try.func88 rfl Try.ntmps88 rfl fun w hw => ?_
  have hL : ∀ y ∈ xs.map leafC, y.length = 33 := fun y hy => by
    obtain ⟨x, hx, rfl⟩ := List.mem_map.1 hy
    exact leafC_len (hxs x hx)
  obtain ⟨a, cap, rfl, hcap, hg⟩ := hw.rows (by decide) hL
  rw [List.length_map] at hcap ⊢
  (repeat' (first | refine W.mv ?_ | refine W.zl ?_ | refine W.fa ?_ | refine W.nl ?_ | refine W.as ?_ | refine W.zb ?_ | refine W.za ?_ | refine W.zi ?_ | refine W.zc ?_ | refine W.zp ?_ | refine W.st ?_ | refine SL.nilB ?_ | refine SL.nil ?_ | refine W.al fun b_ => ?_ | refine W.bx fun b_ => ?_ | refine W.bxa fun b_ => ?_ | refine W.sw ?_ | refine W.sa ?_ | refine W.sk ?_ | refine W.bs0 fun b_ => ?_ | refine W.ma fun b_ => ?_ | refine W.bsl fun b_ => ?_ | refine W.zu ?_ | refine W.zf ?_ | refine W.zd ?_ | refine W.zs ?_ | refine W.zv ?_ | refine W.zx ?_ | refine W.ex ?_ | refine W.mf ?_ | refine W.mk ?_ | refine SW.seq ?_ | refine SW.region ?_ | refine SW.cond_t rfl ?_ | refine SW.cond_f rfl ?_ | refine SW.exit ?_ | refine SW.ret ?_ | refine SW.skip ?_))
  refine SW.cutH [] ((bx, cl [.pointer (some ⟨t, 0, none⟩)] 34) :: H) (fun _ : Unit => []) (fun _ => (bx, cl [.pointer (some ⟨t, 0, none⟩)] 34) :: H) (fun _ => xs.any (fun x => !okK n x.1) = false) ?_ ?_
  · (repeat' (first | refine W.mv ?_ | refine W.zl ?_ | refine W.fa ?_ | refine W.nl ?_ | refine W.as ?_ | refine W.zb ?_ | refine W.za ?_ | refine W.zi ?_ | refine W.zc ?_ | refine W.zp ?_ | refine W.st ?_ | refine SL.nilB ?_ | refine SL.nil ?_ | refine W.al fun b_ => ?_ | refine W.bx fun b_ => ?_ | refine W.bxa fun b_ => ?_ | refine W.sw ?_ | refine W.sa ?_ | refine W.sk ?_ | refine W.bs0 fun b_ => ?_ | refine W.ma fun b_ => ?_ | refine W.bsl fun b_ => ?_ | refine W.zu ?_ | refine W.zf ?_ | refine W.zd ?_ | refine W.zs ?_ | refine W.zv ?_ | refine W.zx ?_ | refine W.ex ?_ | refine W.mf ?_ | refine W.mk ?_ | refine SW.seq ?_ | refine SW.region ?_ | refine SW.block ?_ | refine SW.cond_t rfl ?_ | refine SW.cond_f rfl ?_ | refine SW.exit ?_ | refine SW.ret ?_ | refine SW.skip ?_))
    refine SW.loopF [0, 1, 7] (fun i : Nat => [(8, .int .i64 (i : Int))]) (fun _ => (bx, cl [.pointer (some ⟨t, 0, none⟩)] 34) :: H) (fun i => xs.length - i) (fun i => i ≤ xs.length ∧ (xs.take i).any (fun x => !okK n x.1) = false) 0 ⟨Nat.zero_le _, by simp⟩ ?_
    rintro i ⟨hi, hbad⟩
    by_cases hin : i < xs.length
    · obtain ⟨x, hx⟩ : ∃ x, xs[i]? = some x := ⟨_, List.getElem?_eq_getElem hin⟩
      have hxm := List.mem_of_getElem? hx
      obtain ⟨pb, po, lv, T, fz, rfl, hb, hk, hv⟩ := hg i (leafC x) (by rw [List.getElem?_map, hx]; rfl)
      have hxl := leafC_len (hxs x hxm)
      have hst : (xs.take (i + 1)).any (fun x => !okK n x.1) = !okK n x.1 := by rw [List.take_add_one, hx, List.any_append, hbad]; simp
      have hc := set1_p (bx := bx) hT x (hxs x hxm)
      (repeat' (first | refine W.mv ?_ | refine W.zl ?_ | refine W.fa ?_ | refine W.nl ?_ | refine W.as ?_ | refine W.zb ?_ | refine W.za ?_ | refine W.zi ?_ | refine W.zc ?_ | refine W.zp ?_ | refine W.st ?_ | refine SL.nilB ?_ | refine SL.nil ?_ | refine W.al fun b_ => ?_ | refine W.bx fun b_ => ?_ | refine W.bxa fun b_ => ?_ | refine W.sw ?_ | refine W.sa ?_ | refine W.sk ?_ | refine W.bs0 fun b_ => ?_ | refine W.ma fun b_ => ?_ | refine W.bsl fun b_ => ?_ | refine W.zu ?_ | refine W.zf ?_ | refine W.zd ?_ | refine W.zs ?_ | refine W.zv ?_ | refine W.zx ?_ | refine W.ex ?_ | refine W.mf ?_ | refine W.mk ?_ | refine SW.seq ?_ | refine SW.region ?_ | refine SW.block ?_ | refine SW.cond_t rfl ?_ | refine SW.cond_f rfl ?_ | refine SW.exit ?_ | refine SW.ret ?_ | refine SW.skip ?_))
      refine SL.callv ((bx, cl [.pointer (some ⟨t, 0, none⟩)] 34) :: H) rfl rfl rfl rfl rfl rfl hc (fun _ _ => trivial) ?_
      rintro _ _ ⟨rfl, rfl⟩
      cases ho : okK n x.1 with
      | true =>
        rw [ho] at hst
        (repeat' (first | refine W.mv ?_ | refine W.zl ?_ | refine W.fa ?_ | refine W.nl ?_ | refine W.as ?_ | refine W.zb ?_ | refine W.za ?_ | refine W.zi ?_ | refine W.zc ?_ | refine W.zp ?_ | refine W.st ?_ | refine SL.nilB ?_ | refine SL.nil ?_ | refine W.al fun b_ => ?_ | refine W.bx fun b_ => ?_ | refine W.bxa fun b_ => ?_ | refine W.sw ?_ | refine W.sa ?_ | refine W.sk ?_ | refine W.bs0 fun b_ => ?_ | refine W.ma fun b_ => ?_ | refine W.bsl fun b_ => ?_ | refine W.zu ?_ | refine W.zf ?_ | refine W.zd ?_ | refine W.zs ?_ | refine W.zv ?_ | refine W.zx ?_ | refine W.ex ?_ | refine W.mf ?_ | refine W.mk ?_ | refine SW.seq ?_ | refine SW.region ?_ | refine SW.block ?_ | refine SW.cond_t rfl ?_ | refine SW.cond_f rfl ?_ | refine SW.exit ?_ | refine SW.ret ?_ | refine SW.skip ?_))
        refine HandF.mk (i + 1) ?_
        exact ⟨hin, hst⟩
      | false =>
        have hany : xs.any (fun x => !okK n x.1) = true := List.any_eq_true.2 ⟨x, hxm, by rw [ho]; rfl⟩
        (repeat' (first | refine W.mv ?_ | refine W.zl ?_ | refine W.fa ?_ | refine W.nl ?_ | refine W.as ?_ | refine W.zb ?_ | refine W.za ?_ | refine W.zi ?_ | refine W.zc ?_ | refine W.zp ?_ | refine W.st ?_ | refine SL.nilB ?_ | refine SL.nil ?_ | refine W.al fun b_ => ?_ | refine W.bx fun b_ => ?_ | refine W.bxa fun b_ => ?_ | refine W.sw ?_ | refine W.sa ?_ | refine W.sk ?_ | refine W.bs0 fun b_ => ?_ | refine W.ma fun b_ => ?_ | refine W.bsl fun b_ => ?_ | refine W.zu ?_ | refine W.zf ?_ | refine W.zd ?_ | refine W.zs ?_ | refine W.zv ?_ | refine W.zx ?_ | refine W.ex ?_ | refine W.mf ?_ | refine W.mk ?_ | refine SW.seq ?_ | refine SW.region ?_ | refine SW.block ?_ | refine SW.cond_t rfl ?_ | refine SW.cond_f rfl ?_ | refine SW.exit ?_ | refine SW.ret ?_ | refine SW.skip ?_))
        refine Fin.to ((bx, cl [.pointer (some ⟨t, 0, none⟩)] 34) :: H) ?_
        exact F.f1 ⟨(i : Int), rfl, rfl, by rw [hany]; exact decide_eq_true (by omega)⟩
    · have hi2 : i = xs.length := by omega
      subst hi2
      rw [List.take_length] at hbad
      (repeat' (first | refine W.mv ?_ | refine W.zl ?_ | refine W.fa ?_ | refine W.nl ?_ | refine W.as ?_ | refine W.zb ?_ | refine W.za ?_ | refine W.zi ?_ | refine W.zc ?_ | refine W.zp ?_ | refine W.st ?_ | refine SL.nilB ?_ | refine SL.nil ?_ | refine W.al fun b_ => ?_ | refine W.bx fun b_ => ?_ | refine W.bxa fun b_ => ?_ | refine W.sw ?_ | refine W.sa ?_ | refine W.sk ?_ | refine W.bs0 fun b_ => ?_ | refine W.ma fun b_ => ?_ | refine W.bsl fun b_ => ?_ | refine W.zu ?_ | refine W.zf ?_ | refine W.zd ?_ | refine W.zs ?_ | refine W.zv ?_ | refine W.zx ?_ | refine W.ex ?_ | refine W.mf ?_ | refine W.mk ?_ | refine SW.seq ?_ | refine SW.region ?_ | refine SW.block ?_ | refine SW.cond_t rfl ?_ | refine SW.cond_f rfl ?_ | refine SW.exit ?_ | refine SW.ret ?_ | refine SW.skip ?_))
      refine CutF.mk () ?_
      exact hbad
  rintro _ hbad
  (repeat' (first | refine W.mv ?_ | refine W.zl ?_ | refine W.fa ?_ | refine W.nl ?_ | refine W.as ?_ | refine W.zb ?_ | refine W.za ?_ | refine W.zi ?_ | refine W.zc ?_ | refine W.zp ?_ | refine W.st ?_ | refine SL.nilB ?_ | refine SL.nil ?_ | refine W.al fun b_ => ?_ | refine W.bx fun b_ => ?_ | refine W.bxa fun b_ => ?_ | refine W.sw ?_ | refine W.sa ?_ | refine W.sk ?_ | refine W.bs0 fun b_ => ?_ | refine W.ma fun b_ => ?_ | refine W.bsl fun b_ => ?_ | refine W.zu ?_ | refine W.zf ?_ | refine W.zd ?_ | refine W.zs ?_ | refine W.zv ?_ | refine W.zx ?_ | refine W.ex ?_ | refine W.mf ?_ | refine W.mk ?_ | refine SW.seq ?_ | refine SW.region ?_ | refine SW.block ?_ | refine SW.cond_t rfl ?_ | refine SW.cond_f rfl ?_ | refine SW.exit ?_ | refine SW.ret ?_ | refine SW.skip ?_))
  refine Fin.to ((bx, cl [.pointer (some ⟨t, 0, none⟩)] 34) :: H) ?_
  exact F.f1 ⟨-1, rfl, rfl, by rw [hbad]; rfl⟩
theorem cont_p {t b n bx : Nat} {L : List (List (List UInt8))} {H : Hp} (hT : TreeP t b n L H) (xs : List (Int × List UInt8)) (hxs : ∀ x ∈ xs, x.2.length = 32) (hn : xs.length ≤ 1000000) (v : Value) :
    Tri Try.prog 66 [v, .func (.func 67) #[] #[.pointer (some ⟨bx, 0, none⟩)]] ((bx, cl [.pointer (some ⟨t, 0, none⟩)] 34) :: H)
      (fun w => Rd (((bx, cl [.pointer (some ⟨t, 0, none⟩)] 34) :: H).map Prod.fst) w 33 v (leafsC xs)) (fun r H' => r = .bool (xs.any (fun x => !okK n x.1)) ∧ H' = (bx, cl [.pointer (some ⟨t, 0, none⟩)] 34) :: H) := by
  refine Tri.mk Try.func66 rfl Try.ntmps66 rfl fun w hw => ?_
  have hv1 := hw.isOne
  have hw2 := hw
  obtain ⟨a, len, cap, rfl, -⟩ := hw.get
  (repeat' (first | refine W.mv ?_ | refine W.zl ?_ | refine W.fa ?_ | refine W.nl ?_ | refine W.as ?_ | refine W.zb ?_ | refine W.za ?_ | refine W.zi ?_ | refine W.zc ?_ | refine W.zp ?_ | refine W.st ?_ | refine SL.nilB ?_ | refine SL.nil ?_ | refine W.al fun b_ => ?_ | refine W.bx fun b_ => ?_ | refine W.bxa fun b_ => ?_ | refine W.sw ?_ | refine W.sa ?_ | refine W.sk ?_ | refine W.bs0 fun b_ => ?_ | refine W.ma fun b_ => ?_ | refine W.bsl fun b_ => ?_ | refine W.zu ?_ | refine W.zf ?_ | refine W.zd ?_ | refine W.zs ?_ | refine W.zv ?_ | refine W.zx ?_ | refine W.ex ?_ | refine W.mf ?_ | refine W.mk ?_ | refine SW.seq ?_ | refine SW.region ?_ | refine SW.block ?_ | refine SW.cond_t rfl ?_ | refine SW.cond_f rfl ?_ | refine SW.exit ?_ | refine SW.ret ?_ | refine SW.skip ?_))
  refine W.call (idx_p hT xs hxs hn _) ?_ rfl (fun w2 hs => hw2.ro (Hc := (bx, cl [.pointer (some ⟨t, 0, none⟩)] 34) :: H) hs)
  rintro _ Hx ⟨z, rfl, rfl, hz⟩
  cases hb : xs.any (fun x => !okK n x.1) with
  | true =>
    rw [hb] at hz
    have hz2 := of_decide_eq_true hz
    (repeat' (first | refine W.mv ?_ | refine W.zl ?_ | refine W.fa ?_ | refine W.nl ?_ | refine W.as ?_ | refine W.zb ?_ | refine W.za ?_ | refine W.zi ?_ | refine W.zc ?_ | refine W.zp ?_ | refine W.st ?_ | refine SL.nilB ?_ | refine SL.nil ?_ | refine W.al fun b_ => ?_ | refine W.bx fun b_ => ?_ | refine W.bxa fun b_ => ?_ | refine W.sw ?_ | refine W.sa ?_ | refine W.sk ?_ | refine W.bs0 fun b_ => ?_ | refine W.ma fun b_ => ?_ | refine W.bsl fun b_ => ?_ | refine W.zu ?_ | refine W.zf ?_ | refine W.zd ?_ | refine W.zs ?_ | refine W.zv ?_ | refine W.zx ?_ | refine W.ex ?_ | refine W.mf ?_ | refine W.mk ?_ | refine SW.seq ?_ | refine SW.region ?_ | refine SW.block ?_ | refine SW.cond_t rfl ?_ | refine SW.cond_f rfl ?_ | refine SW.exit ?_ | refine SW.ret ?_ | refine SW.skip ?_))
    refine Fin.to ((bx, cl [.pointer (some ⟨t, 0, none⟩)] 34) :: H) ?_
    exact F.f1 ⟨rfl, rfl⟩
  | false =>
    rw [hb] at hz
    have hz2 := of_decide_eq_false hz
    (repeat' (first | refine W.mv ?_ | refine W.zl ?_ | refine W.fa ?_ | refine W.nl ?_ | refine W.as ?_ | refine W.zb ?_ | refine W.za ?_ | refine W.zi ?_ | refine W.zc ?_ | refine W.zp ?_ | refine W.st ?_ | refine SL.nilB ?_ | refine SL.nil ?_ | refine W.al fun b_ => ?_ | refine W.bx fun b_ => ?_ | refine W.bxa fun b_ => ?_ | refine W.sw ?_ | refine W.sa ?_ | refine W.sk ?_ | refine W.bs0 fun b_ => ?_ | refine W.ma fun b_ => ?_ | refine W.bsl fun b_ => ?_ | refine W.zu ?_ | refine W.zf ?_ | refine W.zd ?_ | refine W.zs ?_ | refine W.zv ?_ | refine W.zx ?_ | refine W.ex ?_ | refine W.mf ?_ | refine W.mk ?_ | refine SW.seq ?_ | refine SW.region ?_ | refine SW.block ?_ | refine SW.cond_t rfl ?_ | refine SW.cond_f rfl ?_ | refine SW.exit ?_ | refine SW.ret ?_ | refine SW.skip ?_))
    refine Fin.to ((bx, cl [.pointer (some ⟨t, 0, none⟩)] 34) :: H) ?_
    exact F.f1 ⟨rfl, rfl⟩
end Go.Proofs.Ytieamijnajbcnaa
