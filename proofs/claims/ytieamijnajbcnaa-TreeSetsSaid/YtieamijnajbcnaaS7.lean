/- Leaves that are set leave the root of a tree of these leaves. -/
import Derived.Test.YtieamijnajbcnaaS4
import Derived.Test.YtieamijnajbcnaaS5
import Derived.Test.YtieamijnajbcnaaS6
set_option linter.unusedVariables false
set_option linter.unusedSimpArgs false
set_option linter.unusedSectionVars false
namespace Go.Proofs.Ytieamijnajbcnaa
open Go
attribute [local irreducible] SW SL SQ SH SA SS Pu Fin CutF HandF
open Pq

abbrev izv (ks : List Int) : List Value := ks.map fun k : Int => (.int .i64 k : Value)
theorem izv_len (ks : List Int) : (izv ks).length = ks.length := List.length_map ..
/-- Whole numbers that are read. -/
theorem Rd.intsZ {K : List Nat} {w : World} {v : Value} {xs : List Int} (h : Rd K w 1 v (izv xs)) : ∃ (a : Option Addr) (cap : Nat), v = .slice a xs.length cap ∧ xs.length ≤ cap ∧
    ∀ (i : Nat) (k : Int), xs[i]? = some k → ∃ (b o : Nat) (l : List Value) (T : TypeId) (fz : Nat × Nat), a = some ⟨b, o, none⟩ ∧ w.heap[b]? = some (.cells l.toArray T fz) ∧ b ∉ K ∧ l[o + i]? = some (.int .i64 k) := by
  obtain ⟨a, len, cap, rfl, h1, h2, h3⟩ := h
  rw [izv_len, Nat.mul_one] at h1
  subst h1
  refine ⟨a, cap, rfl, h2, fun i k hi => ?_⟩
  have hlt := (List.getElem?_eq_some_iff.1 hi).1
  obtain ⟨b, o, l, T, fz, rfl, hb, hk, hy⟩ := h3.resolve_left (by omega)
  exact ⟨b, o, l, T, fz, rfl, hb, hk, take_get hy (by rw [List.getElem?_map, hi]; rfl)⟩
/-- Those that are set: the first twelve. -/
def setZ (ks : List Int) (sums : List (List UInt8)) : List (Int × List UInt8) := (ks.zip sums).take 12
theorem setZ_len (ks : List Int) (sums : List (List UInt8)) : (setZ ks sums).length = min 12 (min ks.length sums.length) := by simp [setZ]
theorem setZ_get {ks : List Int} {sums : List (List UInt8)} {m : Nat} {k : Int} {s : List UInt8} (h : m < 12) (hk : ks[m]? = some k) (hs : sums[m]? = some s) : (setZ ks sums)[m]? = some (k, s) := by
  unfold setZ
  rw [List.getElem?_take, if_pos h, List.getElem?_zip_eq_some]
  exact ⟨hk, hs⟩
theorem setZ_32 {ks : List Int} {sums : List (List UInt8)} (hs : D32 sums) : ∀ x ∈ setZ ks sums, x.2.length = 32 := by
  intro x hx
  have h1 := List.mem_of_mem_take hx
  obtain ⟨h2, h3⟩ := List.of_mem_zip (a := x.1) (b := x.2) h1
  exact hs _ h3
def setG (n : Nat) (l : List (List UInt8)) (xs : List (Int × List UInt8)) : List (List UInt8) := xs.foldl (fun l x => if okK n x.1 then l.set x.1.toNat x.2 else l) l
theorem setG_app (n : Nat) (l : List (List UInt8)) (xs : List (Int × List UInt8)) (x : Int × List UInt8) : setG n l (xs ++ [x]) = if okK n x.1 then (setG n l xs).set x.1.toNat x.2 else setG n l xs := by simp [setG]
theorem setG_ok (n : Nat) (l : List (List UInt8)) (xs : List (Int × List UInt8)) (h : xs.any (fun x => !okK n x.1) = false) : setG n l xs = setL l xs := by
  unfold setG setL
  induction xs generalizing l with
  | nil => rfl
  | cons x xs ih =>
    rw [List.any_cons, Bool.or_eq_false_iff] at h
    have h1 : okK n x.1 = true := by simpa using h.1
    rw [List.foldl_cons, List.foldl_cons, if_pos h1, ih _ h.2]
theorem setG_len (n : Nat) (l : List (List UInt8)) (xs : List (Int × List UInt8)) : (setG n l xs).length = l.length := by
  unfold setG
  induction xs generalizing l with
  | nil => rfl
  | cons x xs ih =>
    rw [List.foldl_cons, ih]
    split
    · rw [List.length_set]
    · rfl
theorem setG_32 {n : Nat} {l : List (List UInt8)} (hl : D32 l) (xs : List (Int × List UInt8)) (hx : ∀ x ∈ xs, x.2.length = 32) : D32 (setG n l xs) := by
  unfold setG
  induction xs generalizing l with
  | nil => exact hl
  | cons x xs ih =>
    refine ih (l := if okK n x.1 then l.set x.1.toNat x.2 else l) ?_ fun y hy => hx y (List.mem_cons_of_mem _ hy)
    split
    · exact set_len hl (hx x (List.mem_cons_self ..))
    · exact hl
theorem leafs_len {xs : List (Int × List UInt8)} (h : ∀ x ∈ xs, x.2.length = 32) : (leafsC xs).length = xs.length * 33 := by
  rw [leafsC, flatN_len (n := 33) (fun y hy => by obtain ⟨x, hx, rfl⟩ := List.mem_map.1 hy; exact leafC_len (h x hx)), List.length_map]
structure TS where
  m : Nat
  sv : Value
  wv : Value
  Hs : Hp
  Hi : Hp
  bad : Bool
  W : List (List UInt8)
set_option maxHeartbeats 2000000 in
theorem sets_law (l : List (List UInt8)) (hl : D32 l) (ks : List Int) (sums : List (List UInt8)) (hsm : D32 sums) (v kv zv : Value) : Tri Try.prog 11 [v, kv, zv] [] (fun w => Rd [] w 32 v (cbs l.flatten) ∧ Rd [] w 1 kv (izv ks) ∧ Rd [] w 32 zv (cbs sums.flatten)) (fun r _ => r = .bool true) := by
  refine Tri.mk Try.func11 rfl Try.ntmps11 rfl fun w hw => ?_
  obtain ⟨hw, hkr, hzr⟩ := hw
  obtain ⟨a, cap, rfl, -, -⟩ := hw.row hl
  obtain ⟨ka, kc, rfl, hkc, hkg⟩ := hkr.intsZ
  obtain ⟨za, zc, rfl, hzc, hzg⟩ := hzr.row hsm
  have hfew := few_q l hl a cap
  obtain ⟨hL, hL20, hw2⟩ := hw.few hl
  generalize l.take 20 = L at hfew hL hL20 hw2
  (repeat' (first | refine W.mv ?_ | refine W.zl ?_ | refine W.fa ?_ | refine W.nl ?_ | refine W.as ?_ | refine W.zb ?_ | refine W.za ?_ | refine W.zi ?_ | refine W.zc ?_ | refine W.zp ?_ | refine W.st ?_ | refine SL.nilB ?_ | refine SL.nil ?_ | refine W.al fun b_ => ?_ | refine W.bx fun b_ => ?_ | refine W.bxa fun b_ => ?_ | refine W.sw ?_ | refine W.sa ?_ | refine W.sk ?_ | refine W.bs0 fun b_ => ?_ | refine W.ma fun b_ => ?_ | refine W.bsl fun b_ => ?_ | refine W.zu ?_ | refine W.zf ?_ | refine W.zd ?_ | refine W.zs ?_ | refine W.zv ?_ | refine W.zx ?_ | refine W.ex ?_ | refine W.mf ?_ | refine W.mk ?_ | refine SW.seq ?_ | refine SW.region ?_ | refine SW.block ?_ | refine SW.cond_t rfl ?_ | refine SW.cond_f rfl ?_ | refine SW.exit ?_ | refine SW.ret ?_ | refine SW.skip ?_))
  refine W.call hfew ?_ rfl (fun w2 hs => hw.ro (Hc := []) hs)
  rintro _ _ ⟨rfl, rfl⟩
  (repeat' (first | refine W.mv ?_ | refine W.zl ?_ | refine W.fa ?_ | refine W.nl ?_ | refine W.as ?_ | refine W.zb ?_ | refine W.za ?_ | refine W.zi ?_ | refine W.zc ?_ | refine W.zp ?_ | refine W.st ?_ | refine SL.nilB ?_ | refine SL.nil ?_ | refine W.al fun b_ => ?_ | refine W.bx fun b_ => ?_ | refine W.bxa fun b_ => ?_ | refine W.sw ?_ | refine W.sa ?_ | refine W.sk ?_ | refine W.bs0 fun b_ => ?_ | refine W.ma fun b_ => ?_ | refine W.bsl fun b_ => ?_ | refine W.zu ?_ | refine W.zf ?_ | refine W.zd ?_ | refine W.zs ?_ | refine W.zv ?_ | refine W.zx ?_ | refine W.ex ?_ | refine W.mf ?_ | refine W.mk ?_ | refine SW.seq ?_ | refine SW.region ?_ | refine SW.block ?_ | refine SW.cond_t rfl ?_ | refine SW.cond_f rfl ?_ | refine SW.exit ?_ | refine SW.ret ?_ | refine SW.skip ?_))
  refine W.call Book_p ?_
  rintro _ B0 ⟨b, tp, rfl, hB⟩
  (repeat' (first | refine W.mv ?_ | refine W.zl ?_ | refine W.fa ?_ | refine W.nl ?_ | refine W.as ?_ | refine W.zb ?_ | refine W.za ?_ | refine W.zi ?_ | refine W.zc ?_ | refine W.zp ?_ | refine W.st ?_ | refine SL.nilB ?_ | refine SL.nil ?_ | refine W.al fun b_ => ?_ | refine W.bx fun b_ => ?_ | refine W.bxa fun b_ => ?_ | refine W.sw ?_ | refine W.sa ?_ | refine W.sk ?_ | refine W.bs0 fun b_ => ?_ | refine W.ma fun b_ => ?_ | refine W.bsl fun b_ => ?_ | refine W.zu ?_ | refine W.zf ?_ | refine W.zd ?_ | refine W.zs ?_ | refine W.zv ?_ | refine W.zx ?_ | refine W.ex ?_ | refine W.mf ?_ | refine W.mk ?_ | refine SW.seq ?_ | refine SW.region ?_ | refine SW.block ?_ | refine SW.cond_t rfl ?_ | refine SW.cond_f rfl ?_ | refine SW.exit ?_ | refine SW.ret ?_ | refine SW.skip ?_))
  refine W.call (digests_p L hL _ (by omega)) ?_ rfl (fun w2 hs => hw2.ro (Hc := []) hs)
  intro dv Hd hdv
  have hd1 := hdv.isOne
  obtain ⟨da, dl, dc, rfl, hdl⟩ := hdv.form
  obtain rfl : dl = L.length := by rw [cbs_len, flatN_len hL] at hdl; omega
  (repeat' (first | refine W.mv ?_ | refine W.zl ?_ | refine W.fa ?_ | refine W.nl ?_ | refine W.as ?_ | refine W.zb ?_ | refine W.za ?_ | refine W.zi ?_ | refine W.zc ?_ | refine W.zp ?_ | refine W.st ?_ | refine SL.nilB ?_ | refine SL.nil ?_ | refine W.al fun b_ => ?_ | refine W.bx fun b_ => ?_ | refine W.bxa fun b_ => ?_ | refine W.sw ?_ | refine W.sa ?_ | refine W.sk ?_ | refine W.bs0 fun b_ => ?_ | refine W.ma fun b_ => ?_ | refine W.bsl fun b_ => ?_ | refine W.zu ?_ | refine W.zf ?_ | refine W.zd ?_ | refine W.zs ?_ | refine W.zv ?_ | refine W.zx ?_ | refine W.ex ?_ | refine W.mf ?_ | refine W.mk ?_ | refine SW.seq ?_ | refine SW.region ?_ | refine SW.block ?_ | refine SW.cond_t rfl ?_ | refine SW.cond_f rfl ?_ | refine SW.exit ?_ | refine SW.ret ?_ | refine SW.skip ?_))
  by_cases h0 : L.length = 0
  · rw [h0]
    refine W.call (new_none b da dc) ?_
    rintro _ _ ⟨rfl, rfl⟩
    (repeat' (first | refine W.mv ?_ | refine W.zl ?_ | refine W.fa ?_ | refine W.nl ?_ | refine W.as ?_ | refine W.zb ?_ | refine W.za ?_ | refine W.zi ?_ | refine W.zc ?_ | refine W.zp ?_ | refine W.st ?_ | refine SL.nilB ?_ | refine SL.nil ?_ | refine W.al fun b_ => ?_ | refine W.bx fun b_ => ?_ | refine W.bxa fun b_ => ?_ | refine W.sw ?_ | refine W.sa ?_ | refine W.sk ?_ | refine W.bs0 fun b_ => ?_ | refine W.ma fun b_ => ?_ | refine W.bsl fun b_ => ?_ | refine W.zu ?_ | refine W.zf ?_ | refine W.zd ?_ | refine W.zs ?_ | refine W.zv ?_ | refine W.zx ?_ | refine W.ex ?_ | refine W.mf ?_ | refine W.mk ?_ | refine SW.seq ?_ | refine SW.region ?_ | refine SW.block ?_ | refine SW.cond_t rfl ?_ | refine SW.cond_f rfl ?_ | refine SW.exit ?_ | refine SW.ret ?_ | refine SW.skip ?_))
    refine W.call awake12_p ?_
    rintro _ _ ⟨rfl, rfl⟩
    (repeat' (first | refine W.mv ?_ | refine W.zl ?_ | refine W.fa ?_ | refine W.nl ?_ | refine W.as ?_ | refine W.zb ?_ | refine W.za ?_ | refine W.zi ?_ | refine W.zc ?_ | refine W.zp ?_ | refine W.st ?_ | refine SL.nilB ?_ | refine SL.nil ?_ | refine W.al fun b_ => ?_ | refine W.bx fun b_ => ?_ | refine W.bxa fun b_ => ?_ | refine W.sw ?_ | refine W.sa ?_ | refine W.sk ?_ | refine W.bs0 fun b_ => ?_ | refine W.ma fun b_ => ?_ | refine W.bsl fun b_ => ?_ | refine W.zu ?_ | refine W.zf ?_ | refine W.zd ?_ | refine W.zs ?_ | refine W.zv ?_ | refine W.zx ?_ | refine W.ex ?_ | refine W.mf ?_ | refine W.mk ?_ | refine SW.seq ?_ | refine SW.region ?_ | refine SW.block ?_ | refine SW.cond_t rfl ?_ | refine SW.cond_f rfl ?_ | refine SW.exit ?_ | refine SW.ret ?_ | refine SW.skip ?_))
    refine Fin.to [] ?_
    exact F.f1 rfl
  · refine W.call (new_p hB (.slice da L.length dc) L hL (by omega) (by omega)) ?_ rfl (fun w2 hs => Rd.own (Hc := B0) hdv hs inferInstance)
    rintro _ _ ⟨t, Ht, B1, rfl, rfl, hT, hB1⟩
    (repeat' (first | refine W.mv ?_ | refine W.zl ?_ | refine W.fa ?_ | refine W.nl ?_ | refine W.as ?_ | refine W.zb ?_ | refine W.za ?_ | refine W.zi ?_ | refine W.zc ?_ | refine W.zp ?_ | refine W.st ?_ | refine SL.nilB ?_ | refine SL.nil ?_ | refine W.al fun b_ => ?_ | refine W.bx fun b_ => ?_ | refine W.bxa fun b_ => ?_ | refine W.sw ?_ | refine W.sa ?_ | refine W.sk ?_ | refine W.bs0 fun b_ => ?_ | refine W.ma fun b_ => ?_ | refine W.bsl fun b_ => ?_ | refine W.zu ?_ | refine W.zf ?_ | refine W.zd ?_ | refine W.zs ?_ | refine W.zv ?_ | refine W.zx ?_ | refine W.ex ?_ | refine W.mf ?_ | refine W.mk ?_ | refine SW.seq ?_ | refine SW.region ?_ | refine SW.block ?_ | refine SW.cond_t rfl ?_ | refine SW.cond_f rfl ?_ | refine SW.exit ?_ | refine SW.ret ?_ | refine SW.skip ?_))
    refine W.call (Copy_p hT hL (by omega) (by omega)) ?_
    rintro _ _ ⟨c, Hc, rfl, rfl, hTc⟩
    (repeat' (first | refine W.mv ?_ | refine W.zl ?_ | refine W.fa ?_ | refine W.nl ?_ | refine W.as ?_ | refine W.zb ?_ | refine W.za ?_ | refine W.zi ?_ | refine W.zc ?_ | refine W.zp ?_ | refine W.st ?_ | refine SL.nilB ?_ | refine SL.nil ?_ | refine W.al fun b_ => ?_ | refine W.bx fun b_ => ?_ | refine W.bxa fun b_ => ?_ | refine W.sw ?_ | refine W.sa ?_ | refine W.sk ?_ | refine W.bs0 fun b_ => ?_ | refine W.ma fun b_ => ?_ | refine W.bsl fun b_ => ?_ | refine W.zu ?_ | refine W.zf ?_ | refine W.zd ?_ | refine W.zs ?_ | refine W.zv ?_ | refine W.zx ?_ | refine W.ex ?_ | refine W.mf ?_ | refine W.mk ?_ | refine SW.seq ?_ | refine SW.region ?_ | refine SW.block ?_ | refine SW.cond_t rfl ?_ | refine SW.cond_f rfl ?_ | refine SW.exit ?_ | refine SW.ret ?_ | refine SW.skip ?_))
    have hfl : (cbs L.flatten).length = L.length * 32 := by rw [cbs_len, flatN_len hL]
    refine W.ap (ys := cbs L.flatten) (mm := L.length) (Sl.own 24 32 b_ (len := 0) (xs := []) rfl) (fun w2 hs => hw2.srcAt hs) (fun wv0 HW hwv => ?_) (hys := hfl) (hbytes := by rw [hfl]; simp; omega)
    rw [List.nil_append] at hwv
    rcases hwv with ⟨-, h2, -⟩ | ⟨wb, wl, wc, wj, rfl, hwx, hwj, hwlc, rfl⟩
    · have h3 := congrArg List.length h2
      rw [hfl] at h3
      simp only [List.length_nil] at h3
      omega
    obtain rfl : wl = L.length := by omega
    have hZ32 := setZ_32 (ks := ks) hsm
    have hZl := setZ_len ks sums
    have hZg := fun m k s => setZ_get (ks := ks) (sums := sums) (m := m) (k := k) (s := s)
    generalize setZ ks sums = Z at *
    have hz32 : (List.replicate 32 (Value.int .u8 0)).length = 32 := rfl
    (repeat' (first | refine W.mv ?_ | refine W.zl ?_ | refine W.fa ?_ | refine W.nl ?_ | refine W.as ?_ | refine W.zb ?_ | refine W.za ?_ | refine W.zi ?_ | refine W.zc ?_ | refine W.zp ?_ | refine W.st ?_ | refine SL.nilB ?_ | refine SL.nil ?_ | refine W.al fun b_ => ?_ | refine W.bx fun b_ => ?_ | refine W.bxa fun b_ => ?_ | refine W.sw ?_ | refine W.sa ?_ | refine W.sk ?_ | refine W.bs0 fun b_ => ?_ | refine W.ma fun b_ => ?_ | refine W.bsl fun b_ => ?_ | refine W.zu ?_ | refine W.zf ?_ | refine W.zd ?_ | refine W.zs ?_ | refine W.zv ?_ | refine W.zx ?_ | refine W.ex ?_ | refine W.mf ?_ | refine W.mk ?_ | refine SW.seq ?_ | refine SW.region ?_ | refine SW.cond_t rfl ?_ | refine SW.cond_f rfl ?_ | refine SW.exit ?_ | refine SW.ret ?_ | refine SW.skip ?_))
    refine SW.cutH [0, 7, 9, 10] [(wb, cl (cbs L.flatten ++ wj) 24)] (fun x : TS => [(11, x.sv), (12, x.wv), (13, .bool x.bad)]) (fun x => (wb, cl (cbs x.W.flatten ++ wj) 24) :: (x.Hs ++ x.Hi))
      (fun x => Sl 72 33 x.sv (leafsC Z) x.Hs ∧ Sl 3 1 x.wv (izv (Z.map Prod.fst)) x.Hi ∧ x.bad = Z.any (fun x => !okK L.length x.1) ∧ x.W = setG L.length L Z) ?_ ?_
    · (repeat' (first | refine W.mv ?_ | refine W.zl ?_ | refine W.fa ?_ | refine W.nl ?_ | refine W.as ?_ | refine W.zb ?_ | refine W.za ?_ | refine W.zi ?_ | refine W.zc ?_ | refine W.zp ?_ | refine W.st ?_ | refine SL.nilB ?_ | refine SL.nil ?_ | refine W.al fun b_ => ?_ | refine W.bx fun b_ => ?_ | refine W.bxa fun b_ => ?_ | refine W.sw ?_ | refine W.sa ?_ | refine W.sk ?_ | refine W.bs0 fun b_ => ?_ | refine W.ma fun b_ => ?_ | refine W.bsl fun b_ => ?_ | refine W.zu ?_ | refine W.zf ?_ | refine W.zd ?_ | refine W.zs ?_ | refine W.zv ?_ | refine W.zx ?_ | refine W.ex ?_ | refine W.mf ?_ | refine W.mk ?_ | refine SW.seq ?_ | refine SW.region ?_ | refine SW.block ?_ | refine SW.cond_t rfl ?_ | refine SW.cond_f rfl ?_ | refine SW.exit ?_ | refine SW.ret ?_ | refine SW.skip ?_))
      refine SW.loopF [0, 2, 7, 9, 10, 40, 41] (fun x : TS => [(11, x.sv), (12, x.wv), (13, .bool x.bad), (42, .int .i64 (x.m : Int))]) (fun x => (wb, cl (cbs x.W.flatten ++ wj) 24) :: (x.Hs ++ x.Hi)) (fun x => Z.length - x.m)
        (fun x => x.m ≤ Z.length ∧ Sl 72 33 x.sv (leafsC (Z.take x.m)) x.Hs ∧ Sl 3 1 x.wv (izv ((Z.take x.m).map Prod.fst)) x.Hi ∧ x.bad = (Z.take x.m).any (fun x => !okK L.length x.1) ∧ x.W = setG L.length L (Z.take x.m)) ⟨0, .slice none 0 0, .slice none 0 0, [], [], false, L⟩ ⟨Nat.zero_le _, Sl.nil _ _, Sl.nil _ _, by simp, by simp [setG]⟩ ?_
      rintro ⟨m, sv, wv, Hs, Hi, bad, V⟩ ⟨hm, hsv, hwv, hbad, hV⟩
      dsimp only at hm hsv hwv hbad hV ⊢
      have hs1 := hsv.isOne
      have hw1 := hwv.isOne
      have hV32 : D32 V := by rw [hV]; exact setG_32 hL _ fun x hx => hZ32 x (List.mem_of_mem_take hx)
      have hVl : V.length = L.length := by rw [hV, setG_len]
      by_cases hmZ : m < Z.length
      · have hm12 : m < 12 := by omega
        obtain ⟨k, hk⟩ : ∃ k, ks[m]? = some k := ⟨_, List.getElem?_eq_getElem (by omega)⟩
        obtain ⟨s, hs⟩ : ∃ s, sums[m]? = some s := ⟨_, List.getElem?_eq_getElem (by omega)⟩
        have hmk : m < ks.length := by omega
        have hms : m < sums.length := by omega
        have hZm := hZg m k s hm12 hk hs
        have hs32 := hsm s (List.mem_of_getElem? hs)
        obtain ⟨kb, ko, klv, kT, kfz, rfl, hkb, hkk, hkv⟩ := hkg m k hk
        obtain ⟨zb, zo, zlv, zT, zfz, rfl, hzb, hzk, hzv⟩ := hzg m s hs
        have hcs := cl32 hs32
        have hb2 := b72 k hs32
        have hb4 := b74 k hs32
        have hbk : bfill (fun i => some (i * 1, 1)) (zs [.int .i64 0] 1) [(0, .int .i64 k)] = some [.int .i64 k] := rfl
        have htk : Z.take (m + 1) = Z.take m ++ [(k, s)] := by rw [List.take_add_one, hZm]; rfl
        have hl1 : leafsC (Z.take m) ++ leafC (k, s) = leafsC (Z.take (m + 1)) := by rw [htk]; simp [leafsC]
        have hl2 : izv ((Z.take m).map Prod.fst) ++ [.int .i64 k] = izv ((Z.take (m + 1)).map Prod.fst) := by rw [htk]; simp
        have hl3 : (Z.take (m + 1)).any (fun x => !okK L.length x.1) = (bad || !okK L.length k) := by rw [htk, List.any_append, hbad]; simp
        have hl4 : setG L.length L (Z.take (m + 1)) = if okK L.length k then V.set k.toNat s else V := by rw [htk, setG_app, hV]
        have hn1 : (leafsC (Z.take m)).length = m * 33 := by rw [leafs_len fun x hx => hZ32 x (List.mem_of_mem_take hx), List.length_take, Nat.min_eq_left (by omega)]
        have hn2 : (izv ((Z.take m).map Prod.fst)).length = m := by rw [izv_len, List.length_map, List.length_take, Nat.min_eq_left (by omega)]
        have hn3 := leafC_len (x := (k, s)) hs32
        (repeat' (first | refine W.mv ?_ | refine W.zl ?_ | refine W.fa ?_ | refine W.nl ?_ | refine W.as ?_ | refine W.zb ?_ | refine W.za ?_ | refine W.zi ?_ | refine W.zc ?_ | refine W.zp ?_ | refine W.st ?_ | refine SL.nilB ?_ | refine SL.nil ?_ | refine W.al fun b_ => ?_ | refine W.bx fun b_ => ?_ | refine W.bxa fun b_ => ?_ | refine W.sw ?_ | refine W.sa ?_ | refine W.sk ?_ | refine W.bs0 fun b_ => ?_ | refine W.ma fun b_ => ?_ | refine W.bsl fun b_ => ?_ | refine W.zu ?_ | refine W.zf ?_ | refine W.zd ?_ | refine W.zs ?_ | refine W.zv ?_ | refine W.zx ?_ | refine W.ex ?_ | refine W.mf ?_ | refine W.mk ?_ | refine SW.seq ?_ | refine SW.region ?_ | refine SW.block ?_ | refine SW.cond_t rfl ?_ | refine SW.cond_f rfl ?_ | refine SW.exit ?_ | refine SW.ret ?_ | refine SW.skip ?_))
        refine W.ap (ys := leafC (k, s)) (mm := 1) hsv (fun w2 hs => (Sl.own 72 33 b_ (len := 1) (xs := leafC (k, s)) hn3).srcAt hs inferInstance) (fun sv2 Hs2 hsv2 => ?_) (hys := hn3) (hbytes := by rw [hn1, hn3]; omega)
        have hs2 := hsv2.isOne
        rw [hl1] at hsv2
        (repeat' (first | refine W.mv ?_ | refine W.zl ?_ | refine W.fa ?_ | refine W.nl ?_ | refine W.as ?_ | refine W.zb ?_ | refine W.za ?_ | refine W.zi ?_ | refine W.zc ?_ | refine W.zp ?_ | refine W.st ?_ | refine SL.nilB ?_ | refine SL.nil ?_ | refine W.al fun b_ => ?_ | refine W.bx fun b_ => ?_ | refine W.bxa fun b_ => ?_ | refine W.sw ?_ | refine W.sa ?_ | refine W.sk ?_ | refine W.bs0 fun b_ => ?_ | refine W.ma fun b_ => ?_ | refine W.bsl fun b_ => ?_ | refine W.zu ?_ | refine W.zf ?_ | refine W.zd ?_ | refine W.zs ?_ | refine W.zv ?_ | refine W.zx ?_ | refine W.ex ?_ | refine W.mf ?_ | refine W.mk ?_ | refine SW.seq ?_ | refine SW.region ?_ | refine SW.block ?_ | refine SW.cond_t rfl ?_ | refine SW.cond_f rfl ?_ | refine SW.exit ?_ | refine SW.ret ?_ | refine SW.skip ?_))
        refine W.ap (ys := [.int .i64 k]) (mm := 1) hwv (fun w2 hs => (Sl.own 3 1 b_ (xs := [.int .i64 k]) rfl).srcAt hs inferInstance) (fun wv2 Hi2 hwv2 => ?_) (hys := rfl) (hbytes := by rw [hn2]; simp; omega)
        have hw3 := hwv2.isOne
        rw [hl2] at hwv2
        by_cases hok : 0 ≤ k ∧ k < (L.length : Int)
        · have hokb : okK L.length k = true := decide_eq_true hok
          rw [hokb] at hl3 hl4
          rw [if_pos rfl] at hl4
          obtain ⟨j, hkj⟩ : ∃ j : Nat, k = (j : Int) := ⟨k.toNat, by omega⟩
          haveI : NatI k j := ⟨hkj⟩
          have hkt : k.toNat = j := by omega
          rw [hkt] at hl4
          obtain ⟨hok1, hok2⟩ := hok
          have hset := cbs_setJ (junk := wj) (x := s) hV32 (i := j) (by omega)
          have hfit : j * 32 + 32 ≤ (cbs V.flatten ++ wj).length := by
            rw [List.length_append, cbs_len, flatN_len hV32]; omega
          (repeat' (first | refine W.mv ?_ | refine W.zl ?_ | refine W.fa ?_ | refine W.nl ?_ | refine W.as ?_ | refine W.zb ?_ | refine W.za ?_ | refine W.zi ?_ | refine W.zc ?_ | refine W.zp ?_ | refine W.st ?_ | refine SL.nilB ?_ | refine SL.nil ?_ | refine W.al fun b_ => ?_ | refine W.bx fun b_ => ?_ | refine W.bxa fun b_ => ?_ | refine W.sw ?_ | refine W.sa ?_ | refine W.sk ?_ | refine W.bs0 fun b_ => ?_ | refine W.ma fun b_ => ?_ | refine W.bsl fun b_ => ?_ | refine W.zu ?_ | refine W.zf ?_ | refine W.zd ?_ | refine W.zs ?_ | refine W.zv ?_ | refine W.zx ?_ | refine W.ex ?_ | refine W.mf ?_ | refine W.mk ?_ | refine SW.seq ?_ | refine SW.region ?_ | refine SW.block ?_ | refine SW.cond_t rfl ?_ | refine SW.cond_f rfl ?_ | refine SW.exit ?_ | refine SW.ret ?_ | refine SW.skip ?_))
          rw [hset]
          refine HandF.mk ⟨m + 1, sv2, wv2, Hs2, Hi2, bad, V.set j s⟩ ?_
          exact ⟨hmZ, hsv2, hwv2, by rw [hl3]; simp, hl4.symm⟩
        · have hokb : okK L.length k = false := decide_eq_false hok
          rw [hokb] at hl3 hl4
          rw [if_neg (by simp)] at hl4
          rcases (show k < 0 ∨ (0 ≤ k ∧ (L.length : Int) ≤ k) by omega) with hk1 | ⟨hk1, hk2⟩
          all_goals
            (repeat' (first | refine W.mv ?_ | refine W.zl ?_ | refine W.fa ?_ | refine W.nl ?_ | refine W.as ?_ | refine W.zb ?_ | refine W.za ?_ | refine W.zi ?_ | refine W.zc ?_ | refine W.zp ?_ | refine W.st ?_ | refine SL.nilB ?_ | refine SL.nil ?_ | refine W.al fun b_ => ?_ | refine W.bx fun b_ => ?_ | refine W.bxa fun b_ => ?_ | refine W.sw ?_ | refine W.sa ?_ | refine W.sk ?_ | refine W.bs0 fun b_ => ?_ | refine W.ma fun b_ => ?_ | refine W.bsl fun b_ => ?_ | refine W.zu ?_ | refine W.zf ?_ | refine W.zd ?_ | refine W.zs ?_ | refine W.zv ?_ | refine W.zx ?_ | refine W.ex ?_ | refine W.mf ?_ | refine W.mk ?_ | refine SW.seq ?_ | refine SW.region ?_ | refine SW.block ?_ | refine SW.cond_t rfl ?_ | refine SW.cond_f rfl ?_ | refine SW.exit ?_ | refine SW.ret ?_ | refine SW.skip ?_))
            refine HandF.mk ⟨m + 1, sv2, wv2, Hs2, Hi2, true, V⟩ ?_
            exact ⟨hmZ, hsv2, hwv2, by rw [hl3]; simp, hl4.symm⟩
      · have hm2 : m = Z.length := by omega
        subst hm2
        rw [List.take_length] at hsv hwv hbad hV
        rcases (show ks.length ≤ Z.length ∨ (Z.length < ks.length ∧ 12 ≤ Z.length) ∨ (Z.length < ks.length ∧ Z.length < 12 ∧ sums.length ≤ Z.length) by omega) with hc | ⟨hc1, hc2⟩ | ⟨hc1, hc2, hc3⟩
        case' inr.inl =>
          obtain ⟨kb, ko, klv, kT, kfz, rfl, hkb, hkk, hkv⟩ := hkg Z.length _ (List.getElem?_eq_getElem hc1)
        case' inr.inr =>
          obtain ⟨kb, ko, klv, kT, kfz, rfl, hkb, hkk, hkv⟩ := hkg Z.length _ (List.getElem?_eq_getElem hc1)
        all_goals
          (repeat' (first | refine W.mv ?_ | refine W.zl ?_ | refine W.fa ?_ | refine W.nl ?_ | refine W.as ?_ | refine W.zb ?_ | refine W.za ?_ | refine W.zi ?_ | refine W.zc ?_ | refine W.zp ?_ | refine W.st ?_ | refine SL.nilB ?_ | refine SL.nil ?_ | refine W.al fun b_ => ?_ | refine W.bx fun b_ => ?_ | refine W.bxa fun b_ => ?_ | refine W.sw ?_ | refine W.sa ?_ | refine W.sk ?_ | refine W.bs0 fun b_ => ?_ | refine W.ma fun b_ => ?_ | refine W.bsl fun b_ => ?_ | refine W.zu ?_ | refine W.zf ?_ | refine W.zd ?_ | refine W.zs ?_ | refine W.zv ?_ | refine W.zx ?_ | refine W.ex ?_ | refine W.mf ?_ | refine W.mk ?_ | refine SW.seq ?_ | refine SW.region ?_ | refine SW.block ?_ | refine SW.cond_t rfl ?_ | refine SW.cond_f rfl ?_ | refine SW.exit ?_ | refine SW.ret ?_ | refine SW.skip ?_))
          refine CutF.mk ⟨Z.length, sv, wv, Hs, Hi, bad, V⟩ ?_
          exact ⟨hsv, hwv, hbad, hV⟩
    rintro ⟨m, sv, wv, Hs, Hi, bad, V⟩ ⟨hsv, hwv, hbad, hV⟩
    dsimp only at hsv hwv hbad hV ⊢
    have hs1 := hsv.isOne
    have hw1 := hwv.isOne
    subst hbad
    cases hb : Z.any (fun x => !okK L.length x.1) with
    | true =>
      have hr : (rootV L).length = 32 := Sha.sum_len _
      have hcr := cl32 hr
      (repeat' (first | refine W.mv ?_ | refine W.zl ?_ | refine W.fa ?_ | refine W.nl ?_ | refine W.as ?_ | refine W.zb ?_ | refine W.za ?_ | refine W.zi ?_ | refine W.zc ?_ | refine W.zp ?_ | refine W.st ?_ | refine SL.nilB ?_ | refine SL.nil ?_ | refine W.al fun b_ => ?_ | refine W.bx fun b_ => ?_ | refine W.bxa fun b_ => ?_ | refine W.sw ?_ | refine W.sa ?_ | refine W.sk ?_ | refine W.bs0 fun b_ => ?_ | refine W.ma fun b_ => ?_ | refine W.bsl fun b_ => ?_ | refine W.zu ?_ | refine W.zf ?_ | refine W.zd ?_ | refine W.zs ?_ | refine W.zv ?_ | refine W.zx ?_ | refine W.ex ?_ | refine W.mf ?_ | refine W.mk ?_ | refine SW.seq ?_ | refine SW.region ?_ | refine SW.block ?_ | refine SW.cond_t rfl ?_ | refine SW.cond_f rfl ?_ | refine SW.exit ?_ | refine SW.ret ?_ | refine SW.skip ?_))
      refine W.call (Set_bad hT Z hZ32 (by omega) hb sv) ?_ rfl (fun w2 hs => Rd.own (Hc := Ht) hsv hs inferInstance)
      rintro _ Hx ⟨rfl, rfl⟩
      (repeat' (first | refine W.mv ?_ | refine W.zl ?_ | refine W.fa ?_ | refine W.nl ?_ | refine W.as ?_ | refine W.zb ?_ | refine W.za ?_ | refine W.zi ?_ | refine W.zc ?_ | refine W.zp ?_ | refine W.st ?_ | refine SL.nilB ?_ | refine SL.nil ?_ | refine W.al fun b_ => ?_ | refine W.bx fun b_ => ?_ | refine W.bxa fun b_ => ?_ | refine W.sw ?_ | refine W.sa ?_ | refine W.sk ?_ | refine W.bs0 fun b_ => ?_ | refine W.ma fun b_ => ?_ | refine W.bsl fun b_ => ?_ | refine W.zu ?_ | refine W.zf ?_ | refine W.zd ?_ | refine W.zs ?_ | refine W.zv ?_ | refine W.zx ?_ | refine W.ex ?_ | refine W.mf ?_ | refine W.mk ?_ | refine SW.seq ?_ | refine SW.region ?_ | refine SW.block ?_ | refine SW.cond_t rfl ?_ | refine SW.cond_f rfl ?_ | refine SW.exit ?_ | refine SW.ret ?_ | refine SW.skip ?_))
      refine W.call (Root_p hT hB1 (by omega)) ?_
      rintro _ _ ⟨B2, rfl, rfl, hB2⟩
      (repeat' (first | refine W.mv ?_ | refine W.zl ?_ | refine W.fa ?_ | refine W.nl ?_ | refine W.as ?_ | refine W.zb ?_ | refine W.za ?_ | refine W.zi ?_ | refine W.zc ?_ | refine W.zp ?_ | refine W.st ?_ | refine SL.nilB ?_ | refine SL.nil ?_ | refine W.al fun b_ => ?_ | refine W.bx fun b_ => ?_ | refine W.bxa fun b_ => ?_ | refine W.sw ?_ | refine W.sa ?_ | refine W.sk ?_ | refine W.bs0 fun b_ => ?_ | refine W.ma fun b_ => ?_ | refine W.bsl fun b_ => ?_ | refine W.zu ?_ | refine W.zf ?_ | refine W.zd ?_ | refine W.zs ?_ | refine W.zv ?_ | refine W.zx ?_ | refine W.ex ?_ | refine W.mf ?_ | refine W.mk ?_ | refine SW.seq ?_ | refine SW.region ?_ | refine SW.block ?_ | refine SW.cond_t rfl ?_ | refine SW.cond_f rfl ?_ | refine SW.exit ?_ | refine SW.ret ?_ | refine SW.skip ?_))
      refine W.call (rroot_p L hL _ (by omega)) ?_ rfl (fun w2 hs => hw2.ro (Hc := []) hs)
      rintro _ _ ⟨rfl, rfl⟩
      (repeat' (first | refine W.mv ?_ | refine W.zl ?_ | refine W.fa ?_ | refine W.nl ?_ | refine W.as ?_ | refine W.zb ?_ | refine W.za ?_ | refine W.zi ?_ | refine W.zc ?_ | refine W.zp ?_ | refine W.st ?_ | refine SL.nilB ?_ | refine SL.nil ?_ | refine W.al fun b_ => ?_ | refine W.bx fun b_ => ?_ | refine W.bxa fun b_ => ?_ | refine W.sw ?_ | refine W.sa ?_ | refine W.sk ?_ | refine W.bs0 fun b_ => ?_ | refine W.ma fun b_ => ?_ | refine W.bsl fun b_ => ?_ | refine W.zu ?_ | refine W.zf ?_ | refine W.zd ?_ | refine W.zs ?_ | refine W.zv ?_ | refine W.zx ?_ | refine W.ex ?_ | refine W.mf ?_ | refine W.mk ?_ | refine SW.seq ?_ | refine SW.region ?_ | refine SW.block ?_ | refine SW.cond_t rfl ?_ | refine SW.cond_f rfl ?_ | refine SW.exit ?_ | refine SW.ret ?_ | refine SW.skip ?_))
      refine W.eA ?_ hr rfl
      (repeat' (first | refine W.mv ?_ | refine W.zl ?_ | refine W.fa ?_ | refine W.nl ?_ | refine W.as ?_ | refine W.zb ?_ | refine W.za ?_ | refine W.zi ?_ | refine W.zc ?_ | refine W.zp ?_ | refine W.st ?_ | refine SL.nilB ?_ | refine SL.nil ?_ | refine W.al fun b_ => ?_ | refine W.bx fun b_ => ?_ | refine W.bxa fun b_ => ?_ | refine W.sw ?_ | refine W.sa ?_ | refine W.sk ?_ | refine W.bs0 fun b_ => ?_ | refine W.ma fun b_ => ?_ | refine W.bsl fun b_ => ?_ | refine W.zu ?_ | refine W.zf ?_ | refine W.zd ?_ | refine W.zs ?_ | refine W.zv ?_ | refine W.zx ?_ | refine W.ex ?_ | refine W.mf ?_ | refine W.mk ?_ | refine SW.seq ?_ | refine SW.region ?_ | refine SW.block ?_ | refine SW.cond_t rfl ?_ | refine SW.cond_f rfl ?_ | refine SW.exit ?_ | refine SW.ret ?_ | refine SW.skip ?_))
      refine W.call awake12_p ?_
      rintro _ _ ⟨rfl, rfl⟩
      (repeat' (first | refine W.mv ?_ | refine W.zl ?_ | refine W.fa ?_ | refine W.nl ?_ | refine W.as ?_ | refine W.zb ?_ | refine W.za ?_ | refine W.zi ?_ | refine W.zc ?_ | refine W.zp ?_ | refine W.st ?_ | refine SL.nilB ?_ | refine SL.nil ?_ | refine W.al fun b_ => ?_ | refine W.bx fun b_ => ?_ | refine W.bxa fun b_ => ?_ | refine W.sw ?_ | refine W.sa ?_ | refine W.sk ?_ | refine W.bs0 fun b_ => ?_ | refine W.ma fun b_ => ?_ | refine W.bsl fun b_ => ?_ | refine W.zu ?_ | refine W.zf ?_ | refine W.zd ?_ | refine W.zs ?_ | refine W.zv ?_ | refine W.zx ?_ | refine W.ex ?_ | refine W.mf ?_ | refine W.mk ?_ | refine SW.seq ?_ | refine SW.region ?_ | refine SW.block ?_ | refine SW.cond_t rfl ?_ | refine SW.cond_f rfl ?_ | refine SW.exit ?_ | refine SW.ret ?_ | refine SW.skip ?_))
      refine Fin.to [] ?_
      exact F.f1 rfl
    | false =>
      have hVs : V = setL L Z := by rw [hV, setG_ok _ _ _ hb]
      have hV32 : D32 V := by rw [hVs]; exact setL_32 hL Z hZ32
      have hVl : V.length = L.length := by rw [hVs, setL_len]
      have hr : (rootV L).length = 32 := Sha.sum_len _
      have hr2 : (rootV V).length = 32 := Sha.sum_len _
      have hZok : ∀ x ∈ Z, 0 ≤ x.1 ∧ x.1 < L.length := fun x hx => by
        have := List.any_eq_false.1 hb x hx
        simpa [okK] using this
      have hiz : izv (Z.map Prod.fst) = iv (Z.map fun x => x.1.toNat) := by
        unfold izv iv
        rw [List.map_map, List.map_map]
        refine List.map_congr_left fun x hx => ?_
        simp only [Function.comp]
        rw [Int.toNat_of_nonneg (hZok x hx).1]
      have hka : ∀ k ∈ Z.map (fun x => x.1.toNat), k ≤ 1099511627776 := fun k hk => by
        obtain ⟨x, hx, rfl⟩ := List.mem_map.1 hk
        have := hZok x hx
        omega
      rw [hiz] at hwv
      obtain ⟨wa, wl2, wc2, rfl, -⟩ := hwv.form
      have hSet := Set_p hT hB1 hL (by omega) (by omega) Z hZ32 (by omega) hb sv
      rw [← hVs] at hSet
      have hflV : (cbs V.flatten).length = V.length * 32 := by rw [cbs_len, flatN_len hV32]
      have hab := rabove_p L.length (Z.map fun x => x.1.toNat) (by omega) (by rw [List.length_map]; omega) hka (.slice wa wl2 wc2)
      (repeat' (first | refine W.mv ?_ | refine W.zl ?_ | refine W.fa ?_ | refine W.nl ?_ | refine W.as ?_ | refine W.zb ?_ | refine W.za ?_ | refine W.zi ?_ | refine W.zc ?_ | refine W.zp ?_ | refine W.st ?_ | refine SL.nilB ?_ | refine SL.nil ?_ | refine W.al fun b_ => ?_ | refine W.bx fun b_ => ?_ | refine W.bxa fun b_ => ?_ | refine W.sw ?_ | refine W.sa ?_ | refine W.sk ?_ | refine W.bs0 fun b_ => ?_ | refine W.ma fun b_ => ?_ | refine W.bsl fun b_ => ?_ | refine W.zu ?_ | refine W.zf ?_ | refine W.zd ?_ | refine W.zs ?_ | refine W.zv ?_ | refine W.zx ?_ | refine W.ex ?_ | refine W.mf ?_ | refine W.mk ?_ | refine SW.seq ?_ | refine SW.region ?_ | refine SW.block ?_ | refine SW.cond_t rfl ?_ | refine SW.cond_f rfl ?_ | refine SW.exit ?_ | refine SW.ret ?_ | refine SW.skip ?_))
      refine W.call hSet ?_ rfl (fun w2 hs => Rd.own (Hc := Ht ++ B1) hsv hs inferInstance)
      rintro _ _ ⟨Ht2, B2, s2, rfl, rfl, hT2, hB2⟩
      (repeat' (first | refine W.mv ?_ | refine W.zl ?_ | refine W.fa ?_ | refine W.nl ?_ | refine W.as ?_ | refine W.zb ?_ | refine W.za ?_ | refine W.zi ?_ | refine W.zc ?_ | refine W.zp ?_ | refine W.st ?_ | refine SL.nilB ?_ | refine SL.nil ?_ | refine W.al fun b_ => ?_ | refine W.bx fun b_ => ?_ | refine W.bxa fun b_ => ?_ | refine W.sw ?_ | refine W.sa ?_ | refine W.sk ?_ | refine W.bs0 fun b_ => ?_ | refine W.ma fun b_ => ?_ | refine W.bsl fun b_ => ?_ | refine W.zu ?_ | refine W.zf ?_ | refine W.zd ?_ | refine W.zs ?_ | refine W.zv ?_ | refine W.zx ?_ | refine W.ex ?_ | refine W.mf ?_ | refine W.mk ?_ | refine SW.seq ?_ | refine SW.region ?_ | refine SW.block ?_ | refine SW.cond_t rfl ?_ | refine SW.cond_f rfl ?_ | refine SW.exit ?_ | refine SW.ret ?_ | refine SW.skip ?_))
      refine W.call hab ?_ rfl (fun w2 hs => Rd.ownB [] hwv hs)
      rintro _ _ ⟨rfl, rfl⟩
      (repeat' (first | refine W.mv ?_ | refine W.zl ?_ | refine W.fa ?_ | refine W.nl ?_ | refine W.as ?_ | refine W.zb ?_ | refine W.za ?_ | refine W.zi ?_ | refine W.zc ?_ | refine W.zp ?_ | refine W.st ?_ | refine SL.nilB ?_ | refine SL.nil ?_ | refine W.al fun b_ => ?_ | refine W.bx fun b_ => ?_ | refine W.bxa fun b_ => ?_ | refine W.sw ?_ | refine W.sa ?_ | refine W.sk ?_ | refine W.bs0 fun b_ => ?_ | refine W.ma fun b_ => ?_ | refine W.bsl fun b_ => ?_ | refine W.zu ?_ | refine W.zf ?_ | refine W.zd ?_ | refine W.zs ?_ | refine W.zv ?_ | refine W.zx ?_ | refine W.ex ?_ | refine W.mf ?_ | refine W.mk ?_ | refine SW.seq ?_ | refine SW.region ?_ | refine SW.block ?_ | refine SW.cond_t rfl ?_ | refine SW.cond_f rfl ?_ | refine SW.exit ?_ | refine SW.ret ?_ | refine SW.skip ?_))
      refine W.call (Root_p hT2 hB2 (by omega)) ?_
      rintro _ _ ⟨B3, rfl, rfl, hB3⟩
      (repeat' (first | refine W.mv ?_ | refine W.zl ?_ | refine W.fa ?_ | refine W.nl ?_ | refine W.as ?_ | refine W.zb ?_ | refine W.za ?_ | refine W.zi ?_ | refine W.zc ?_ | refine W.zp ?_ | refine W.st ?_ | refine SL.nilB ?_ | refine SL.nil ?_ | refine W.al fun b_ => ?_ | refine W.bx fun b_ => ?_ | refine W.bxa fun b_ => ?_ | refine W.sw ?_ | refine W.sa ?_ | refine W.sk ?_ | refine W.bs0 fun b_ => ?_ | refine W.ma fun b_ => ?_ | refine W.bsl fun b_ => ?_ | refine W.zu ?_ | refine W.zf ?_ | refine W.zd ?_ | refine W.zs ?_ | refine W.zv ?_ | refine W.zx ?_ | refine W.ex ?_ | refine W.mf ?_ | refine W.mk ?_ | refine SW.seq ?_ | refine SW.region ?_ | refine SW.block ?_ | refine SW.cond_t rfl ?_ | refine SW.cond_f rfl ?_ | refine SW.exit ?_ | refine SW.ret ?_ | refine SW.skip ?_))
      refine W.call (rroot_p V hV32 _ (by omega)) ?_ rfl (fun w2 hs => ?_)
      rotate_left
      · rw [← hVl]
        exact Rd.at (T := 24) (fz := (0, 0)) [] hs (l := cbs V.flatten ++ wj) (o := 0) (by rw [List.drop_zero, ← hflV, List.take_left']; rfl) hflV (by omega)
      rintro _ _ ⟨rfl, rfl⟩
      (repeat' (first | refine W.mv ?_ | refine W.zl ?_ | refine W.fa ?_ | refine W.nl ?_ | refine W.as ?_ | refine W.zb ?_ | refine W.za ?_ | refine W.zi ?_ | refine W.zc ?_ | refine W.zp ?_ | refine W.st ?_ | refine SL.nilB ?_ | refine SL.nil ?_ | refine W.al fun b_ => ?_ | refine W.bx fun b_ => ?_ | refine W.bxa fun b_ => ?_ | refine W.sw ?_ | refine W.sa ?_ | refine W.sk ?_ | refine W.bs0 fun b_ => ?_ | refine W.ma fun b_ => ?_ | refine W.bsl fun b_ => ?_ | refine W.zu ?_ | refine W.zf ?_ | refine W.zd ?_ | refine W.zs ?_ | refine W.zv ?_ | refine W.zx ?_ | refine W.ex ?_ | refine W.mf ?_ | refine W.mk ?_ | refine SW.seq ?_ | refine SW.region ?_ | refine SW.block ?_ | refine SW.cond_t rfl ?_ | refine SW.cond_f rfl ?_ | refine SW.exit ?_ | refine SW.ret ?_ | refine SW.skip ?_))
      refine W.eA ?_ hr2 rfl
      (repeat' (first | refine W.mv ?_ | refine W.zl ?_ | refine W.fa ?_ | refine W.nl ?_ | refine W.as ?_ | refine W.zb ?_ | refine W.za ?_ | refine W.zi ?_ | refine W.zc ?_ | refine W.zp ?_ | refine W.st ?_ | refine SL.nilB ?_ | refine SL.nil ?_ | refine W.al fun b_ => ?_ | refine W.bx fun b_ => ?_ | refine W.bxa fun b_ => ?_ | refine W.sw ?_ | refine W.sa ?_ | refine W.sk ?_ | refine W.bs0 fun b_ => ?_ | refine W.ma fun b_ => ?_ | refine W.bsl fun b_ => ?_ | refine W.zu ?_ | refine W.zf ?_ | refine W.zd ?_ | refine W.zs ?_ | refine W.zv ?_ | refine W.zx ?_ | refine W.ex ?_ | refine W.mf ?_ | refine W.mk ?_ | refine SW.seq ?_ | refine SW.region ?_ | refine SW.block ?_ | refine SW.cond_t rfl ?_ | refine SW.cond_f rfl ?_ | refine SW.exit ?_ | refine SW.ret ?_ | refine SW.skip ?_))
      refine W.call (Root_p hTc hB3 (by omega)) ?_
      rintro _ _ ⟨B4, rfl, rfl, hB4⟩
      (repeat' (first | refine W.mv ?_ | refine W.zl ?_ | refine W.fa ?_ | refine W.nl ?_ | refine W.as ?_ | refine W.zb ?_ | refine W.za ?_ | refine W.zi ?_ | refine W.zc ?_ | refine W.zp ?_ | refine W.st ?_ | refine SL.nilB ?_ | refine SL.nil ?_ | refine W.al fun b_ => ?_ | refine W.bx fun b_ => ?_ | refine W.bxa fun b_ => ?_ | refine W.sw ?_ | refine W.sa ?_ | refine W.sk ?_ | refine W.bs0 fun b_ => ?_ | refine W.ma fun b_ => ?_ | refine W.bsl fun b_ => ?_ | refine W.zu ?_ | refine W.zf ?_ | refine W.zd ?_ | refine W.zs ?_ | refine W.zv ?_ | refine W.zx ?_ | refine W.ex ?_ | refine W.mf ?_ | refine W.mk ?_ | refine SW.seq ?_ | refine SW.region ?_ | refine SW.block ?_ | refine SW.cond_t rfl ?_ | refine SW.cond_f rfl ?_ | refine SW.exit ?_ | refine SW.ret ?_ | refine SW.skip ?_))
      refine W.call (rroot_p L hL _ (by omega)) ?_ rfl (fun w2 hs => hw2.ro (Hc := []) hs)
      rintro _ _ ⟨rfl, rfl⟩
      (repeat' (first | refine W.mv ?_ | refine W.zl ?_ | refine W.fa ?_ | refine W.nl ?_ | refine W.as ?_ | refine W.zb ?_ | refine W.za ?_ | refine W.zi ?_ | refine W.zc ?_ | refine W.zp ?_ | refine W.st ?_ | refine SL.nilB ?_ | refine SL.nil ?_ | refine W.al fun b_ => ?_ | refine W.bx fun b_ => ?_ | refine W.bxa fun b_ => ?_ | refine W.sw ?_ | refine W.sa ?_ | refine W.sk ?_ | refine W.bs0 fun b_ => ?_ | refine W.ma fun b_ => ?_ | refine W.bsl fun b_ => ?_ | refine W.zu ?_ | refine W.zf ?_ | refine W.zd ?_ | refine W.zs ?_ | refine W.zv ?_ | refine W.zx ?_ | refine W.ex ?_ | refine W.mf ?_ | refine W.mk ?_ | refine SW.seq ?_ | refine SW.region ?_ | refine SW.block ?_ | refine SW.cond_t rfl ?_ | refine SW.cond_f rfl ?_ | refine SW.exit ?_ | refine SW.ret ?_ | refine SW.skip ?_))
      refine W.eA ?_ hr rfl
      (repeat' (first | refine W.mv ?_ | refine W.zl ?_ | refine W.fa ?_ | refine W.nl ?_ | refine W.as ?_ | refine W.zb ?_ | refine W.za ?_ | refine W.zi ?_ | refine W.zc ?_ | refine W.zp ?_ | refine W.st ?_ | refine SL.nilB ?_ | refine SL.nil ?_ | refine W.al fun b_ => ?_ | refine W.bx fun b_ => ?_ | refine W.bxa fun b_ => ?_ | refine W.sw ?_ | refine W.sa ?_ | refine W.sk ?_ | refine W.bs0 fun b_ => ?_ | refine W.ma fun b_ => ?_ | refine W.bsl fun b_ => ?_ | refine W.zu ?_ | refine W.zf ?_ | refine W.zd ?_ | refine W.zs ?_ | refine W.zv ?_ | refine W.zx ?_ | refine W.ex ?_ | refine W.mf ?_ | refine W.mk ?_ | refine SW.seq ?_ | refine SW.region ?_ | refine SW.block ?_ | refine SW.cond_t rfl ?_ | refine SW.cond_f rfl ?_ | refine SW.exit ?_ | refine SW.ret ?_ | refine SW.skip ?_))
      refine W.call awake12_p ?_
      rintro _ _ ⟨rfl, rfl⟩
      (repeat' (first | refine W.mv ?_ | refine W.zl ?_ | refine W.fa ?_ | refine W.nl ?_ | refine W.as ?_ | refine W.zb ?_ | refine W.za ?_ | refine W.zi ?_ | refine W.zc ?_ | refine W.zp ?_ | refine W.st ?_ | refine SL.nilB ?_ | refine SL.nil ?_ | refine W.al fun b_ => ?_ | refine W.bx fun b_ => ?_ | refine W.bxa fun b_ => ?_ | refine W.sw ?_ | refine W.sa ?_ | refine W.sk ?_ | refine W.bs0 fun b_ => ?_ | refine W.ma fun b_ => ?_ | refine W.bsl fun b_ => ?_ | refine W.zu ?_ | refine W.zf ?_ | refine W.zd ?_ | refine W.zs ?_ | refine W.zv ?_ | refine W.zx ?_ | refine W.ex ?_ | refine W.mf ?_ | refine W.mk ?_ | refine SW.seq ?_ | refine SW.region ?_ | refine SW.block ?_ | refine SW.cond_t rfl ?_ | refine SW.cond_f rfl ?_ | refine SW.exit ?_ | refine SW.ret ?_ | refine SW.skip ?_))
      refine Fin.to [] ?_
      exact F.f1 rfl
end Go.Proofs.Ytieamijnajbcnaa
