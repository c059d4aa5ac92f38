/- A new tree. -/
import Derived.Test.YtieamijnajbcnaaGreatD4
set_option linter.unusedVariables false
set_option linter.unusedSimpArgs false
namespace Go.Proofs.YtieamijnajbcnaaGreat
open Go
attribute [local irreducible] SW SL SQ SH SA SS Pu Fin CutF HandF

/-- A row of sums as it lies. -/
structure Rw where
  b : Nat
  cap : Nat
  junk : List Value
  r : List (List UInt8)
def Rw.val (w : Rw) : Value := .slice (some ⟨w.b, 0, none⟩) w.r.length w.cap
def Rw.hp (w : Rw) : Nat × Obj := (w.b, cl (cbs w.r.flatten ++ w.junk) 72)
def Rw.Ok (w : Rw) : Prop := D32 w.r ∧ w.junk.length = (w.cap - w.r.length) * 32 ∧ w.r.length ≤ w.cap
/-- Rows, one behind the other: their slices, their blocks. -/
def RowsP (vs : List Value) (L : List (List (List UInt8))) (H : Hp) : Prop := ∃ ws : List Rw, vs = ws.map Rw.val ∧ L = ws.map Rw.r ∧ H = ws.map Rw.hp ∧ ∀ w ∈ ws, w.Ok
theorem RowsP.nil : RowsP [] [] [] := ⟨[], rfl, rfl, rfl, by simp⟩
theorem RowsP.snoc {vs : List Value} {L : List (List (List UInt8))} {H : Hp} (h : RowsP vs L H) (w : Rw) (hw : w.Ok) : RowsP (vs ++ [w.val]) (L ++ [w.r]) (H ++ [w.hp]) := by
  obtain ⟨ws, rfl, rfl, rfl, h4⟩ := h
  refine ⟨ws ++ [w], by simp, by simp, by simp, fun x hx => ?_⟩
  rcases List.mem_append.1 hx with h | h
  · exact h4 x h
  · rw [List.mem_singleton] at h; subst h; exact hw
theorem RowsP.new {vs : List Value} {L : List (List (List UInt8))} {H : Hp} (h : RowsP vs L H) {b len : Nat} {r : List (List UInt8)} (hr : D32 r) (hl : r.length = len) : RowsP (vs ++ [.slice (some ⟨b, 0, none⟩) len len]) (L ++ [r]) (H ++ [(b, cl (cbs r.flatten) 72)]) := by
  subst hl
  have := h.snoc ⟨b, r.length, [], r⟩ ⟨hr, by simp, Nat.le_refl _⟩
  simpa [Rw.val, Rw.hp] using this
theorem RowsP.len {vs : List Value} {L : List (List (List UInt8))} {H : Hp} (h : RowsP vs L H) : vs.length = L.length := by
  obtain ⟨ws, rfl, rfl, rfl, h4⟩ := h
  simp
/-- A tree of these rows. -/
def TreeP (t b n : Nat) (L : List (List (List UInt8))) (H : Hp) : Prop :=
  ∃ lv vs Hl Hw, H = (t, cl [.pointer (some ⟨b, 0, none⟩), .int .i64 (n : Int), lv] 127) :: (Hl ++ Hw) ∧ Sl 76 1 lv vs Hl ∧ RowsP vs L Hw
def Bk.adds (s : Bk) (ts : List (List UInt8)) : Bk := ts.foldl Bk.add s
theorem Bk.adds_one (s : Bk) (ts : List (List UInt8)) (t : List UInt8) : (s.adds ts).add t = s.adds (ts ++ [t]) := by simp [Bk.adds]
def levT (l : List (List UInt8)) (D d : Nat) (i : Nat) : List (List UInt8) := (List.range i).map fun i => nodeT (d + 1) i (atV l d (2 * i)) (atV l d (2 * i + 1))
def txs (l : List (List UInt8)) (D k i : Nat) : List (List UInt8) := ((List.range k).flatMap fun d => levT l D d (2 ^ (D - (d + 1)))) ++ levT l D k i
theorem txs_step (l : List (List UInt8)) (D k i : Nat) : txs l D k i ++ [nodeT (k + 1) i (atV l k (2 * i)) (atV l k (2 * i + 1))] = txs l D k (i + 1) := by
  simp [txs, levT, List.range_succ]
theorem txs_next (l : List (List UInt8)) (D k : Nat) : txs l D k (2 ^ (D - (k + 1))) = txs l D (k + 1) 0 := by
  simp [txs, levT, List.range_succ]
theorem txs_all (l : List (List UInt8)) (D : Nat) : txs l D D 0 = textsV l D := by
  simp [txs, levT, textsV]
def rowsV (l : List (List UInt8)) (D k : Nat) : List (List (List UInt8)) := (List.range k).map (rowV l D)
theorem rowsV_next (l : List (List UInt8)) (D k : Nat) : rowsV l D k ++ [rowV l D k] = rowsV l D (k + 1) := by simp [rowsV, List.range_succ]
theorem zs32 (n : Nat) : zs (List.replicate 32 (.int .u8 0)) n = cbs (List.replicate n z32).flatten := by
  unfold zs cbs
  rw [List.map_flatten, List.map_replicate, List.map_replicate]
  rfl
theorem z_32 (n : Nat) : D32 (List.replicate n z32) := by
  intro x hx
  rw [List.eq_of_mem_replicate hx]; rfl
theorem row0 (l : List (List UInt8)) {D : Nat} (h : l.length ≤ 2 ^ D) : rowV l D 0 = l ++ List.replicate (2 ^ D - l.length) z32 := by
  apply List.ext_getElem?
  intro i
  rcases Nat.lt_or_ge i (2 ^ D) with h1 | h1
  · rw [rowV_get l (by simpa using h1)]
    unfold atV
    rw [List.getD_eq_getElem?_getD]
    rcases Nat.lt_or_ge i l.length with h2 | h2
    · rw [List.getElem?_append_left h2, List.getElem?_eq_getElem h2]; rfl
    · rw [List.getElem?_append_right h2, List.getElem?_eq_none h2, List.getElem?_replicate, if_pos (by omega)]; rfl
  · rw [List.getElem?_eq_none (by rw [rowV_len]; simpa using h1), List.getElem?_eq_none (by simp; omega)]
theorem row0_cells (l : List (List UInt8)) (hl : D32 l) {D X : Nat} (hX : X = 2 ^ D) (h : l.length ≤ X) : List.take 0 (cbs (List.replicate X z32).flatten) ++ cbs l.flatten ++ List.drop (0 + (cbs l.flatten).length) (cbs (List.replicate X z32).flatten) = cbs (rowV l D 0).flatten := by
  subst hX
  rw [row0 l h, List.take_zero, List.nil_append, Nat.zero_add, cbs_len, flatN_len hl, show List.replicate (2 ^ D) z32 = List.replicate l.length z32 ++ List.replicate (2 ^ D - l.length) z32 by rw [List.replicate_append_replicate]; congr 1; omega, List.flatten_append, List.flatten_append, cbs_app, cbs_app]
  congr 1
  rw [List.drop_append_of_le_length (by rw [cbs_len, flatN_len (z_32 _)]; simp), List.drop_of_length_le (by rw [cbs_len, flatN_len (z_32 _)]; simp), List.nil_append]
/-- The next row, of which the first ones are there. -/
def partV (l : List (List UInt8)) (k Y i : Nat) : List (List UInt8) := (List.range i).map (atV l (k + 1)) ++ List.replicate (Y - i) z32
theorem partV_32 {l : List (List UInt8)} (hl : D32 l) (k Y i : Nat) : D32 (partV l k Y i) := by
  intro x hx
  rcases List.mem_append.1 hx with h | h
  · obtain ⟨j, -, rfl⟩ := List.mem_map.1 h; exact atV_len hl _ _
  · exact z_32 _ x h
theorem partV_len (l : List (List UInt8)) (k : Nat) {Y i : Nat} (h : i ≤ Y) : (partV l k Y i).length = Y := by simp [partV]; omega
theorem partV_set (l : List (List UInt8)) (k : Nat) {Y i : Nat} (h : i < Y) : (partV l k Y i).set i (atV l (k + 1) i) = partV l k Y (i + 1) := by
  unfold partV
  rw [List.set_append_right _ _ (by simp), List.length_map, List.length_range, Nat.sub_self, show Y - i = (Y - (i + 1)) + 1 by omega, List.replicate_succ, List.set_cons_zero, List.range_succ]
  simp
theorem partV_0 (l : List (List UInt8)) (k Y : Nat) : partV l k Y 0 = List.replicate Y z32 := by simp [partV]
theorem partV_all (l : List (List UInt8)) (D k : Nat) : partV l k (2 ^ (D - (k + 1))) (2 ^ (D - (k + 1))) = rowV l D (k + 1) := by simp [partV, rowV]
structure NS where
  k : Nat
  lv : Value
  vs : List Value
  Hl : Hp
  Hw : Hp
  b : Nat
  Hb : Hp
theorem new_p {b tp : Nat} {s : Bk} {Hb : Hp} (hB : BookP b tp s Hb) (v : Value) (l : List (List UInt8)) (hl : D32 l) (h1 : 1 ≤ l.length) (h2 : l.length ≤ 1024) :
    Tri Tryz.prog 22 [.pointer (some ⟨b, 0, none⟩), v] Hb (fun w => Rd (Hb.map Prod.fst) w 32 v (cbs l.flatten)) (fun r H' => ∃ t Ht Hb', r = .tuple #[.pointer (some ⟨t, 0, none⟩), .int .i64 0] ∧ H' = Ht ++ Hb' ∧ TreeP t b l.length (rowsV l (dep l.length) (dep l.length + 1)) Ht ∧ BookP b tp (s.adds (textsV l (dep l.length))) Hb') := by
  refine Tri.mk Tryz.func22 rfl Tryz.ntmps22 rfl fun w hw => ?_
  have hw2 := hw
  obtain ⟨a, cap, rfl, hc, hg⟩ := hw.row hl
  have hd : dep l.length ≤ 10 := dep_max (by simpa using h2)
  have hle := dep_le l.length
  have hdp := depth_p l.length (by omega)
  generalize dep l.length = D at hd hle hdp ⊢
  obtain ⟨X, hX⟩ : ∃ X, X = 2 ^ D := ⟨_, rfl⟩
  have hX2 : X ≤ 1024 := by rw [hX]; exact Nat.pow_le_pow_right (n := 2) (by omega) hd
  rw [← hX] at hle
  have hbf : bfill (fun i => [(0, 1), (1, 1), (2, 1)][i]?) ([.pointer none] ++ [.int .i64 0] ++ [.slice none 0 0]) [(0, .pointer (some ⟨b, 0, none⟩)), (1, .int .i64 (l.length : Int))] = some [.pointer (some ⟨b, 0, none⟩), .int .i64 (l.length : Int), .slice none 0 0] := rfl
  (repeat' (first | refine W.mv ?_ | refine W.zl ?_ | refine W.fa ?_ | refine W.nl ?_ | refine W.as ?_ | refine W.zb ?_ | refine W.za ?_ | refine W.zi ?_ | refine W.zc ?_ | refine W.zp ?_ | refine W.st ?_ | refine SL.nilB ?_ | refine SL.nil ?_ | refine W.al fun b_ => ?_ | refine W.bx fun b_ => ?_ | refine W.bxa fun b_ => ?_ | refine W.sw ?_ | refine W.sa ?_ | refine W.sk ?_ | refine W.bs0 fun b_ => ?_ | refine W.ma fun b_ => ?_ | refine W.bsl fun b_ => ?_ | refine W.zu ?_ | refine W.zf ?_ | refine W.zd ?_ | refine W.zs ?_ | refine W.zv ?_ | refine W.zx ?_ | refine W.ex ?_ | refine W.mf ?_ | refine W.mk ?_ | refine SW.seq ?_ | refine SW.region ?_ | refine SW.block ?_ | refine SW.cond_t rfl ?_ | refine SW.cond_f rfl ?_ | refine SW.exit ?_ | refine SW.ret ?_ | refine SW.skip ?_))
  refine W.call hdp ?_
  rintro _ _ ⟨rfl, rfl⟩
  haveI := shl1 (d := D) (by omega) hX
  have hrow := row0_cells l hl hX hle
  (repeat' (first | refine W.mv ?_ | refine W.zl ?_ | refine W.fa ?_ | refine W.nl ?_ | refine W.as ?_ | refine W.zb ?_ | refine W.za ?_ | refine W.zi ?_ | refine W.zc ?_ | refine W.zp ?_ | refine W.st ?_ | refine SL.nilB ?_ | refine SL.nil ?_ | refine W.al fun b_ => ?_ | refine W.bx fun b_ => ?_ | refine W.bxa fun b_ => ?_ | refine W.sw ?_ | refine W.sa ?_ | refine W.sk ?_ | refine W.bs0 fun b_ => ?_ | refine W.ma fun b_ => ?_ | refine W.bsl fun b_ => ?_ | refine W.zu ?_ | refine W.zf ?_ | refine W.zd ?_ | refine W.zs ?_ | refine W.zv ?_ | refine W.zx ?_ | refine W.ex ?_ | refine W.mf ?_ | refine W.mk ?_ | refine SW.seq ?_ | refine SW.region ?_ | refine SW.cond_t rfl ?_ | refine SW.cond_f rfl ?_ | refine SW.exit ?_ | refine SW.ret ?_ | refine SW.skip ?_))
  rename_i t
  rw [zs32]
  refine W.cy (mm := l.length) (ys := cbs l.flatten) (fun w2 hs => hw2.srcAt hs) ?_ (hfit := by rw [cbs_len, cbs_len, flatN_len hl, flatN_len (z_32 _), List.length_replicate]; omega)
  rw [hrow]
  (repeat' (first | refine W.mv ?_ | refine W.zl ?_ | refine W.fa ?_ | refine W.nl ?_ | refine W.as ?_ | refine W.zb ?_ | refine W.za ?_ | refine W.zi ?_ | refine W.zc ?_ | refine W.zp ?_ | refine W.st ?_ | refine SL.nilB ?_ | refine SL.nil ?_ | refine W.al fun b_ => ?_ | refine W.bx fun b_ => ?_ | refine W.bxa fun b_ => ?_ | refine W.sw ?_ | refine W.sa ?_ | refine W.sk ?_ | refine W.bs0 fun b_ => ?_ | refine W.ma fun b_ => ?_ | refine W.bsl fun b_ => ?_ | refine W.zu ?_ | refine W.zf ?_ | refine W.zd ?_ | refine W.zs ?_ | refine W.zv ?_ | refine W.zx ?_ | refine W.ex ?_ | refine W.mf ?_ | refine W.mk ?_ | refine SW.seq ?_ | refine SW.region ?_ | refine SW.cond_t rfl ?_ | refine SW.cond_f rfl ?_ | refine SW.exit ?_ | refine SW.ret ?_ | refine SW.skip ?_))
  rename_i nb
  rw [bs1]
  refine W.ap (ys := [.slice (some ⟨nb, 0, none⟩) X X]) (mm := 1) (Sl.nil _ _) (fun w2 hs => (Sl.own 76 1 b_ (xs := [.slice (some ⟨nb, 0, none⟩) X X]) rfl).srcAt hs inferInstance) (fun lv0 Hl0 hv0 => ?_) (hys := rfl) (hbytes := by simp)
  have h01 := hv0.isOne
  rw [List.nil_append] at hv0
  (repeat' (first | refine W.mv ?_ | refine W.zl ?_ | refine W.fa ?_ | refine W.nl ?_ | refine W.as ?_ | refine W.zb ?_ | refine W.za ?_ | refine W.zi ?_ | refine W.zc ?_ | refine W.zp ?_ | refine W.st ?_ | refine SL.nilB ?_ | refine SL.nil ?_ | refine W.al fun b_ => ?_ | refine W.bx fun b_ => ?_ | refine W.bxa fun b_ => ?_ | refine W.sw ?_ | refine W.sa ?_ | refine W.sk ?_ | refine W.bs0 fun b_ => ?_ | refine W.ma fun b_ => ?_ | refine W.bsl fun b_ => ?_ | refine W.zu ?_ | refine W.zf ?_ | refine W.zd ?_ | refine W.zs ?_ | refine W.zv ?_ | refine W.zx ?_ | refine W.ex ?_ | refine W.mf ?_ | refine W.mk ?_ | refine SW.seq ?_ | refine SW.region ?_ | refine SW.cond_t rfl ?_ | refine SW.cond_f rfl ?_ | refine SW.exit ?_ | refine SW.ret ?_ | refine SW.skip ?_))
  rw [show ([.pointer (some ⟨b, 0, none⟩), .int .i64 (l.length : Int), .slice none 0 0] : List Value).set 2 lv0 = [.pointer (some ⟨b, 0, none⟩), .int .i64 (l.length : Int), lv0] from rfl]
  refine SW.cutH [0, 6] ((t, cl [.pointer (some ⟨b, 0, none⟩), .int .i64 (l.length : Int), lv0] 127) :: (Hl0 ++ ((nb, cl (cbs (rowV l D 0).flatten) 72) :: Hb))) (fun x : NS => []) (fun x : NS => (t, cl [.pointer (some ⟨b, 0, none⟩), .int .i64 (l.length : Int), x.lv] 127) :: (x.Hl ++ (x.Hw ++ x.Hb)))
    (fun x => Sl 76 1 x.lv x.vs x.Hl ∧ RowsP x.vs (rowsV l D (D + 1)) x.Hw ∧ BookP b tp (s.adds (textsV l D)) x.Hb) ?_ ?_
  rotate_left
  · rintro ⟨k, lv, vs, Hl, Hw, nb2, Hb2⟩ ⟨hlv, hrw, hB2⟩
    dsimp only at hlv hrw hB2 ⊢
    (repeat' (first | refine W.mv ?_ | refine W.zl ?_ | refine W.fa ?_ | refine W.nl ?_ | refine W.as ?_ | refine W.zb ?_ | refine W.za ?_ | refine W.zi ?_ | refine W.zc ?_ | refine W.zp ?_ | refine W.st ?_ | refine SL.nilB ?_ | refine SL.nil ?_ | refine W.al fun b_ => ?_ | refine W.bx fun b_ => ?_ | refine W.bxa fun b_ => ?_ | refine W.sw ?_ | refine W.sa ?_ | refine W.sk ?_ | refine W.bs0 fun b_ => ?_ | refine W.ma fun b_ => ?_ | refine W.bsl fun b_ => ?_ | refine W.zu ?_ | refine W.zf ?_ | refine W.zd ?_ | refine W.zs ?_ | refine W.zv ?_ | refine W.zx ?_ | refine W.ex ?_ | refine W.mf ?_ | refine W.mk ?_ | refine SW.seq ?_ | refine SW.region ?_ | refine SW.block ?_ | refine SW.cond_t rfl ?_ | refine SW.cond_f rfl ?_ | refine SW.exit ?_ | refine SW.ret ?_ | refine SW.skip ?_))
    refine Fin.to (((t, cl [.pointer (some ⟨b, 0, none⟩), .int .i64 (l.length : Int), lv] 127) :: (Hl ++ Hw)) ++ Hb2) ?_
    refine F.f2 ?_
    exact ⟨t, _, Hb2, rfl, rfl, ⟨lv, vs, Hl, Hw, rfl, hlv, hrw⟩, hB2⟩
  · subst hX
    (repeat' (first | refine W.mv ?_ | refine W.zl ?_ | refine W.fa ?_ | refine W.nl ?_ | refine W.as ?_ | refine W.zb ?_ | refine W.za ?_ | refine W.zi ?_ | refine W.zc ?_ | refine W.zp ?_ | refine W.st ?_ | refine SL.nilB ?_ | refine SL.nil ?_ | refine W.al fun b_ => ?_ | refine W.bx fun b_ => ?_ | refine W.bxa fun b_ => ?_ | refine W.sw ?_ | refine W.sa ?_ | refine W.sk ?_ | refine W.bs0 fun b_ => ?_ | refine W.ma fun b_ => ?_ | refine W.bsl fun b_ => ?_ | refine W.zu ?_ | refine W.zf ?_ | refine W.zd ?_ | refine W.zs ?_ | refine W.zv ?_ | refine W.zx ?_ | refine W.ex ?_ | refine W.mf ?_ | refine W.mk ?_ | refine SW.seq ?_ | refine SW.region ?_ | refine SW.block ?_ | refine SW.cond_t rfl ?_ | refine SW.cond_f rfl ?_ | refine SW.exit ?_ | refine SW.ret ?_ | refine SW.skip ?_))
    refine SW.loopF [0, 6] (fun x : NS => [(7, .slice (some ⟨x.b, 0, none⟩) (2 ^ (D - x.k)) (2 ^ (D - x.k)))]) (fun x => (t, cl [.pointer (some ⟨b, 0, none⟩), .int .i64 (l.length : Int), x.lv] 127) :: (x.Hl ++ (x.Hw ++ (x.b, cl (cbs (rowV l D x.k).flatten) 72) :: x.Hb))) (fun x => D - x.k)
      (fun x => x.k ≤ D ∧ Sl 76 1 x.lv (x.vs ++ [.slice (some ⟨x.b, 0, none⟩) (2 ^ (D - x.k)) (2 ^ (D - x.k))]) x.Hl ∧ RowsP x.vs (rowsV l D x.k) x.Hw ∧ BookP b tp (s.adds (txs l D x.k 0)) x.Hb) ⟨0, lv0, [], Hl0, [], nb, Hb⟩ ⟨Nat.zero_le _, hv0, RowsP.nil, hB⟩ ?_
    rintro ⟨k, lv, vs, Hl, Hw, nb2, Hb2⟩ ⟨hk, hlv, hrw, hB2⟩
    dsimp only at hk hlv hrw hB2 ⊢
    have hv1 := hlv.isOne
    have hrl := hrw.len
    have hrl2 : vs.length = k := by rw [hrl]; simp [rowsV]
    by_cases hkD : k < D
    · have hXY : 2 ^ (D - k) = 2 ^ (D - (k + 1)) * 2 := by rw [show D - k = D - (k + 1) + 1 by omega, Nat.pow_succ]
      have hXm : 2 ^ (D - k) ≤ 1024 := Nat.pow_le_pow_right (n := 2) (by omega) (show D - k ≤ 10 by omega)
      have hYp : 0 < 2 ^ (D - (k + 1)) := Nat.pow_pos (by omega)
      have hget : ∀ i, i < 2 ^ (D - k) → (rowV l D k)[i]? = some (atV l k i) := fun i h => rowV_get l h
      have hnx := rowsV_next l D k
      have hpa := partV_all l D k
      have hst := fun i => txs_step l D k i
      have hnt := txs_next l D k
      have hr32 := rowV_32 hl D k
      have hrwn := hrw.new (b := nb2) hr32 (rowV_len l D k)
      rw [hnx] at hrwn
      generalize 2 ^ (D - k) = X at *
      generalize hYe : 2 ^ (D - (k + 1)) = Y at hXY hYp hpa hnt
      have hlv2 := hlv
      obtain ⟨la, ll, lc, rfl, hll⟩ := hlv2.form
      obtain rfl : ll = k + 1 := by simp at hll; omega
      haveI i1 : NatI ((X : Int) / 2) Y := ⟨by omega⟩
      (repeat' (first | refine W.mv ?_ | refine W.zl ?_ | refine W.fa ?_ | refine W.nl ?_ | refine W.as ?_ | refine W.zb ?_ | refine W.za ?_ | refine W.zi ?_ | refine W.zc ?_ | refine W.zp ?_ | refine W.st ?_ | refine SL.nilB ?_ | refine SL.nil ?_ | refine W.al fun b_ => ?_ | refine W.bx fun b_ => ?_ | refine W.bxa fun b_ => ?_ | refine W.sw ?_ | refine W.sa ?_ | refine W.sk ?_ | refine W.bs0 fun b_ => ?_ | refine W.ma fun b_ => ?_ | refine W.bsl fun b_ => ?_ | refine W.zu ?_ | refine W.zf ?_ | refine W.zd ?_ | refine W.zs ?_ | refine W.zv ?_ | refine W.zx ?_ | refine W.ex ?_ | refine W.mf ?_ | refine W.mk ?_ | refine SW.seq ?_ | refine SW.region ?_ | refine SW.cond_t rfl ?_ | refine SW.cond_f rfl ?_ | refine SW.exit ?_ | refine SW.ret ?_ | refine SW.skip ?_))
      refine SW.block ?_
      (repeat' (first | refine W.mv ?_ | refine W.zl ?_ | refine W.fa ?_ | refine W.nl ?_ | refine W.as ?_ | refine W.zb ?_ | refine W.za ?_ | refine W.zi ?_ | refine W.zc ?_ | refine W.zp ?_ | refine W.st ?_ | refine SL.nilB ?_ | refine SL.nil ?_ | refine W.al fun b_ => ?_ | refine W.bx fun b_ => ?_ | refine W.bxa fun b_ => ?_ | refine W.sw ?_ | refine W.sa ?_ | refine W.sk ?_ | refine W.bs0 fun b_ => ?_ | refine W.ma fun b_ => ?_ | refine W.bsl fun b_ => ?_ | refine W.zu ?_ | refine W.zf ?_ | refine W.zd ?_ | refine W.zs ?_ | refine W.zv ?_ | refine W.zx ?_ | refine W.ex ?_ | refine W.mf ?_ | refine W.mk ?_ | refine SW.seq ?_ | refine SW.region ?_ | refine SW.cond_t rfl ?_ | refine SW.cond_f rfl ?_ | refine SW.exit ?_ | refine SW.ret ?_ | refine SW.skip ?_))
      rename_i b0
      rw [zs32, ← partV_0 l k Y]
      refine SW.cutH [0, 6, 7, 8] ((b_, cl (cbs (partV l k Y 0).flatten) 72) :: Hb2) (fun x : Hp => []) (fun x : Hp => (b_, cl (cbs (rowV l D (k + 1)).flatten) 72) :: x) (fun x => BookP b tp (s.adds (txs l D (k + 1) 0)) x) ?_ ?_
      · (repeat' (first | refine W.mv ?_ | refine W.zl ?_ | refine W.fa ?_ | refine W.nl ?_ | refine W.as ?_ | refine W.zb ?_ | refine W.za ?_ | refine W.zi ?_ | refine W.zc ?_ | refine W.zp ?_ | refine W.st ?_ | refine SL.nilB ?_ | refine SL.nil ?_ | refine W.al fun b_ => ?_ | refine W.bx fun b_ => ?_ | refine W.bxa fun b_ => ?_ | refine W.sw ?_ | refine W.sa ?_ | refine W.sk ?_ | refine W.bs0 fun b_ => ?_ | refine W.ma fun b_ => ?_ | refine W.bsl fun b_ => ?_ | refine W.zu ?_ | refine W.zf ?_ | refine W.zd ?_ | refine W.zs ?_ | refine W.zv ?_ | refine W.zx ?_ | refine W.ex ?_ | refine W.mf ?_ | refine W.mk ?_ | refine SW.seq ?_ | refine SW.region ?_ | refine SW.block ?_ | refine SW.cond_t rfl ?_ | refine SW.cond_f rfl ?_ | refine SW.exit ?_ | refine SW.ret ?_ | refine SW.skip ?_))
        refine SW.loopF [0, 6, 7, 8, 53] (fun x : Nat × Hp => [(54, .int .i64 (x.1 : Int))]) (fun x => (b_, cl (cbs (partV l k Y x.1).flatten) 72) :: x.2) (fun x => Y - x.1) (fun x => x.1 ≤ Y ∧ BookP b tp (s.adds (txs l D k x.1)) x.2) (0, Hb2) ⟨Nat.zero_le _, hB2⟩ ?_
        rintro ⟨i, Hb3⟩ ⟨hi, hB3⟩
        dsimp only at hi hB3 ⊢
        by_cases hiY : i < Y
        · have hx1 := atV_len hl k (2 * i)
          have hx2 := atV_len hl k (2 * i + 1)
          have hg1 := cbs_get hr32 (hget (2 * i) (by omega))
          have hg2 := cbs_get hr32 (hget (2 * i + 1) (by omega))
          have hc1 := cl32 hx1
          have hc2 := cl32 hx2
          have hbp : bfill (fun i => [(0, 1), (1, 1)][i]?) ([.int .i64 0] ++ [.int .i64 0]) [(0, .int .i64 ((k + 1 : Nat) : Int)), (1, .int .i64 (i : Int))] = some [.int .i64 ((k + 1 : Nat) : Int), .int .i64 (i : Int)] := rfl
          have hp32 := partV_32 hl k Y i
          have hpl := partV_len l k hi
          have hfit : i * 32 + 32 ≤ (cbs (partV l k Y i).flatten).length := by rw [cbs_len, flatN_len hp32, hpl]; omega
          have hset := cbs_set (x := atV l (k + 1) i) hp32 (i := i) (by omega)
          rw [partV_set l k hiY] at hset
          have hr := cl32 (atV_len hl (k + 1) i)
          (repeat' (first | refine W.mv ?_ | refine W.zl ?_ | refine W.fa ?_ | refine W.nl ?_ | refine W.as ?_ | refine W.zb ?_ | refine W.za ?_ | refine W.zi ?_ | refine W.zc ?_ | refine W.zp ?_ | refine W.st ?_ | refine SL.nilB ?_ | refine SL.nil ?_ | refine W.al fun b_ => ?_ | refine W.bx fun b_ => ?_ | refine W.bxa fun b_ => ?_ | refine W.sw ?_ | refine W.sa ?_ | refine W.sk ?_ | refine W.bs0 fun b_ => ?_ | refine W.ma fun b_ => ?_ | refine W.bsl fun b_ => ?_ | refine W.zu ?_ | refine W.zf ?_ | refine W.zd ?_ | refine W.zs ?_ | refine W.zv ?_ | refine W.zx ?_ | refine W.ex ?_ | refine W.mf ?_ | refine W.mk ?_ | refine SW.seq ?_ | refine SW.region ?_ | refine SW.block ?_ | refine SW.cond_t rfl ?_ | refine SW.cond_f rfl ?_ | refine SW.exit ?_ | refine SW.ret ?_ | refine SW.skip ?_))
          (refine SW.regionS [21, 23] ?_ (by kernel_rfl); refine SS.tw 0 rfl (p_move rfl rfl) ?_; refine SS.tw 1 rfl (p_move rfl rfl) ?_; refine SS.tw 2 rfl (p_move rfl rfl) ?_; refine SS.tw 3 rfl (p_move rfl rfl) ?_; refine SS.tw 4 rfl (p_nil rfl rfl) ?_; refine SS.tw 5 rfl (p_fieldAddr rfl rfl OfN.ok) ?_; (first | refine SS.ls 6 [7, 9, 21, 23] rfl ?_ | refine SS.tw 6 rfl (p_load_sR rfl rfl (by assumption) (by assumption) (by assumption)) ?_); refine SS.tw 7 rfl (p_len_slice rfl rfl) ?_; refine SS.tw 8 rfl (p_move rfl rfl) ?_; refine SS.tw 9 rfl (p_build rfl rfl (by first | assumption | rfl)) ?_; refine SS.tw 10 rfl (p_move rfl rfl) ?_; refine SS.tw 11 rfl (p_move rfl rfl) ?_; (first | refine SS.tw 12 rfl (p_mul rfl rfl rfl (w64 (by omega))) ?_ | refine SS.tw 12 rfl (p_uar rfl rfl rfl) ?_); (first | refine SS.tw 13 rfl (p_ix rfl rfl rfl (by omega)) ?_ | refine SS.tw 13 rfl (p_ixa rfl rfl rfl (by omega)) ?_); (first | refine SS.lw 14 [21, 23] rfl ?_ | refine SS.la 14 [21, 23] rfl ?_ | refine SS.tw 14 rfl (p_load_aR rfl rfl (by assumption) (by assumption) (by assumption) (by assumption)) ?_); refine SS.tw 15 rfl (p_move rfl rfl) ?_; refine SS.tw 16 rfl (p_move rfl rfl) ?_; (first | refine SS.tw 17 rfl (p_mul rfl rfl rfl (w64 (by omega))) ?_ | refine SS.tw 17 rfl (p_uar rfl rfl rfl) ?_); (first | refine SS.tw 18 rfl (p_add rfl rfl rfl (w64 (by omega))) ?_ | refine SS.tw 18 rfl (p_uar rfl rfl rfl) ?_); (first | refine SS.tw 19 rfl (p_ix rfl rfl rfl (by omega)) ?_ | refine SS.tw 19 rfl (p_ixa rfl rfl rfl (by omega)) ?_); (first | refine SS.lw 20 [21, 23] rfl ?_ | refine SS.la 20 [21, 23] rfl ?_ | refine SS.tw 20 rfl (p_load_aR rfl rfl (by assumption) (by assumption) (by assumption) (by assumption)) ?_); refine SS.effB 21 ?_ rfl (by kernel_rfl))
          refine W.call (node_p hB3 (k + 1) i _ _ hx1 hx2) ?_
          rintro _ Hb4 ⟨rfl, hB4⟩
          rw [Bk.adds_one, hst] at hB4
          rw [show nodeV (k + 1) i (atV l k (2 * i)) (atV l k (2 * i + 1)) = atV l (k + 1) i from rfl]
          (refine SL.nilB ?_; (first | refine SS.tw 22 rfl (p_ix rfl rfl rfl (by omega)) ?_ | refine SS.tw 22 rfl (p_ixa rfl rfl rfl (by omega)) ?_); refine SS.effB 23 ?_ rfl (by kernel_rfl); (repeat' (first | refine W.mv ?_ | refine W.zl ?_ | refine W.fa ?_ | refine W.nl ?_ | refine W.as ?_ | refine W.zb ?_ | refine W.za ?_ | refine W.zi ?_ | refine W.zc ?_ | refine W.zp ?_ | refine W.st ?_ | refine SL.nilB ?_ | refine SL.nil ?_ | refine W.al fun b_ => ?_ | refine W.bx fun b_ => ?_ | refine W.bxa fun b_ => ?_ | refine W.sw ?_ | refine W.sa ?_ | refine W.sk ?_ | refine W.bs0 fun b_ => ?_ | refine W.ma fun b_ => ?_ | refine W.bsl fun b_ => ?_ | refine W.zu ?_ | refine W.zf ?_ | refine W.zd ?_ | refine W.zs ?_ | refine W.zv ?_ | refine W.zx ?_ | refine W.ex ?_ | refine W.mf ?_ | refine W.mk ?_)); refine SS.done ?_ (by kernel_rfl))
          rw [hset]
          (repeat' (first | refine W.mv ?_ | refine W.zl ?_ | refine W.fa ?_ | refine W.nl ?_ | refine W.as ?_ | refine W.zb ?_ | refine W.za ?_ | refine W.zi ?_ | refine W.zc ?_ | refine W.zp ?_ | refine W.st ?_ | refine SL.nilB ?_ | refine SL.nil ?_ | refine W.al fun b_ => ?_ | refine W.bx fun b_ => ?_ | refine W.bxa fun b_ => ?_ | refine W.sw ?_ | refine W.sa ?_ | refine W.sk ?_ | refine W.bs0 fun b_ => ?_ | refine W.ma fun b_ => ?_ | refine W.bsl fun b_ => ?_ | refine W.zu ?_ | refine W.zf ?_ | refine W.zd ?_ | refine W.zs ?_ | refine W.zv ?_ | refine W.zx ?_ | refine W.ex ?_ | refine W.mf ?_ | refine W.mk ?_ | refine SW.seq ?_ | refine SW.region ?_ | refine SW.block ?_ | refine SW.cond_t rfl ?_ | refine SW.cond_f rfl ?_ | refine SW.exit ?_ | refine SW.ret ?_ | refine SW.skip ?_))
          refine HandF.mk (i + 1, Hb4) ?_
          exact ⟨by omega, hB4⟩
        · have hi2 : i = Y := by omega
          subst hi2
          rw [hpa]
          rw [hnt] at hB3
          (repeat' (first | refine W.mv ?_ | refine W.zl ?_ | refine W.fa ?_ | refine W.nl ?_ | refine W.as ?_ | refine W.zb ?_ | refine W.za ?_ | refine W.zi ?_ | refine W.zc ?_ | refine W.zp ?_ | refine W.st ?_ | refine SL.nilB ?_ | refine SL.nil ?_ | refine W.al fun b_ => ?_ | refine W.bx fun b_ => ?_ | refine W.bxa fun b_ => ?_ | refine W.sw ?_ | refine W.sa ?_ | refine W.sk ?_ | refine W.bs0 fun b_ => ?_ | refine W.ma fun b_ => ?_ | refine W.bsl fun b_ => ?_ | refine W.zu ?_ | refine W.zf ?_ | refine W.zd ?_ | refine W.zs ?_ | refine W.zv ?_ | refine W.zx ?_ | refine W.ex ?_ | refine W.mf ?_ | refine W.mk ?_ | refine SW.seq ?_ | refine SW.region ?_ | refine SW.block ?_ | refine SW.cond_t rfl ?_ | refine SW.cond_f rfl ?_ | refine SW.exit ?_ | refine SW.ret ?_ | refine SW.skip ?_))
          refine CutF.mk Hb3 ?_
          exact hB3
      intro Hb3 hB3
      (repeat' (first | refine W.mv ?_ | refine W.zl ?_ | refine W.fa ?_ | refine W.nl ?_ | refine W.as ?_ | refine W.zb ?_ | refine W.za ?_ | refine W.zi ?_ | refine W.zc ?_ | refine W.zp ?_ | refine W.st ?_ | refine SL.nilB ?_ | refine SL.nil ?_ | refine W.al fun b_ => ?_ | refine W.bx fun b_ => ?_ | refine W.bxa fun b_ => ?_ | refine W.sw ?_ | refine W.sa ?_ | refine W.sk ?_ | refine W.bs0 fun b_ => ?_ | refine W.ma fun b_ => ?_ | refine W.bsl fun b_ => ?_ | refine W.zu ?_ | refine W.zf ?_ | refine W.zd ?_ | refine W.zs ?_ | refine W.zv ?_ | refine W.zx ?_ | refine W.ex ?_ | refine W.mf ?_ | refine W.mk ?_ | refine SW.seq ?_ | refine SW.region ?_ | refine SW.block ?_ | refine SW.cond_t rfl ?_ | refine SW.cond_f rfl ?_ | refine SW.exit ?_ | refine SW.ret ?_ | refine SW.skip ?_))
      rename_i b1
      rw [bs1]
      refine W.ap (ys := [.slice (some ⟨b1, 0, none⟩) Y Y]) (mm := 1) hlv (fun w2 hs => (Sl.own 76 1 b_ (xs := [.slice (some ⟨b1, 0, none⟩) Y Y]) rfl).srcAt hs inferInstance) (fun lv2 Hl2 hv2 => ?_) (hys := rfl) (hbytes := by simp; omega)
      have h21 := hv2.isOne
      (repeat' (first | refine W.mv ?_ | refine W.zl ?_ | refine W.fa ?_ | refine W.nl ?_ | refine W.as ?_ | refine W.zb ?_ | refine W.za ?_ | refine W.zi ?_ | refine W.zc ?_ | refine W.zp ?_ | refine W.st ?_ | refine SL.nilB ?_ | refine SL.nil ?_ | refine W.al fun b_ => ?_ | refine W.bx fun b_ => ?_ | refine W.bxa fun b_ => ?_ | refine W.sw ?_ | refine W.sa ?_ | refine W.sk ?_ | refine W.bs0 fun b_ => ?_ | refine W.ma fun b_ => ?_ | refine W.bsl fun b_ => ?_ | refine W.zu ?_ | refine W.zf ?_ | refine W.zd ?_ | refine W.zs ?_ | refine W.zv ?_ | refine W.zx ?_ | refine W.ex ?_ | refine W.mf ?_ | refine W.mk ?_ | refine SW.seq ?_ | refine SW.region ?_ | refine SW.block ?_ | refine SW.cond_t rfl ?_ | refine SW.cond_f rfl ?_ | refine SW.exit ?_ | refine SW.ret ?_ | refine SW.skip ?_))
      rw [show ([.pointer (some ⟨b, 0, none⟩), .int .i64 (l.length : Int), .slice la (k + 1) lc] : List Value).set 2 lv2 = [.pointer (some ⟨b, 0, none⟩), .int .i64 (l.length : Int), lv2] from rfl]
      subst hYe
      refine HandF.mk ⟨k + 1, lv2, vs ++ [.slice (some ⟨nb2, 0, none⟩) X X], Hl2, Hw ++ [(nb2, cl (cbs (rowV l D k).flatten) 72)], b1, Hb3⟩ ?_
      exact ⟨hkD, hv2, hrwn, hB3⟩
    · have hk2 : k = D := by omega
      subst hk2
      have e1 : 2 ^ (k - k) = 1 := by rw [Nat.sub_self]
      have hrwn := hrw.new (b := nb2) (rowV_32 hl k k) (rowV_len l k k)
      rw [rowsV_next] at hrwn
      rw [txs_all] at hB2
      rw [e1] at hlv hrwn ⊢
      obtain ⟨la, ll, lc, rfl, hll⟩ := hlv.form
      (repeat' (first | refine W.mv ?_ | refine W.zl ?_ | refine W.fa ?_ | refine W.nl ?_ | refine W.as ?_ | refine W.zb ?_ | refine W.za ?_ | refine W.zi ?_ | refine W.zc ?_ | refine W.zp ?_ | refine W.st ?_ | refine SL.nilB ?_ | refine SL.nil ?_ | refine W.al fun b_ => ?_ | refine W.bx fun b_ => ?_ | refine W.bxa fun b_ => ?_ | refine W.sw ?_ | refine W.sa ?_ | refine W.sk ?_ | refine W.bs0 fun b_ => ?_ | refine W.ma fun b_ => ?_ | refine W.bsl fun b_ => ?_ | refine W.zu ?_ | refine W.zf ?_ | refine W.zd ?_ | refine W.zs ?_ | refine W.zv ?_ | refine W.zx ?_ | refine W.ex ?_ | refine W.mf ?_ | refine W.mk ?_ | refine SW.seq ?_ | refine SW.region ?_ | refine SW.block ?_ | refine SW.cond_t rfl ?_ | refine SW.cond_f rfl ?_ | refine SW.exit ?_ | refine SW.ret ?_ | refine SW.skip ?_))
      refine CutF.mk ⟨k, .slice la ll lc, vs ++ [.slice (some ⟨nb2, 0, none⟩) 1 1], Hl, Hw ++ [(nb2, cl (cbs (rowV l k k).flatten) 72)], nb2, Hb2⟩ ?_
      exact ⟨hlv, hrwn, hB2⟩
end Go.Proofs.YtieamijnajbcnaaGreat
