/- The document's AES: a key made ready. -/
import Derived.Test.YtieamijnajbcnaaGreatK6
import Derived.Test.YtieamijnajbcnaaGreatK7
set_option linter.unusedVariables false
set_option linter.unusedSimpArgs false
set_option linter.unusedSectionVars false
namespace Go.Proofs.YtieamijnajbcnaaGreat
open Go
attribute [local irreducible] SW SL SQ SH SA SS Pu Fin CutF HandF

namespace Rg
def twN (n : Nat) : List UInt8 := (List.range n).map (fun k => mul 2 (UInt8.ofNat k)) ++ List.replicate (256 - n) 0
def twL : List UInt8 := (List.range 256).map fun k => mul 2 (UInt8.ofNat k)
theorem twN_len {n : Nat} (h : n ≤ 256) : (twN n).length = 256 := by unfold twN; simp; omega
theorem twN_set {n : Nat} (h : n < 256) : (twN n).set n (mul 2 (UInt8.ofNat n)) = twN (n + 1) := by
  unfold twN
  rw [List.set_append_right _ _ (by simp), List.range_succ, List.map_append, List.append_assoc]
  congr 1
  rw [List.length_map, List.length_range, Nat.sub_self, show 256 - n = (256 - (n + 1)) + 1 by omega, List.replicate_succ]
  rfl
theorem twN_all : twN 256 = twL := by unfold twN twL; simp
theorem twL_len : twL.length = 256 := by unfold twL; simp
def subT (T : List UInt8) (w : List UInt8) : List UInt8 := w.map fun x => T.getD x.toNat 0
/-- The next word is reckoned with this; p: the power. -/
def nextW (T : List UInt8) (w : List UInt8) (p : UInt8) (i n : Nat) : List UInt8 :=
  if i % n = 0 then Aes.xorH (subT T (Aes.rotW w)) p else if n = 8 ∧ i % 8 = 4 then subT T w else w
def nextP (U : List UInt8) (p : UInt8) (i n : Nat) : UInt8 := if i % n = 0 then U.getD p.toNat 0 else p
def grow (T U : List UInt8) (n : Nat) (ws : List (List UInt8)) : Nat → List (List UInt8) × UInt8
  | 0 => (ws, 1)
  | m + 1 => ((grow T U n ws m).1 ++ [Aes.xor4 ((grow T U n ws m).1.getD (ws.length + m - n) []) (nextW T ((grow T U n ws m).1.getD (ws.length + m - 1) []) (grow T U n ws m).2 (ws.length + m) n)], nextP U (grow T U n ws m).2 (ws.length + m) n)
theorem nextW_len (T : List UInt8) {w : List UInt8} (h : w.length = 4) (p : UInt8) (i n : Nat) : (nextW T w p i n).length = 4 := by
  unfold nextW Aes.xorH Aes.rotW subT
  split
  · rw [List.length_set, List.length_map]; simp; omega
  · split
    · rw [List.length_map]; exact h
    · exact h
theorem grow_len (T U : List UInt8) (n : Nat) (ws : List (List UInt8)) (m : Nat) : (grow T U n ws m).1.length = ws.length + m := by
  induction m with
  | zero => rfl
  | succ m ih => unfold grow; rw [List.length_append, ih]; rfl
theorem grow_at {T U : List UInt8} {n : Nat} {ws : List (List UInt8)} {m i : Nat} (h : i < ws.length + m) : (grow T U n ws m).1[i]? = some ((grow T U n ws m).1.getD i []) := by
  rw [List.getD_eq_getElem?_getD, List.getElem?_eq_getElem (by rw [grow_len]; exact h)]; rfl
theorem grow_four {T U : List UInt8} {n : Nat} (hn : 0 < n) {ws : List (List UInt8)} (hw : ∀ y ∈ ws, y.length = 4) (hl : n ≤ ws.length) (m : Nat) : ∀ y ∈ (grow T U n ws m).1, y.length = 4 := by
  induction m with
  | zero => exact hw
  | succ m ih =>
    intro y hy
    unfold grow at hy
    rcases List.mem_append.1 hy with hy | hy
    · exact ih y hy
    · obtain rfl := List.mem_singleton.1 hy
      have h1 := ih _ (List.mem_of_getElem? (grow_at (T := T) (U := U) (n := n) (ws := ws) (m := m) (i := ws.length + m - n) (by omega)))
      have h2 := ih _ (List.mem_of_getElem? (grow_at (T := T) (U := U) (n := n) (ws := ws) (m := m) (i := ws.length + m - 1) (by omega)))
      rw [Aes.xor4_len (by rw [h1, nextW_len _ h2])]
      exact h1
theorem nextW_a (T : List UInt8) (b0 b1 b2 b3 p : UInt8) {i n : Nat} (h : i % n = 0) : nextW T [b0, b1, b2, b3] p i n = [T.getD b1.toNat 0 ^^^ p, T.getD b2.toNat 0, T.getD b3.toNat 0, T.getD b0.toNat 0] := by unfold nextW; rw [if_pos h]; rfl
theorem nextW_b (T : List UInt8) (b0 b1 b2 b3 p : UInt8) {i n : Nat} (h : ¬ i % n = 0) (h8 : n = 8 ∧ i % 8 = 4) : nextW T [b0, b1, b2, b3] p i n = [T.getD b0.toNat 0, T.getD b1.toNat 0, T.getD b2.toNat 0, T.getD b3.toNat 0] := by unfold nextW; rw [if_neg h, if_pos h8]; rfl
theorem nextW_c (T : List UInt8) (w : List UInt8) (p : UInt8) {i n : Nat} (h : ¬ i % n = 0) (h8 : ¬ (n = 8 ∧ i % 8 = 4)) : nextW T w p i n = w := by unfold nextW; rw [if_neg h, if_neg h8]
theorem nextP_a (U : List UInt8) (p : UInt8) {i n : Nat} (h : i % n = 0) : nextP U p i n = U.getD p.toNat 0 := by unfold nextP; rw [if_pos h]
theorem nextP_b (U : List UInt8) (p : UInt8) {i n : Nat} (h : ¬ i % n = 0) : nextP U p i n = p := by unfold nextP; rw [if_neg h]
def sched (x : List UInt8) : List (List UInt8) := (grow subL twL (x.length / 4) (Aes.keyW x (x.length / 4)) (3 * (x.length / 4) + 28)).1
end Rg
/-- The cells of a document's cipher. -/
def rcL (X Y : List Value) (ws r : Value) : List Value := X ++ (Y ++ [ws, r])
section
variable {X Y : List Value} {ws r : Value} (hX : X.length = 256) (hY : Y.length = 256)
include hX hY
theorem rcL_len : (rcL X Y ws r).length = 514 := by unfold rcL; simp [hX, hY]
theorem rcL_w : (rcL X Y ws r)[512]? = some ws := by
  unfold rcL
  rw [List.getElem?_append_right (by omega), List.getElem?_append_right (by omega), hX, hY]; rfl
theorem rcL_r : (rcL X Y ws r)[513]? = some r := by
  unfold rcL
  rw [List.getElem?_append_right (by omega), List.getElem?_append_right (by omega), hX, hY]; rfl
theorem rcL_x {i : Nat} (h : i < 256) : (rcL X Y ws r)[i]? = X[i]? := by
  unfold rcL
  rw [List.getElem?_append_left (by omega)]
theorem rcL_y {i : Nat} (h : i < 256) : (rcL X Y ws r)[256 + i]? = Y[i]? := by
  unfold rcL
  rw [List.getElem?_append_right (by omega), hX, show 256 + i - 256 = i from Nat.add_sub_cancel_left .., List.getElem?_append_left (by omega)]
theorem rcL_sw (v : Value) : (rcL X Y ws r).set 512 v = rcL X Y v r := by
  unfold rcL
  rw [List.set_append_right _ _ (by omega), List.set_append_right _ _ (by omega), hX, hY]; rfl
theorem rcL_sr (v : Value) : (rcL X Y ws r).set 513 v = rcL X Y ws v := by
  unfold rcL
  rw [List.set_append_right _ _ (by omega), List.set_append_right _ _ (by omega), hX, hY]; rfl
theorem rcL_sy {i : Nat} (h : i < 256) (v : Value) : (rcL X Y ws r).set (256 + i) v = rcL X (Y.set i v) ws r := by
  unfold rcL
  rw [List.set_append_right _ _ (by omega), hX, show 256 + i - 256 = i from Nat.add_sub_cancel_left .., List.set_append_left _ _ (by omega)]
theorem rcL_sx (Z : List Value) (hZ : Z.length = 256) : (rcL X Y ws r).take 0 ++ Z ++ (rcL X Y ws r).drop (0 + 256) = rcL Z Y ws r := by
  unfold rcL
  rw [List.take_zero, List.nil_append, Nat.zero_add, ← hX, List.drop_left]
end
theorem rcL_0 : List.replicate 512 (.int .u8 0) ++ [.slice none 0 0] ++ [.int .i64 0] = rcL (cbs (Rg.backN 0)) (cbs (Rg.twN 0)) (.slice none 0 0) (.int .i64 0) := by
  unfold rcL
  rw [← Rg.zero256, show cbs (Rg.twN 0) = List.replicate 256 (.int .u8 0) from Rg.zero256.symm, show (512 : Nat) = 256 + 256 from rfl, ← List.replicate_append_replicate]
  simp only [List.append_assoc, List.singleton_append]
/-- Kept out of sight. -/
@[irreducible] def Hid (p : Prop) : Prop := p
theorem Hid.mk {p : Prop} (h : p) : Hid p := by unfold Hid; exact h
theorem Hid.out {p : Prop} (h : Hid p) : p := by unfold Hid at h; exact h
theorem bfill0 (pl : Nat → Option (Nat × Nat)) (z : List Value) : bfill pl z [] = some z := by unfold bfill; rfl
theorem ro_at {lv : List Value} {ko len : Nat} {xs : List UInt8} (hv : (lv.drop ko).take (len * 1) = cbs xs) {i : Nat} {x : UInt8} (hx : xs[i]? = some x) : lv[ko + i]? = some (u8v x) := by
  have h1 : ((lv.drop ko).take (len * 1))[i]? = some (u8v x) := by rw [hv]; exact cbs_at2 hx
  rw [List.getElem?_take] at h1
  split at h1
  · rw [List.getElem?_drop] at h1; exact h1
  · cases h1
/-- A document's cipher, made ready. -/
def RCipP (c n : Nat) (ws : List (List UInt8)) (H : Hp) : Prop := ∃ wv Hs, Sl 171 4 wv (cbs ws.flatten) Hs ∧ H = (c, cl (rcL (cbs Rg.subL) (cbs Rg.twL) wv (.int .i64 (n : Int))) 189) :: Hs

set_option maxHeartbeats 1600000 in
theorem ranew_p {kb ko len cap : Nat} (xs : List UInt8) (hx : xs.length = 16 ∨ xs.length = 32) : Tri Tryz.prog 39 [.slice (some ⟨kb, ko, none⟩) len cap] [] (fun w => Rd [] w 1 (.slice (some ⟨kb, ko, none⟩) len cap) (cbs xs))
    (fun v H => ∃ c, v = .pointer (some ⟨c, 0, none⟩) ∧ RCipP c (xs.length / 4 + 6) (Rg.sched xs) H) := by
  refine Tri.mk Tryz.func39 rfl Tryz.ntmps39 rfl fun w hw => ?_
  obtain ⟨hlen, hcap⟩ : xs.length = len ∧ len ≤ cap := hw.len1
  have hb11 : bfill (fun i => [(0, 256), (256, 256), (512, 1), (513, 1)][i]?) (List.replicate 512 (.int .u8 0) ++ [.slice none 0 0] ++ [.int .i64 0]) [] = some (rcL (cbs (Rg.backN 0)) (cbs (Rg.twN 0)) (.slice none 0 0) (.int .i64 0)) := by rw [← rcL_0]; exact bfill0 _ _
  have l1 : (cbs Rg.subL).length = 256 := by rw [cbs_len, Rg.subL_len]
  have l2 : (cbs (Rg.backN 256)).length = 256 := by rw [cbs_len, Rg.backN_len]
  have l3 : (cbs (Rg.backN 0)).length = 256 := by rw [cbs_len, Rg.backN_len]
  have l4 : (cbs (Rg.twN 0)).length = 256 := by rw [cbs_len, Rg.twN_len (Nat.zero_le _)]
  have hsx := rcL_sx l3 l4 (ws := .slice none 0 0) (r := .int .i64 0) (cbs Rg.subL) l1
  have hle := rcL_len l3 l4 (ws := .slice none 0 0) (r := .int .i64 0)
  refine SW.seq ?_
  refine SW.region ?_
  refine W.as ?_
  refine SL.nil ?_
  refine SW.seq ?_
  refine SW.region ?_
  refine SL.pu (p_build rfl rfl hb11) rfl rfl ?_
  clear hb11
  have z1 : Rg.twN 0 = Rg.twN 0 := rfl
  generalize hA : cbs (Rg.backN 0) = A at *
  generalize hX : cbs Rg.subL = X at *
  generalize hY0 : cbs (Rg.twN 0) = Y0 at *
  have oX : OC X := by rw [← hX]; infer_instance
  refine W.bxa fun b3 => ?_
  (repeat' (first | refine W.mv ?_ | refine W.zl ?_ | refine W.fa ?_ | refine W.nl ?_ | refine W.as ?_ | refine W.zb ?_ | refine W.za ?_ | refine W.zi ?_ | refine W.zc ?_ | refine W.zp ?_ | refine W.st ?_ | refine SL.nilB ?_ | refine SL.nil ?_ | refine W.al fun b_ => ?_ | refine W.bx fun b_ => ?_ | refine W.bxa fun b_ => ?_ | refine W.sw ?_ | refine W.sa ?_ | refine W.sk ?_ | refine W.bs0 fun b_ => ?_ | refine W.ma fun b_ => ?_ | refine W.bsl fun b_ => ?_ | refine W.zu ?_ | refine W.zf ?_ | refine W.zd ?_ | refine W.zs ?_ | refine W.zv ?_ | refine W.zx ?_ | refine W.ex ?_ | refine W.mf ?_ | refine W.mk ?_ | refine SW.seq ?_ | refine SW.region ?_ | refine SW.cond_t rfl ?_ | refine SW.cond_f rfl ?_ | refine SW.exit ?_ | refine SW.ret ?_ | refine SW.skip ?_))
  refine W.call rtable_p ?_
  rintro _ _ ⟨rfl, rfl⟩
  rw [hX]
  generalize cbs (Rg.backN 256) = B at *
  have kX := Hid.mk hX
  have kY := Hid.mk hY0
  clear hA hX hY0
  have hle' : 0 + 256 ≤ (rcL A Y0 (.slice none 0 0) (.int .i64 0)).length := by omega
  (repeat' (first | refine W.mv ?_ | refine W.zl ?_ | refine W.fa ?_ | refine W.nl ?_ | refine W.as ?_ | refine W.zb ?_ | refine W.za ?_ | refine W.zi ?_ | refine W.zc ?_ | refine W.zp ?_ | refine W.st ?_ | refine SL.nilB ?_ | refine SL.nil ?_ | refine W.al fun b_ => ?_ | refine W.bx fun b_ => ?_ | refine W.bxa fun b_ => ?_ | refine W.sw ?_ | refine W.sa ?_ | refine W.sk ?_ | refine W.bs0 fun b_ => ?_ | refine W.ma fun b_ => ?_ | refine W.bsl fun b_ => ?_ | refine W.zu ?_ | refine W.zf ?_ | refine W.zd ?_ | refine W.zs ?_ | refine W.zv ?_ | refine W.zx ?_ | refine W.ex ?_ | refine W.mf ?_ | refine W.mk ?_ | refine SW.seq ?_ | refine SW.region ?_ | refine SW.cond_t rfl ?_ | refine SW.cond_f rfl ?_ | refine SW.exit ?_ | refine SW.ret ?_ | refine SW.skip ?_))
  rw [hsx]
  clear hsx hle hle'
  obtain ⟨n, hn⟩ : ∃ n, xs.length / 4 = n := ⟨_, rfl⟩
  have hd : (len : Int) / 4 = (n : Int) := by omega
  have lT : (cbs Rg.twL).length = 256 := by rw [cbs_len, Rg.twL_len]
  refine SW.cutH [0, 3] [(b3, cl (rcL X Y0 (.slice none 0 0) (.int .i64 0)) 189)] (fun _ : Unit => []) (fun _ => [(b3, cl (rcL X (cbs Rg.twL) (.slice none 0 0) (.int .i64 0)) 189)]) (fun _ => True) ?_ ?_
  · (repeat' (first | refine W.mv ?_ | refine W.zl ?_ | refine W.fa ?_ | refine W.nl ?_ | refine W.as ?_ | refine W.zb ?_ | refine W.za ?_ | refine W.zi ?_ | refine W.zc ?_ | refine W.zp ?_ | refine W.st ?_ | refine SL.nilB ?_ | refine SL.nil ?_ | refine W.al fun b_ => ?_ | refine W.bx fun b_ => ?_ | refine W.bxa fun b_ => ?_ | refine W.sw ?_ | refine W.sa ?_ | refine W.sk ?_ | refine W.bs0 fun b_ => ?_ | refine W.ma fun b_ => ?_ | refine W.bsl fun b_ => ?_ | refine W.zu ?_ | refine W.zf ?_ | refine W.zd ?_ | refine W.zs ?_ | refine W.zv ?_ | refine W.zx ?_ | refine W.ex ?_ | refine W.mf ?_ | refine W.mk ?_ | refine SW.seq ?_ | refine SW.region ?_ | refine SW.block ?_ | refine SW.cond_t rfl ?_ | refine SW.cond_f rfl ?_ | refine SW.exit ?_ | refine SW.ret ?_ | refine SW.skip ?_))
    rw [← kY.out]
    refine SW.loopF [0, 3] (fun n : Nat => [(4, .int .i64 (n : Int))]) (fun n => [(b3, cl (rcL X (cbs (Rg.twN n)) (.slice none 0 0) (.int .i64 0)) 189)]) (fun n => 256 - n) (fun n => n ≤ 256) 0 (Nat.zero_le _) ?_
    intro i hi
    by_cases h : i < 256
    · have lY : (cbs (Rg.twN i)).length = 256 := by rw [cbs_len, Rg.twN_len hi]
      have hset := cbs_stI (Rg.twN i) i (Rg.mul 2 (UInt8.ofNat i))
      rw [Rg.twN_set h] at hset
      have hs := rcL_sy (ws := .slice none 0 0) (r := .int .i64 0) l1 lY h (u8v (Rg.mul 2 (UInt8.ofNat i)))
      rw [hset] at hs
      have hl : 256 + i < (rcL X (cbs (Rg.twN i)) (.slice none 0 0) (.int .i64 0)).length := by rw [rcL_len l1 lY]; omega
      have hc := rmul_p 2 (UInt8.ofNat i)
      generalize Rg.mul 2 (UInt8.ofNat i) = m at *
      generalize cbs (Rg.twN i) = Y at *
      (repeat' (first | refine W.mv ?_ | refine W.zl ?_ | refine W.fa ?_ | refine W.nl ?_ | refine W.as ?_ | refine W.zb ?_ | refine W.za ?_ | refine W.zi ?_ | refine W.zc ?_ | refine W.zp ?_ | refine W.st ?_ | refine SL.nilB ?_ | refine SL.nil ?_ | refine W.al fun b_ => ?_ | refine W.bx fun b_ => ?_ | refine W.bxa fun b_ => ?_ | refine W.sw ?_ | refine W.sa ?_ | refine W.sk ?_ | refine W.bs0 fun b_ => ?_ | refine W.ma fun b_ => ?_ | refine W.bsl fun b_ => ?_ | refine W.zu ?_ | refine W.zf ?_ | refine W.zd ?_ | refine W.zs ?_ | refine W.zv ?_ | refine W.zx ?_ | refine W.ex ?_ | refine W.mf ?_ | refine W.mk ?_ | refine SW.seq ?_ | refine SW.region ?_ | refine SW.block ?_ | refine SW.cond_t rfl ?_ | refine SW.cond_f rfl ?_ | refine SW.exit ?_ | refine SW.ret ?_ | refine SW.skip ?_))
      (refine SW.regionS [] ?_ (by kernel_rfl); refine SS.tw 0 rfl (p_move rfl rfl) ?_; refine SS.tw 1 rfl (p_move rfl rfl) ?_; refine SS.tw 2 rfl (p_move rfl rfl) ?_; refine SS.tw 3 rfl (p_cv rfl rfl) ?_; refine SS.tw 5 rfl (p_nil rfl rfl) ?_; refine SS.tw 6 rfl (p_fieldAddr rfl rfl OfN.ok) ?_; refine SS.effK 4 ?_ rfl (by kernel_rfl))
      refine W.call hc ?_
      rintro _ _ ⟨rfl, rfl⟩
      (refine SL.nilB ?_; (first | refine SS.tw 7 rfl (p_ix rfl rfl rfl (by omega)) ?_ | refine SS.tw 7 rfl (p_ixa rfl rfl rfl (by omega)) ?_); refine SS.effK 8 ?_ rfl (by kernel_rfl); (repeat' (first | refine W.mv ?_ | refine W.zl ?_ | refine W.fa ?_ | refine W.nl ?_ | refine W.as ?_ | refine W.zb ?_ | refine W.za ?_ | refine W.zi ?_ | refine W.zc ?_ | refine W.zp ?_ | refine W.st ?_ | refine SL.nilB ?_ | refine SL.nil ?_ | refine W.al fun b_ => ?_ | refine W.bx fun b_ => ?_ | refine W.bxa fun b_ => ?_ | refine W.sw ?_ | refine W.sa ?_ | refine W.sk ?_ | refine W.bs0 fun b_ => ?_ | refine W.ma fun b_ => ?_ | refine W.bsl fun b_ => ?_ | refine W.zu ?_ | refine W.zf ?_ | refine W.zd ?_ | refine W.zs ?_ | refine W.zv ?_ | refine W.zx ?_ | refine W.ex ?_ | refine W.mf ?_ | refine W.mk ?_)); refine SS.done ?_ (by kernel_rfl))
      rw [hs]
      (repeat' (first | refine W.mv ?_ | refine W.zl ?_ | refine W.fa ?_ | refine W.nl ?_ | refine W.as ?_ | refine W.zb ?_ | refine W.za ?_ | refine W.zi ?_ | refine W.zc ?_ | refine W.zp ?_ | refine W.st ?_ | refine SL.nilB ?_ | refine SL.nil ?_ | refine W.al fun b_ => ?_ | refine W.bx fun b_ => ?_ | refine W.bxa fun b_ => ?_ | refine W.sw ?_ | refine W.sa ?_ | refine W.sk ?_ | refine W.bs0 fun b_ => ?_ | refine W.ma fun b_ => ?_ | refine W.bsl fun b_ => ?_ | refine W.zu ?_ | refine W.zf ?_ | refine W.zd ?_ | refine W.zs ?_ | refine W.zv ?_ | refine W.zx ?_ | refine W.ex ?_ | refine W.mf ?_ | refine W.mk ?_ | refine SW.seq ?_ | refine SW.region ?_ | refine SW.block ?_ | refine SW.cond_t rfl ?_ | refine SW.cond_f rfl ?_ | refine SW.exit ?_ | refine SW.ret ?_ | refine SW.skip ?_))
      refine HandF.mk (i + 1) ?_
      omega
    · have : i = 256 := by omega
      subst this
      rw [Rg.twN_all]
      (repeat' (first | refine W.mv ?_ | refine W.zl ?_ | refine W.fa ?_ | refine W.nl ?_ | refine W.as ?_ | refine W.zb ?_ | refine W.za ?_ | refine W.zi ?_ | refine W.zc ?_ | refine W.zp ?_ | refine W.st ?_ | refine SL.nilB ?_ | refine SL.nil ?_ | refine W.al fun b_ => ?_ | refine W.bx fun b_ => ?_ | refine W.bxa fun b_ => ?_ | refine W.sw ?_ | refine W.sa ?_ | refine W.sk ?_ | refine W.bs0 fun b_ => ?_ | refine W.ma fun b_ => ?_ | refine W.bsl fun b_ => ?_ | refine W.zu ?_ | refine W.zf ?_ | refine W.zd ?_ | refine W.zs ?_ | refine W.zv ?_ | refine W.zx ?_ | refine W.ex ?_ | refine W.mf ?_ | refine W.mk ?_ | refine SW.seq ?_ | refine SW.region ?_ | refine SW.block ?_ | refine SW.cond_t rfl ?_ | refine SW.cond_f rfl ?_ | refine SW.exit ?_ | refine SW.ret ?_ | refine SW.skip ?_))
      refine CutF.mk () ?_
      trivial
  rintro _ -
  generalize hY : cbs Rg.twL = Y at *
  have kY2 := Hid.mk hY
  clear hY kY
  have hl3 : 513 < (rcL X Y (.slice none 0 0) (.int .i64 0)).length := by rw [rcL_len l1 lT]; decide
  (repeat' (first | refine W.mv ?_ | refine W.zl ?_ | refine W.fa ?_ | refine W.nl ?_ | refine W.as ?_ | refine W.zb ?_ | refine W.za ?_ | refine W.zi ?_ | refine W.zc ?_ | refine W.zp ?_ | refine W.st ?_ | refine SL.nilB ?_ | refine SL.nil ?_ | refine W.al fun b_ => ?_ | refine W.bx fun b_ => ?_ | refine W.bxa fun b_ => ?_ | refine W.sw ?_ | refine W.sa ?_ | refine W.sk ?_ | refine W.bs0 fun b_ => ?_ | refine W.ma fun b_ => ?_ | refine W.bsl fun b_ => ?_ | refine W.zu ?_ | refine W.zf ?_ | refine W.zd ?_ | refine W.zs ?_ | refine W.zv ?_ | refine W.zx ?_ | refine W.ex ?_ | refine W.mf ?_ | refine W.mk ?_ | refine SW.seq ?_ | refine SW.region ?_ | refine SW.cond_t rfl ?_ | refine SW.cond_f rfl ?_ | refine SW.exit ?_ | refine SW.ret ?_ | refine SW.skip ?_))
  rw [hd, show (n : Int) + 6 = ((n + 6 : Nat) : Int) by omega, rcL_sr l1 lT]
  clear hl3
  have h4n : 4 * n = xs.length := by omega
  refine SW.cutH [0, 3, 5] [(b3, cl (rcL X Y (.slice none 0 0) (.int .i64 ((n + 6 : Nat) : Int))) 189)] (fun _ : Value × Hp => []) (fun s => (b3, cl (rcL X Y s.1 (.int .i64 ((n + 6 : Nat) : Int))) 189) :: s.2) (fun s => Sl 171 4 s.1 (cbs (Aes.keyW xs n).flatten) s.2) ?_ ?_
  · (repeat' (first | refine W.mv ?_ | refine W.zl ?_ | refine W.fa ?_ | refine W.nl ?_ | refine W.as ?_ | refine W.zb ?_ | refine W.za ?_ | refine W.zi ?_ | refine W.zc ?_ | refine W.zp ?_ | refine W.st ?_ | refine SL.nilB ?_ | refine SL.nil ?_ | refine W.al fun b_ => ?_ | refine W.bx fun b_ => ?_ | refine W.bxa fun b_ => ?_ | refine W.sw ?_ | refine W.sa ?_ | refine W.sk ?_ | refine W.bs0 fun b_ => ?_ | refine W.ma fun b_ => ?_ | refine W.bsl fun b_ => ?_ | refine W.zu ?_ | refine W.zf ?_ | refine W.zd ?_ | refine W.zs ?_ | refine W.zv ?_ | refine W.zx ?_ | refine W.ex ?_ | refine W.mf ?_ | refine W.mk ?_ | refine SW.seq ?_ | refine SW.region ?_ | refine SW.block ?_ | refine SW.cond_t rfl ?_ | refine SW.cond_f rfl ?_ | refine SW.exit ?_ | refine SW.ret ?_ | refine SW.skip ?_))
    refine SW.loopF [0, 3, 5] (fun s : Nat × Value × Hp => [(6, .int .i64 (s.1 : Int))]) (fun s => (b3, cl (rcL X Y s.2.1 (.int .i64 ((n + 6 : Nat) : Int))) 189) :: s.2.2) (fun s => n - s.1) (fun s => s.1 ≤ n ∧ Sl 171 4 s.2.1 (cbs (Aes.keyW xs s.1).flatten) s.2.2) (0, .slice none 0 0, []) ⟨Nat.zero_le _, Sl.nil _ _⟩ ?_
    rintro ⟨k, wv, Hs⟩ ⟨hk, hS⟩
    dsimp only at hk hS ⊢
    have hS1 := hS.isOne
    by_cases h : k < n
    · have hws := rcL_w l1 lT (ws := wv) (r := .int .i64 ((n + 6 : Nat) : Int))
      obtain ⟨a', len', cap', he, h1, h2, h3⟩ := hw
      cases he
      obtain ⟨pb, po, lv, T, fz, he2, hb, hkk, hv⟩ := h3.resolve_left (by omega)
      cases he2
      obtain ⟨y0, hy0⟩ : ∃ y, xs[4 * k]? = some y := ⟨_, List.getElem?_eq_getElem (by omega)⟩
      obtain ⟨y1, hy1⟩ : ∃ y, xs[4 * k + 1]? = some y := ⟨_, List.getElem?_eq_getElem (by omega)⟩
      obtain ⟨y2, hy2⟩ : ∃ y, xs[4 * k + 2]? = some y := ⟨_, List.getElem?_eq_getElem (by omega)⟩
      obtain ⟨y3, hy3⟩ : ∃ y, xs[4 * k + 3]? = some y := ⟨_, List.getElem?_eq_getElem (by omega)⟩
      have hy : (xs.drop (4 * k)).take 4 = [y0, y1, y2, y3] := by
        have e : ∀ j y, xs[4 * k + j]? = some y → (xs.drop (4 * k))[j]? = some y := fun j y h => by rw [List.getElem?_drop]; exact h
        refine List.ext_getElem? fun j => ?_
        rw [List.getElem?_take]
        match j with
        | 0 => simpa using hy0
        | 1 => simpa using hy1
        | 2 => simpa using hy2
        | 3 => simpa using hy3
        | j + 4 => rw [if_neg (by omega)]; rfl
      have g0 := ro_at hv hy0
      have g1 := ro_at hv hy1
      have g2 := ro_at hv hy2
      have g3 := ro_at hv hy3
      have hfl := flatN_len (n := 4) (L := Aes.keyW xs k) (fun x hx => Aes.keyW_four (x := xs) (k := k) (by omega) x hx)
      rw [Aes.keyW_len] at hfl
      have hb41 := b4 (w := [y0, y1, y2, y3]) rfl
      have hc : (cbs [y0, y1, y2, y3]).length = 4 := rfl
      have hz : bfill (fun i => some (i * 1, 1)) (List.replicate 4 (.int .u8 0)) [(0, u8v y0), (1, u8v y1), (2, u8v y2), (3, u8v y3)] = some (cbs [y0, y1, y2, y3]) := rfl
      clear hy0 hy1 hy2 hy3 hv
      (repeat' (first | refine W.mv ?_ | refine W.zl ?_ | refine W.fa ?_ | refine W.nl ?_ | refine W.as ?_ | refine W.zb ?_ | refine W.za ?_ | refine W.zi ?_ | refine W.zc ?_ | refine W.zp ?_ | refine W.st ?_ | refine SL.nilB ?_ | refine SL.nil ?_ | refine W.al fun b_ => ?_ | refine W.bx fun b_ => ?_ | refine W.bxa fun b_ => ?_ | refine W.sw ?_ | refine W.sa ?_ | refine W.sk ?_ | refine W.bs0 fun b_ => ?_ | refine W.ma fun b_ => ?_ | refine W.bsl fun b_ => ?_ | refine W.zu ?_ | refine W.zf ?_ | refine W.zd ?_ | refine W.zs ?_ | refine W.zv ?_ | refine W.zx ?_ | refine W.ex ?_ | refine W.mf ?_ | refine W.mk ?_ | refine SW.seq ?_ | refine SW.region ?_ | refine SW.block ?_ | refine SW.cond_t rfl ?_ | refine SW.cond_f rfl ?_ | refine SW.exit ?_ | refine SW.ret ?_ | refine SW.skip ?_))
      (refine SW.regionS [30, 33] ?_ (by kernel_rfl); refine SS.tw 0 rfl (p_move rfl rfl) ?_; refine SS.tw 1 rfl (p_move rfl rfl) ?_; refine SS.tw 2 rfl (p_nil rfl rfl) ?_; refine SS.tw 3 rfl (p_fieldAddr rfl rfl OfN.ok) ?_; (first | refine SS.ls 4 [30, 33] rfl ?_ | refine SS.tw 4 rfl (p_load_sR rfl rfl (by assumption) (by assumption) (by assumption)) ?_); refine SS.tw 5 rfl (p_move rfl rfl) ?_; refine SS.tw 6 rfl (p_move rfl rfl) ?_; (first | refine SS.tw 7 rfl (p_mul rfl rfl rfl (w64 (by omega))) ?_ | refine SS.tw 7 rfl (p_uar rfl rfl rfl) ?_); (first | refine SS.tw 8 rfl (p_ix rfl rfl rfl (by omega)) ?_ | refine SS.tw 8 rfl (p_ixa rfl rfl rfl (by omega)) ?_); (first | refine SS.ls 9 [28, 29, 30, 33] rfl ?_ | refine SS.tw 9 rfl (p_load_sR rfl rfl (by assumption) (by assumption) (by assumption)) ?_); refine SS.tw 10 rfl (p_move rfl rfl) ?_; refine SS.tw 11 rfl (p_move rfl rfl) ?_; (first | refine SS.tw 12 rfl (p_mul rfl rfl rfl (w64 (by omega))) ?_ | refine SS.tw 12 rfl (p_uar rfl rfl rfl) ?_); (first | refine SS.tw 13 rfl (p_add rfl rfl rfl (w64 (by omega))) ?_ | refine SS.tw 13 rfl (p_uar rfl rfl rfl) ?_); (first | refine SS.tw 14 rfl (p_ix rfl rfl rfl (by omega)) ?_ | refine SS.tw 14 rfl (p_ixa rfl rfl rfl (by omega)) ?_); (first | refine SS.ls 15 [28, 29, 30, 33] rfl ?_ | refine SS.tw 15 rfl (p_load_sR rfl rfl (by assumption) (by assumption) (by assumption)) ?_); refine SS.tw 16 rfl (p_move rfl rfl) ?_; refine SS.tw 17 rfl (p_move rfl rfl) ?_; (first | refine SS.tw 18 rfl (p_mul rfl rfl rfl (w64 (by omega))) ?_ | refine SS.tw 18 rfl (p_uar rfl rfl rfl) ?_); (first | refine SS.tw 19 rfl (p_add rfl rfl rfl (w64 (by omega))) ?_ | refine SS.tw 19 rfl (p_uar rfl rfl rfl) ?_); (first | refine SS.tw 20 rfl (p_ix rfl rfl rfl (by omega)) ?_ | refine SS.tw 20 rfl (p_ixa rfl rfl rfl (by omega)) ?_); (first | refine SS.ls 21 [28, 29, 30, 33] rfl ?_ | refine SS.tw 21 rfl (p_load_sR rfl rfl (by assumption) (by assumption) (by assumption)) ?_); refine SS.tw 22 rfl (p_move rfl rfl) ?_; refine SS.tw 23 rfl (p_move rfl rfl) ?_; (first | refine SS.tw 24 rfl (p_mul rfl rfl rfl (w64 (by omega))) ?_ | refine SS.tw 24 rfl (p_uar rfl rfl rfl) ?_); (first | refine SS.tw 25 rfl (p_add rfl rfl rfl (w64 (by omega))) ?_ | refine SS.tw 25 rfl (p_uar rfl rfl rfl) ?_); (first | refine SS.tw 26 rfl (p_ix rfl rfl rfl (by omega)) ?_ | refine SS.tw 26 rfl (p_ixa rfl rfl rfl (by omega)) ?_); (first | refine SS.ls 27 [28, 29, 30, 33] rfl ?_ | refine SS.tw 27 rfl (p_load_sR rfl rfl (by assumption) (by assumption) (by assumption)) ?_); refine SS.tw 28 rfl (p_build_arr rfl rfl (by first | assumption | rfl)) ?_; refine SS.effK 29 ?_ rfl (by kernel_rfl))
      refine W.bsl fun b5 => ?_
      (refine SL.nilB ?_; refine SS.effB 30 ?_ rfl (by kernel_rfl))
      refine W.ap (ys := cbs [y0, y1, y2, y3]) (mm := 1) hS (fun w2 hs => (Sl.own 171 4 b5 (xs := cbs [y0, y1, y2, y3]) hc).srcAt hs inferInstance) (fun v3 H3 h3 => ?_) (hys := hc) (hbytes := by rw [hc, cbs_len, hfl]; omega)
      have h31 := h3.isOne
      rw [show cbs (Aes.keyW xs k).flatten ++ cbs [y0, y1, y2, y3] = cbs (Aes.keyW xs k ++ [[y0, y1, y2, y3]]).flatten by simp, ← hy, ← Aes.keyW_succ] at h3
      have hl5 : 512 < (rcL X Y wv (.int .i64 ((n + 6 : Nat) : Int))).length := by rw [rcL_len l1 lT]; decide
      have hsw := rcL_sw l1 lT (ws := wv) (r := .int .i64 ((n + 6 : Nat) : Int)) v3
      (refine SL.nilB ?_; refine SS.tw 31 rfl (p_nil rfl rfl) ?_; refine SS.tw 32 rfl (p_fieldAddr rfl rfl OfN.ok) ?_; refine SS.effB 33 ?_ rfl (by kernel_rfl); (repeat' (first | refine W.mv ?_ | refine W.zl ?_ | refine W.fa ?_ | refine W.nl ?_ | refine W.as ?_ | refine W.zb ?_ | refine W.za ?_ | refine W.zi ?_ | refine W.zc ?_ | refine W.zp ?_ | refine W.st ?_ | refine SL.nilB ?_ | refine SL.nil ?_ | refine W.al fun b_ => ?_ | refine W.bx fun b_ => ?_ | refine W.bxa fun b_ => ?_ | refine W.sw ?_ | refine W.sa ?_ | refine W.sk ?_ | refine W.bs0 fun b_ => ?_ | refine W.ma fun b_ => ?_ | refine W.bsl fun b_ => ?_ | refine W.zu ?_ | refine W.zf ?_ | refine W.zd ?_ | refine W.zs ?_ | refine W.zv ?_ | refine W.zx ?_ | refine W.ex ?_ | refine W.mf ?_ | refine W.mk ?_)); refine SS.done ?_ (by kernel_rfl))
      rw [hsw]
      (repeat' (first | refine W.mv ?_ | refine W.zl ?_ | refine W.fa ?_ | refine W.nl ?_ | refine W.as ?_ | refine W.zb ?_ | refine W.za ?_ | refine W.zi ?_ | refine W.zc ?_ | refine W.zp ?_ | refine W.st ?_ | refine SL.nilB ?_ | refine SL.nil ?_ | refine W.al fun b_ => ?_ | refine W.bx fun b_ => ?_ | refine W.bxa fun b_ => ?_ | refine W.sw ?_ | refine W.sa ?_ | refine W.sk ?_ | refine W.bs0 fun b_ => ?_ | refine W.ma fun b_ => ?_ | refine W.bsl fun b_ => ?_ | refine W.zu ?_ | refine W.zf ?_ | refine W.zd ?_ | refine W.zs ?_ | refine W.zv ?_ | refine W.zx ?_ | refine W.ex ?_ | refine W.mf ?_ | refine W.mk ?_ | refine SW.seq ?_ | refine SW.region ?_ | refine SW.block ?_ | refine SW.cond_t rfl ?_ | refine SW.cond_f rfl ?_ | refine SW.exit ?_ | refine SW.ret ?_ | refine SW.skip ?_))
      refine HandF.mk (k + 1, v3, H3) ?_
      exact ⟨h, h3⟩
    · have : k = n := by omega
      subst this
      (repeat' (first | refine W.mv ?_ | refine W.zl ?_ | refine W.fa ?_ | refine W.nl ?_ | refine W.as ?_ | refine W.zb ?_ | refine W.za ?_ | refine W.zi ?_ | refine W.zc ?_ | refine W.zp ?_ | refine W.st ?_ | refine SL.nilB ?_ | refine SL.nil ?_ | refine W.al fun b_ => ?_ | refine W.bx fun b_ => ?_ | refine W.bxa fun b_ => ?_ | refine W.sw ?_ | refine W.sa ?_ | refine W.sk ?_ | refine W.bs0 fun b_ => ?_ | refine W.ma fun b_ => ?_ | refine W.bsl fun b_ => ?_ | refine W.zu ?_ | refine W.zf ?_ | refine W.zd ?_ | refine W.zs ?_ | refine W.zv ?_ | refine W.zx ?_ | refine W.ex ?_ | refine W.mf ?_ | refine W.mk ?_ | refine SW.seq ?_ | refine SW.region ?_ | refine SW.block ?_ | refine SW.cond_t rfl ?_ | refine SW.cond_f rfl ?_ | refine SW.exit ?_ | refine SW.ret ?_ | refine SW.skip ?_))
      refine CutF.mk (wv, Hs) ?_
      exact hS
  rintro ⟨wv, Hs⟩ hS
  dsimp only at hS ⊢
  have hS1 := hS.isOne
  have hk4 : ∀ y ∈ Aes.keyW xs n, y.length = 4 := Aes.keyW_four (by omega)
  have hkl := Aes.keyW_len xs n
  have hT : ∀ (x : UInt8) (wv r : Value), (rcL X Y wv r)[x.toNat]? = some (u8v (Rg.subL.getD x.toNat 0)) := fun x wv r => by
    have hx : x.toNat < 256 := x.toNat_lt
    rw [rcL_x l1 lT hx, ← kX.out]
    exact cbs_at2 (by rw [List.getD_eq_getElem?_getD, List.getElem?_eq_getElem (by rw [Rg.subL_len]; exact hx)]; rfl)
  have hU : ∀ (x : UInt8) (wv r : Value), (rcL X Y wv r)[256 + x.toNat]? = some (u8v (Rg.twL.getD x.toNat 0)) := fun x wv r => by
    have hx : x.toNat < 256 := x.toNat_lt
    rw [rcL_y l1 lT hx, ← kY2.out]
    exact cbs_at2 (by rw [List.getD_eq_getElem?_getD, List.getElem?_eq_getElem (by rw [Rg.twL_len]; exact hx)]; rfl)
  generalize hT0 : Rg.subL = T at *
  have kT := Hid.mk hT0
  clear hT0
  generalize hU0 : Rg.twL = U at *
  have kU := Hid.mk hU0
  clear hU0
  (repeat' (first | refine W.mv ?_ | refine W.zl ?_ | refine W.fa ?_ | refine W.nl ?_ | refine W.as ?_ | refine W.zb ?_ | refine W.za ?_ | refine W.zi ?_ | refine W.zc ?_ | refine W.zp ?_ | refine W.st ?_ | refine SL.nilB ?_ | refine SL.nil ?_ | refine W.al fun b_ => ?_ | refine W.bx fun b_ => ?_ | refine W.bxa fun b_ => ?_ | refine W.sw ?_ | refine W.sa ?_ | refine W.sk ?_ | refine W.bs0 fun b_ => ?_ | refine W.ma fun b_ => ?_ | refine W.bsl fun b_ => ?_ | refine W.zu ?_ | refine W.zf ?_ | refine W.zd ?_ | refine W.zs ?_ | refine W.zv ?_ | refine W.zx ?_ | refine W.ex ?_ | refine W.mf ?_ | refine W.mk ?_ | refine SW.seq ?_ | refine SW.region ?_ | refine SW.cond_t rfl ?_ | refine SW.cond_f rfl ?_ | refine SW.exit ?_ | refine SW.ret ?_ | refine SW.skip ?_))
  refine SW.cutH [3] ((b3, cl (rcL X Y wv (.int .i64 ((n + 6 : Nat) : Int))) 189) :: Hs) (fun _ : Value × Hp => []) (fun s => (b3, cl (rcL X Y s.1 (.int .i64 ((n + 6 : Nat) : Int))) 189) :: s.2) (fun s => Sl 171 4 s.1 (cbs (Rg.sched xs).flatten) s.2) ?_ ?_
  · (repeat' (first | refine W.mv ?_ | refine W.zl ?_ | refine W.fa ?_ | refine W.nl ?_ | refine W.as ?_ | refine W.zb ?_ | refine W.za ?_ | refine W.zi ?_ | refine W.zc ?_ | refine W.zp ?_ | refine W.st ?_ | refine SL.nilB ?_ | refine SL.nil ?_ | refine W.al fun b_ => ?_ | refine W.bx fun b_ => ?_ | refine W.bxa fun b_ => ?_ | refine W.sw ?_ | refine W.sa ?_ | refine W.sk ?_ | refine W.bs0 fun b_ => ?_ | refine W.ma fun b_ => ?_ | refine W.bsl fun b_ => ?_ | refine W.zu ?_ | refine W.zf ?_ | refine W.zd ?_ | refine W.zs ?_ | refine W.zv ?_ | refine W.zx ?_ | refine W.ex ?_ | refine W.mf ?_ | refine W.mk ?_ | refine SW.seq ?_ | refine SW.region ?_ | refine SW.block ?_ | refine SW.cond_t rfl ?_ | refine SW.cond_f rfl ?_ | refine SW.exit ?_ | refine SW.ret ?_ | refine SW.skip ?_))
    refine SW.loopF [0, 3, 5] (fun s : Nat × Value × Hp × UInt8 => [(7, u8v s.2.2.2), (8, .int .i64 ((n + s.1 : Nat) : Int))]) (fun s => (b3, cl (rcL X Y s.2.1 (.int .i64 ((n + 6 : Nat) : Int))) 189) :: s.2.2.1) (fun s => 3 * n + 28 - s.1)
      (fun s => s.1 ≤ 3 * n + 28 ∧ Sl 171 4 s.2.1 (cbs (Rg.grow T U n (Aes.keyW xs n) s.1).1.flatten) s.2.2.1 ∧ s.2.2.2 = (Rg.grow T U n (Aes.keyW xs n) s.1).2) (0, wv, Hs, 1) ⟨Nat.zero_le _, hS, rfl⟩ ?_
    rintro ⟨m, wv2, H2, p⟩ ⟨hm, hS2, hp⟩
    dsimp only at hm hS2 hp ⊢
    have hS21 := hS2.isOne
    have hw5 := rcL_w l1 lT (ws := wv2) (r := .int .i64 ((n + 6 : Nat) : Int))
    have hw6 := rcL_r l1 lT (ws := wv2) (r := .int .i64 ((n + 6 : Nat) : Int))
    by_cases h : m < 3 * n + 28
    · obtain ⟨ws, hws⟩ : ∃ ws, (Rg.grow T U n (Aes.keyW xs n) m).1 = ws := ⟨_, rfl⟩
      have hl6 : ws.length = n + m := by rw [← hws, Rg.grow_len, hkl]
      have hw4 : W4 ws := by rw [← hws]; exact Rg.grow_four (by omega) hk4 (by omega) m
      have hsucc : Rg.grow T U n (Aes.keyW xs n) (m + 1) = (ws ++ [Aes.xor4 (ws.getD m []) (Rg.nextW T (ws.getD (n + m - 1) []) p (n + m) n)], Rg.nextP U p (n + m) n) := by
        show (_, _) = _
        rw [hws, hkl, ← hp, show n + m - n = m by omega]
      rw [hws] at hS2
      have hwa : ws[m]? = some (ws.getD m []) := by rw [List.getD_eq_getElem?_getD, List.getElem?_eq_getElem (by omega)]; rfl
      have hwb : ws[n + m - 1]? = some (ws.getD (n + m - 1) []) := by rw [List.getD_eq_getElem?_getD, List.getElem?_eq_getElem (by omega)]; rfl
      generalize ws.getD m [] = wa at *
      generalize ws.getD (n + m - 1) [] = wb at *
      obtain ⟨b0, b1, b2, b3', rfl⟩ := four (hw4 wb (List.mem_of_getElem? hwb))
      obtain ⟨a0, a1, a2, a3, rfl⟩ := four (hw4 wa (List.mem_of_getElem? hwa))
      have hfl := flatN_len (n := 4) hw4
      have hS0 := hS2
      rcases hS2 with ⟨-, h0, -⟩ | ⟨bw, lw, cw, junk, rfl, g1, g2, g3, rfl⟩
      · have : (cbs ws.flatten).length = 0 := by rw [h0]; rfl
        rw [cbs_len, hfl] at this
        omega
      have glw : ws.length = lw := by rw [cbs_len, hfl] at g1; omega
      have hga := cbs_getJ (junk := junk) hw4 hwa
      have hgb := cbs_getJ (junk := junk) hw4 hwb
      haveI : NatI (((n + m : Nat) : Int) - (n : Int)) m := ⟨by omega⟩
      haveI : NatI (((n + m : Nat) : Int) - 1) (n + m - 1) := ⟨by omega⟩
      have hca : (cbs [a0, a1, a2, a3]).length = 4 := rfl
      have hcb : (cbs [b0, b1, b2, b3']).length = 4 := rfl
      generalize cbs ws.flatten ++ junk = J at *
      have hM : ((n + m : Nat) : Int) % (n : Int) = (((n + m) % n : Nat) : Int) := by simp
      have hM8 : ((n + m : Nat) : Int) % 8 = (((n + m) % 8 : Nat) : Int) := by omega
      have hN4 := Rg.nextW_len T (w := [b0, b1, b2, b3']) rfl p (n + m) n
      have hp8 : p.toNat < 256 := p.toNat_lt
      have hb08 : b0.toNat < 256 := b0.toNat_lt
      have hb18 : b1.toNat < 256 := b1.toNat_lt
      have hb28 : b2.toNat < 256 := b2.toNat_lt
      have hb38 : b3'.toNat < 256 := b3'.toNat_lt
      have t0 := hT b0 (.slice (some ⟨bw, 0, none⟩) lw cw) (.int .i64 ((n + 6 : Nat) : Int))
      have t1 := hT b1 (.slice (some ⟨bw, 0, none⟩) lw cw) (.int .i64 ((n + 6 : Nat) : Int))
      have t2 := hT b2 (.slice (some ⟨bw, 0, none⟩) lw cw) (.int .i64 ((n + 6 : Nat) : Int))
      have t3 := hT b3' (.slice (some ⟨bw, 0, none⟩) lw cw) (.int .i64 ((n + 6 : Nat) : Int))
      have tp := hU p (.slice (some ⟨bw, 0, none⟩) lw cw) (.int .i64 ((n + 6 : Nat) : Int))
      (repeat' (first | refine W.mv ?_ | refine W.zl ?_ | refine W.fa ?_ | refine W.nl ?_ | refine W.as ?_ | refine W.zb ?_ | refine W.za ?_ | refine W.zi ?_ | refine W.zc ?_ | refine W.zp ?_ | refine W.st ?_ | refine SL.nilB ?_ | refine SL.nil ?_ | refine W.al fun b_ => ?_ | refine W.bx fun b_ => ?_ | refine W.bxa fun b_ => ?_ | refine W.sw ?_ | refine W.sa ?_ | refine W.sk ?_ | refine W.bs0 fun b_ => ?_ | refine W.ma fun b_ => ?_ | refine W.bsl fun b_ => ?_ | refine W.zu ?_ | refine W.zf ?_ | refine W.zd ?_ | refine W.zs ?_ | refine W.zv ?_ | refine W.zx ?_ | refine W.ex ?_ | refine W.mf ?_ | refine W.mk ?_ | refine SW.seq ?_ | refine SW.region ?_ | refine SW.block ?_ | refine SW.cond_t rfl ?_ | refine SW.cond_f rfl ?_ | refine SW.exit ?_ | refine SW.ret ?_ | refine SW.skip ?_))
      refine SL.pu (p_cmp rfl rfl rfl rfl) rfl rfl ?_
      refine SL.nil ?_
      refine SW.cutH [0, 3, 5, 8, 9] [(b_, cl (cbs [b0, b1, b2, b3']) 171), (b3, cl (rcL X Y (.slice (some ⟨bw, 0, none⟩) lw cw) (.int .i64 ((n + 6 : Nat) : Int))) 189), (bw, cl J 171)] (fun _ : Unit => [(7, u8v (Rg.nextP U p (n + m) n))])
        (fun _ => [(b_, cl (cbs (Rg.nextW T [b0, b1, b2, b3'] p (n + m) n)) 171), (b3, cl (rcL X Y (.slice (some ⟨bw, 0, none⟩) lw cw) (.int .i64 ((n + 6 : Nat) : Int))) 189), (bw, cl J 171)]) (fun _ => True) ?_ ?_
      · refine SW.cond_d rfl (fun h_ => ?_) (fun h_ => ?_) <;> dsimp only [cmpP] at h_
        · have h0 : (n + m) % n = 0 := by omega
          have e : Rg.nextW T [b0, b1, b2, b3'] p (n + m) n = _ := Rg.nextW_a T b0 b1 b2 b3' p h0
          have e2 : Rg.nextP U p (n + m) n = _ := Rg.nextP_a U p h0
          rw [e, e2]
          have hz : bfill (fun i => some (i * 1, 1)) (List.replicate 4 (.int .u8 0)) [(0, .int .u8 ((T.getD b1.toNat 0 ^^^ p).toNat : Int)), (1, u8v (T.getD b2.toNat 0)), (2, u8v (T.getD b3'.toNat 0)), (3, u8v (T.getD b0.toNat 0))] = some (cbs [T.getD b1.toNat 0 ^^^ p, T.getD b2.toNat 0, T.getD b3'.toNat 0, T.getD b0.toNat 0]) := rfl
          have hz4 : (cbs [T.getD b1.toNat 0 ^^^ p, T.getD b2.toNat 0, T.getD b3'.toNat 0, T.getD b0.toNat 0]).length = 4 := rfl
          refine SW.seq ?_
          (refine SW.regionS [31] ?_ (by kernel_rfl); refine SS.tw 0 rfl (p_move rfl rfl) ?_; (first | refine SS.tw 1 rfl (p_ix rfl rfl rfl (by omega)) ?_ | refine SS.tw 1 rfl (p_ixa rfl rfl rfl (by omega)) ?_); (first | refine SS.ls 2 [31] rfl ?_ | refine SS.tw 2 rfl (p_load_sR rfl rfl (by assumption) (by assumption) (by assumption)) ?_); refine SS.tw 3 rfl (p_nil rfl rfl) ?_; refine SS.tw 4 rfl (p_fieldAddr rfl rfl OfN.ok) ?_; (first | refine SS.tw 5 rfl (p_ix rfl rfl rfl (by omega)) ?_ | refine SS.tw 5 rfl (p_ixa rfl rfl rfl (by omega)) ?_); (first | refine SS.ls 6 [31] rfl ?_ | refine SS.tw 6 rfl (p_load_sR rfl rfl (by assumption) (by assumption) (by assumption)) ?_); refine SS.tw 7 rfl (p_move rfl rfl) ?_; refine SS.tw 8 rfl (p_uar rfl rfl rfl) ?_; refine SS.tw 9 rfl (p_move rfl rfl) ?_; (first | refine SS.tw 10 rfl (p_ix rfl rfl rfl (by omega)) ?_ | refine SS.tw 10 rfl (p_ixa rfl rfl rfl (by omega)) ?_); (first | refine SS.ls 11 [31] rfl ?_ | refine SS.tw 11 rfl (p_load_sR rfl rfl (by assumption) (by assumption) (by assumption)) ?_); refine SS.tw 12 rfl (p_nil rfl rfl) ?_; refine SS.tw 13 rfl (p_fieldAddr rfl rfl OfN.ok) ?_; (first | refine SS.tw 14 rfl (p_ix rfl rfl rfl (by omega)) ?_ | refine SS.tw 14 rfl (p_ixa rfl rfl rfl (by omega)) ?_); (first | refine SS.ls 15 [31] rfl ?_ | refine SS.tw 15 rfl (p_load_sR rfl rfl (by assumption) (by assumption) (by assumption)) ?_); refine SS.tw 16 rfl (p_move rfl rfl) ?_; (first | refine SS.tw 17 rfl (p_ix rfl rfl rfl (by omega)) ?_ | refine SS.tw 17 rfl (p_ixa rfl rfl rfl (by omega)) ?_); (first | refine SS.ls 18 [31] rfl ?_ | refine SS.tw 18 rfl (p_load_sR rfl rfl (by assumption) (by assumption) (by assumption)) ?_); refine SS.tw 19 rfl (p_nil rfl rfl) ?_; refine SS.tw 20 rfl (p_fieldAddr rfl rfl OfN.ok) ?_; (first | refine SS.tw 21 rfl (p_ix rfl rfl rfl (by omega)) ?_ | refine SS.tw 21 rfl (p_ixa rfl rfl rfl (by omega)) ?_); (first | refine SS.ls 22 [31] rfl ?_ | refine SS.tw 22 rfl (p_load_sR rfl rfl (by assumption) (by assumption) (by assumption)) ?_); refine SS.tw 23 rfl (p_move rfl rfl) ?_; (first | refine SS.tw 24 rfl (p_ix rfl rfl rfl (by omega)) ?_ | refine SS.tw 24 rfl (p_ixa rfl rfl rfl (by omega)) ?_); (first | refine SS.ls 25 [31] rfl ?_ | refine SS.tw 25 rfl (p_load_sR rfl rfl (by assumption) (by assumption) (by assumption)) ?_); refine SS.tw 26 rfl (p_nil rfl rfl) ?_; refine SS.tw 27 rfl (p_fieldAddr rfl rfl OfN.ok) ?_; (first | refine SS.tw 28 rfl (p_ix rfl rfl rfl (by omega)) ?_ | refine SS.tw 28 rfl (p_ixa rfl rfl rfl (by omega)) ?_); (first | refine SS.ls 29 [31] rfl ?_ | refine SS.tw 29 rfl (p_load_sR rfl rfl (by assumption) (by assumption) (by assumption)) ?_); refine SS.tw 30 rfl (p_build_arr rfl rfl (by first | assumption | rfl)) ?_; refine SS.effB 31 ?_ rfl (by kernel_rfl); (repeat' (first | refine W.mv ?_ | refine W.zl ?_ | refine W.fa ?_ | refine W.nl ?_ | refine W.as ?_ | refine W.zb ?_ | refine W.za ?_ | refine W.zi ?_ | refine W.zc ?_ | refine W.zp ?_ | refine W.st ?_ | refine SL.nilB ?_ | refine SL.nil ?_ | refine W.al fun b_ => ?_ | refine W.bx fun b_ => ?_ | refine W.bxa fun b_ => ?_ | refine W.sw ?_ | refine W.sa ?_ | refine W.sk ?_ | refine W.bs0 fun b_ => ?_ | refine W.ma fun b_ => ?_ | refine W.bsl fun b_ => ?_ | refine W.zu ?_ | refine W.zf ?_ | refine W.zd ?_ | refine W.zs ?_ | refine W.zv ?_ | refine W.zx ?_ | refine W.ex ?_ | refine W.mf ?_ | refine W.mk ?_)); refine SS.done ?_ (by kernel_rfl))
          (repeat' (first | refine W.mv ?_ | refine W.zl ?_ | refine W.fa ?_ | refine W.nl ?_ | refine W.as ?_ | refine W.zb ?_ | refine W.za ?_ | refine W.zi ?_ | refine W.zc ?_ | refine W.zp ?_ | refine W.st ?_ | refine SL.nilB ?_ | refine SL.nil ?_ | refine W.al fun b_ => ?_ | refine W.bx fun b_ => ?_ | refine W.bxa fun b_ => ?_ | refine W.sw ?_ | refine W.sa ?_ | refine W.sk ?_ | refine W.bs0 fun b_ => ?_ | refine W.ma fun b_ => ?_ | refine W.bsl fun b_ => ?_ | refine W.zu ?_ | refine W.zf ?_ | refine W.zd ?_ | refine W.zs ?_ | refine W.zv ?_ | refine W.zx ?_ | refine W.ex ?_ | refine W.mf ?_ | refine W.mk ?_ | refine SW.seq ?_ | refine SW.region ?_ | refine SW.block ?_ | refine SW.cond_t rfl ?_ | refine SW.cond_f rfl ?_ | refine SW.exit ?_ | refine SW.ret ?_ | refine SW.skip ?_))
          refine CutF.mk () ?_
          trivial
        · have h0 : ¬ (n + m) % n = 0 := by omega
          have e2 : Rg.nextP U p (n + m) n = _ := Rg.nextP_b U p h0
          rw [e2]
          by_cases h8 : n = 8 ∧ (n + m) % 8 = 4
          · obtain ⟨h81, h82⟩ := h8
            have e := Rg.nextW_b T b0 b1 b2 b3' p h0 ⟨h81, h82⟩
            rw [e]
            have hz : bfill (fun i => some (i * 1, 1)) (List.replicate 4 (.int .u8 0)) [(0, u8v (T.getD b0.toNat 0)), (1, u8v (T.getD b1.toNat 0)), (2, u8v (T.getD b2.toNat 0)), (3, u8v (T.getD b3'.toNat 0))] = some (cbs [T.getD b0.toNat 0, T.getD b1.toNat 0, T.getD b2.toNat 0, T.getD b3'.toNat 0]) := rfl
            have hz4 : (cbs [T.getD b0.toNat 0, T.getD b1.toNat 0, T.getD b2.toNat 0, T.getD b3'.toNat 0]).length = 4 := rfl
            (repeat' (first | refine W.mv ?_ | refine W.zl ?_ | refine W.fa ?_ | refine W.nl ?_ | refine W.as ?_ | refine W.zb ?_ | refine W.za ?_ | refine W.zi ?_ | refine W.zc ?_ | refine W.zp ?_ | refine W.st ?_ | refine SL.nilB ?_ | refine SL.nil ?_ | refine W.al fun b_ => ?_ | refine W.bx fun b_ => ?_ | refine W.bxa fun b_ => ?_ | refine W.sw ?_ | refine W.sa ?_ | refine W.sk ?_ | refine W.bs0 fun b_ => ?_ | refine W.ma fun b_ => ?_ | refine W.bsl fun b_ => ?_ | refine W.zu ?_ | refine W.zf ?_ | refine W.zd ?_ | refine W.zs ?_ | refine W.zv ?_ | refine W.zx ?_ | refine W.ex ?_ | refine W.mf ?_ | refine W.mk ?_ | refine SW.seq ?_ | refine SW.region ?_ | refine SW.block ?_ | refine SW.cond_t rfl ?_ | refine SW.cond_f rfl ?_ | refine SW.exit ?_ | refine SW.ret ?_ | refine SW.skip ?_))
            (refine SW.regionS [29] ?_ (by kernel_rfl); refine SS.tw 0 rfl (p_move rfl rfl) ?_; (first | refine SS.tw 1 rfl (p_ix rfl rfl rfl (by omega)) ?_ | refine SS.tw 1 rfl (p_ixa rfl rfl rfl (by omega)) ?_); (first | refine SS.ls 2 [29] rfl ?_ | refine SS.tw 2 rfl (p_load_sR rfl rfl (by assumption) (by assumption) (by assumption)) ?_); refine SS.tw 3 rfl (p_nil rfl rfl) ?_; refine SS.tw 4 rfl (p_fieldAddr rfl rfl OfN.ok) ?_; (first | refine SS.tw 5 rfl (p_ix rfl rfl rfl (by omega)) ?_ | refine SS.tw 5 rfl (p_ixa rfl rfl rfl (by omega)) ?_); (first | refine SS.ls 6 [29] rfl ?_ | refine SS.tw 6 rfl (p_load_sR rfl rfl (by assumption) (by assumption) (by assumption)) ?_); refine SS.tw 7 rfl (p_move rfl rfl) ?_; (first | refine SS.tw 8 rfl (p_ix rfl rfl rfl (by omega)) ?_ | refine SS.tw 8 rfl (p_ixa rfl rfl rfl (by omega)) ?_); (first | refine SS.ls 9 [29] rfl ?_ | refine SS.tw 9 rfl (p_load_sR rfl rfl (by assumption) (by assumption) (by assumption)) ?_); refine SS.tw 10 rfl (p_nil rfl rfl) ?_; refine SS.tw 11 rfl (p_fieldAddr rfl rfl OfN.ok) ?_; (first | refine SS.tw 12 rfl (p_ix rfl rfl rfl (by omega)) ?_ | refine SS.tw 12 rfl (p_ixa rfl rfl rfl (by omega)) ?_); (first | refine SS.ls 13 [29] rfl ?_ | refine SS.tw 13 rfl (p_load_sR rfl rfl (by assumption) (by assumption) (by assumption)) ?_); refine SS.tw 14 rfl (p_move rfl rfl) ?_; (first | refine SS.tw 15 rfl (p_ix rfl rfl rfl (by omega)) ?_ | refine SS.tw 15 rfl (p_ixa rfl rfl rfl (by omega)) ?_); (first | refine SS.ls 16 [29] rfl ?_ | refine SS.tw 16 rfl (p_load_sR rfl rfl (by assumption) (by assumption) (by assumption)) ?_); refine SS.tw 17 rfl (p_nil rfl rfl) ?_; refine SS.tw 18 rfl (p_fieldAddr rfl rfl OfN.ok) ?_; (first | refine SS.tw 19 rfl (p_ix rfl rfl rfl (by omega)) ?_ | refine SS.tw 19 rfl (p_ixa rfl rfl rfl (by omega)) ?_); (first | refine SS.ls 20 [29] rfl ?_ | refine SS.tw 20 rfl (p_load_sR rfl rfl (by assumption) (by assumption) (by assumption)) ?_); refine SS.tw 21 rfl (p_move rfl rfl) ?_; (first | refine SS.tw 22 rfl (p_ix rfl rfl rfl (by omega)) ?_ | refine SS.tw 22 rfl (p_ixa rfl rfl rfl (by omega)) ?_); (first | refine SS.ls 23 [29] rfl ?_ | refine SS.tw 23 rfl (p_load_sR rfl rfl (by assumption) (by assumption) (by assumption)) ?_); refine SS.tw 24 rfl (p_nil rfl rfl) ?_; refine SS.tw 25 rfl (p_fieldAddr rfl rfl OfN.ok) ?_; (first | refine SS.tw 26 rfl (p_ix rfl rfl rfl (by omega)) ?_ | refine SS.tw 26 rfl (p_ixa rfl rfl rfl (by omega)) ?_); (first | refine SS.ls 27 [29] rfl ?_ | refine SS.tw 27 rfl (p_load_sR rfl rfl (by assumption) (by assumption) (by assumption)) ?_); refine SS.tw 28 rfl (p_build_arr rfl rfl (by first | assumption | rfl)) ?_; refine SS.effB 29 ?_ rfl (by kernel_rfl); (repeat' (first | refine W.mv ?_ | refine W.zl ?_ | refine W.fa ?_ | refine W.nl ?_ | refine W.as ?_ | refine W.zb ?_ | refine W.za ?_ | refine W.zi ?_ | refine W.zc ?_ | refine W.zp ?_ | refine W.st ?_ | refine SL.nilB ?_ | refine SL.nil ?_ | refine W.al fun b_ => ?_ | refine W.bx fun b_ => ?_ | refine W.bxa fun b_ => ?_ | refine W.sw ?_ | refine W.sa ?_ | refine W.sk ?_ | refine W.bs0 fun b_ => ?_ | refine W.ma fun b_ => ?_ | refine W.bsl fun b_ => ?_ | refine W.zu ?_ | refine W.zf ?_ | refine W.zd ?_ | refine W.zs ?_ | refine W.zv ?_ | refine W.zx ?_ | refine W.ex ?_ | refine W.mf ?_ | refine W.mk ?_)); refine SS.done ?_ (by kernel_rfl))
            (repeat' (first | refine W.mv ?_ | refine W.zl ?_ | refine W.fa ?_ | refine W.nl ?_ | refine W.as ?_ | refine W.zb ?_ | refine W.za ?_ | refine W.zi ?_ | refine W.zc ?_ | refine W.zp ?_ | refine W.st ?_ | refine SL.nilB ?_ | refine SL.nil ?_ | refine W.al fun b_ => ?_ | refine W.bx fun b_ => ?_ | refine W.bxa fun b_ => ?_ | refine W.sw ?_ | refine W.sa ?_ | refine W.sk ?_ | refine W.bs0 fun b_ => ?_ | refine W.ma fun b_ => ?_ | refine W.bsl fun b_ => ?_ | refine W.zu ?_ | refine W.zf ?_ | refine W.zd ?_ | refine W.zs ?_ | refine W.zv ?_ | refine W.zx ?_ | refine W.ex ?_ | refine W.mf ?_ | refine W.mk ?_ | refine SW.seq ?_ | refine SW.region ?_ | refine SW.block ?_ | refine SW.cond_t rfl ?_ | refine SW.cond_f rfl ?_ | refine SW.exit ?_ | refine SW.ret ?_ | refine SW.skip ?_))
            refine CutF.mk () ?_
            trivial
          · have e := Rg.nextW_c T [b0, b1, b2, b3'] p h0 h8
            rw [e]
            by_cases h81 : n = 8
            · have h82 : ¬ (n + m) % 8 = 4 := fun h => h8 ⟨h81, h⟩
              (repeat' (first | refine W.mv ?_ | refine W.zl ?_ | refine W.fa ?_ | refine W.nl ?_ | refine W.as ?_ | refine W.zb ?_ | refine W.za ?_ | refine W.zi ?_ | refine W.zc ?_ | refine W.zp ?_ | refine W.st ?_ | refine SL.nilB ?_ | refine SL.nil ?_ | refine W.al fun b_ => ?_ | refine W.bx fun b_ => ?_ | refine W.bxa fun b_ => ?_ | refine W.sw ?_ | refine W.sa ?_ | refine W.sk ?_ | refine W.bs0 fun b_ => ?_ | refine W.ma fun b_ => ?_ | refine W.bsl fun b_ => ?_ | refine W.zu ?_ | refine W.zf ?_ | refine W.zd ?_ | refine W.zs ?_ | refine W.zv ?_ | refine W.zx ?_ | refine W.ex ?_ | refine W.mf ?_ | refine W.mk ?_ | refine SW.seq ?_ | refine SW.region ?_ | refine SW.block ?_ | refine SW.cond_t rfl ?_ | refine SW.cond_f rfl ?_ | refine SW.exit ?_ | refine SW.ret ?_ | refine SW.skip ?_))
              refine CutF.mk () ?_
              trivial
            · (repeat' (first | refine W.mv ?_ | refine W.zl ?_ | refine W.fa ?_ | refine W.nl ?_ | refine W.as ?_ | refine W.zb ?_ | refine W.za ?_ | refine W.zi ?_ | refine W.zc ?_ | refine W.zp ?_ | refine W.st ?_ | refine SL.nilB ?_ | refine SL.nil ?_ | refine W.al fun b_ => ?_ | refine W.bx fun b_ => ?_ | refine W.bxa fun b_ => ?_ | refine W.sw ?_ | refine W.sa ?_ | refine W.sk ?_ | refine W.bs0 fun b_ => ?_ | refine W.ma fun b_ => ?_ | refine W.bsl fun b_ => ?_ | refine W.zu ?_ | refine W.zf ?_ | refine W.zd ?_ | refine W.zs ?_ | refine W.zv ?_ | refine W.zx ?_ | refine W.ex ?_ | refine W.mf ?_ | refine W.mk ?_ | refine SW.seq ?_ | refine SW.region ?_ | refine SW.block ?_ | refine SW.cond_t rfl ?_ | refine SW.cond_f rfl ?_ | refine SW.exit ?_ | refine SW.ret ?_ | refine SW.skip ?_))
              refine CutF.mk () ?_
              trivial
      rintro _ -
      generalize Rg.nextW T [b0, b1, b2, b3'] p (n + m) n = N at *
      generalize Rg.nextP U p (n + m) n = p' at *
      clear t0 t1 t2 t3 tp hgb hT hU
      obtain ⟨c0, c1, c2, c3, rfl⟩ := four hN4
      have hx4 : Aes.xor4 [a0, a1, a2, a3] [c0, c1, c2, c3] = [a0 ^^^ c0, a1 ^^^ c1, a2 ^^^ c2, a3 ^^^ c3] := rfl
      rw [hx4] at hsucc
      have hc : (cbs [a0 ^^^ c0, a1 ^^^ c1, a2 ^^^ c2, a3 ^^^ c3]).length = 4 := rfl
      have hz : bfill (fun i => some (i * 1, 1)) (List.replicate 4 (.int .u8 0)) [(0, .int .u8 ((a0 ^^^ c0).toNat : Int)), (1, .int .u8 ((a1 ^^^ c1).toNat : Int)), (2, .int .u8 ((a2 ^^^ c2).toNat : Int)), (3, .int .u8 ((a3 ^^^ c3).toNat : Int))] = some (cbs [a0 ^^^ c0, a1 ^^^ c1, a2 ^^^ c2, a3 ^^^ c3]) := rfl
      have hbx := b4 (w := [a0 ^^^ c0, a1 ^^^ c1, a2 ^^^ c2, a3 ^^^ c3]) rfl
      (repeat' (first | refine W.mv ?_ | refine W.zl ?_ | refine W.fa ?_ | refine W.nl ?_ | refine W.as ?_ | refine W.zb ?_ | refine W.za ?_ | refine W.zi ?_ | refine W.zc ?_ | refine W.zp ?_ | refine W.st ?_ | refine SL.nilB ?_ | refine SL.nil ?_ | refine W.al fun b_ => ?_ | refine W.bx fun b_ => ?_ | refine W.bxa fun b_ => ?_ | refine W.sw ?_ | refine W.sa ?_ | refine W.sk ?_ | refine W.bs0 fun b_ => ?_ | refine W.ma fun b_ => ?_ | refine W.bsl fun b_ => ?_ | refine W.zu ?_ | refine W.zf ?_ | refine W.zd ?_ | refine W.zs ?_ | refine W.zv ?_ | refine W.zx ?_ | refine W.ex ?_ | refine W.mf ?_ | refine W.mk ?_ | refine SW.seq ?_ | refine SW.region ?_ | refine SW.block ?_ | refine SW.cond_t rfl ?_ | refine SW.cond_f rfl ?_ | refine SW.exit ?_ | refine SW.ret ?_ | refine SW.skip ?_))
      (refine SW.regionS [27, 30] ?_ (by kernel_rfl); refine SS.tw 0 rfl (p_move rfl rfl) ?_; refine SS.tw 1 rfl (p_move rfl rfl) ?_; refine SS.tw 2 rfl (p_nil rfl rfl) ?_; refine SS.tw 3 rfl (p_fieldAddr rfl rfl OfN.ok) ?_; (first | refine SS.ls 4 [27, 30] rfl ?_ | refine SS.tw 4 rfl (p_load_sR rfl rfl (by assumption) (by assumption) (by assumption)) ?_); (first | refine SS.tw 5 rfl (p_ix rfl rfl rfl (by omega)) ?_ | refine SS.tw 5 rfl (p_ixa rfl rfl rfl (by omega)) ?_); (first | refine SS.ls 6 [9, 25, 26, 27, 30] rfl ?_ | refine SS.tw 6 rfl (p_load_sR rfl rfl (by assumption) (by assumption) (by assumption)) ?_); (first | refine SS.tw 7 rfl (p_ix rfl rfl rfl (by omega)) ?_ | refine SS.tw 7 rfl (p_ixa rfl rfl rfl (by omega)) ?_); (first | refine SS.ls 8 [9, 25, 26, 27, 30] rfl ?_ | refine SS.tw 8 rfl (p_load_sR rfl rfl (by assumption) (by assumption) (by assumption)) ?_); refine SS.tw 9 rfl (p_uar rfl rfl rfl) ?_; (first | refine SS.tw 10 rfl (p_ix rfl rfl rfl (by omega)) ?_ | refine SS.tw 10 rfl (p_ixa rfl rfl rfl (by omega)) ?_); (first | refine SS.ls 11 [14, 25, 26, 27, 30] rfl ?_ | refine SS.tw 11 rfl (p_load_sR rfl rfl (by assumption) (by assumption) (by assumption)) ?_); (first | refine SS.tw 12 rfl (p_ix rfl rfl rfl (by omega)) ?_ | refine SS.tw 12 rfl (p_ixa rfl rfl rfl (by omega)) ?_); (first | refine SS.ls 13 [14, 25, 26, 27, 30] rfl ?_ | refine SS.tw 13 rfl (p_load_sR rfl rfl (by assumption) (by assumption) (by assumption)) ?_); refine SS.tw 14 rfl (p_uar rfl rfl rfl) ?_; (first | refine SS.tw 15 rfl (p_ix rfl rfl rfl (by omega)) ?_ | refine SS.tw 15 rfl (p_ixa rfl rfl rfl (by omega)) ?_); (first | refine SS.ls 16 [19, 25, 26, 27, 30] rfl ?_ | refine SS.tw 16 rfl (p_load_sR rfl rfl (by assumption) (by assumption) (by assumption)) ?_); (first | refine SS.tw 17 rfl (p_ix rfl rfl rfl (by omega)) ?_ | refine SS.tw 17 rfl (p_ixa rfl rfl rfl (by omega)) ?_); (first | refine SS.ls 18 [19, 25, 26, 27, 30] rfl ?_ | refine SS.tw 18 rfl (p_load_sR rfl rfl (by assumption) (by assumption) (by assumption)) ?_); refine SS.tw 19 rfl (p_uar rfl rfl rfl) ?_; (first | refine SS.tw 20 rfl (p_ix rfl rfl rfl (by omega)) ?_ | refine SS.tw 20 rfl (p_ixa rfl rfl rfl (by omega)) ?_); (first | refine SS.ls 21 [24, 25, 26, 27, 30] rfl ?_ | refine SS.tw 21 rfl (p_load_sR rfl rfl (by assumption) (by assumption) (by assumption)) ?_); (first | refine SS.tw 22 rfl (p_ix rfl rfl rfl (by omega)) ?_ | refine SS.tw 22 rfl (p_ixa rfl rfl rfl (by omega)) ?_); (first | refine SS.ls 23 [24, 25, 26, 27, 30] rfl ?_ | refine SS.tw 23 rfl (p_load_sR rfl rfl (by assumption) (by assumption) (by assumption)) ?_); refine SS.tw 24 rfl (p_uar rfl rfl rfl) ?_; refine SS.tw 25 rfl (p_build_arr rfl rfl (by first | assumption | rfl)) ?_; refine SS.effK 26 ?_ rfl (by kernel_rfl))
      refine W.bsl fun b5 => ?_
      (refine SL.nilB ?_; refine SS.effB 27 ?_ rfl (by kernel_rfl))
      refine W.ap (ys := cbs [a0 ^^^ c0, a1 ^^^ c1, a2 ^^^ c2, a3 ^^^ c3]) (mm := 1) hS0 (fun w2 hs => (Sl.own 171 4 b5 (xs := cbs [a0 ^^^ c0, a1 ^^^ c1, a2 ^^^ c2, a3 ^^^ c3]) hc).srcAt hs inferInstance) (fun v3 H3 h3 => ?_) (hys := hc) (hbytes := by rw [hc, cbs_len, hfl]; omega)
      have h31 := h3.isOne
      rw [show cbs ws.flatten ++ cbs [a0 ^^^ c0, a1 ^^^ c1, a2 ^^^ c2, a3 ^^^ c3] = cbs (ws ++ [[a0 ^^^ c0, a1 ^^^ c1, a2 ^^^ c2, a3 ^^^ c3]]).flatten by simp] at h3
      have hl5 : 512 < (rcL X Y (.slice (some ⟨bw, 0, none⟩) lw cw) (.int .i64 ((n + 6 : Nat) : Int))).length := by rw [rcL_len l1 lT]; decide
      have hsw := rcL_sw l1 lT (ws := .slice (some ⟨bw, 0, none⟩) lw cw) (r := .int .i64 ((n + 6 : Nat) : Int)) v3
      (refine SL.nilB ?_; refine SS.tw 28 rfl (p_nil rfl rfl) ?_; refine SS.tw 29 rfl (p_fieldAddr rfl rfl OfN.ok) ?_; refine SS.effB 30 ?_ rfl (by kernel_rfl); (repeat' (first | refine W.mv ?_ | refine W.zl ?_ | refine W.fa ?_ | refine W.nl ?_ | refine W.as ?_ | refine W.zb ?_ | refine W.za ?_ | refine W.zi ?_ | refine W.zc ?_ | refine W.zp ?_ | refine W.st ?_ | refine SL.nilB ?_ | refine SL.nil ?_ | refine W.al fun b_ => ?_ | refine W.bx fun b_ => ?_ | refine W.bxa fun b_ => ?_ | refine W.sw ?_ | refine W.sa ?_ | refine W.sk ?_ | refine W.bs0 fun b_ => ?_ | refine W.ma fun b_ => ?_ | refine W.bsl fun b_ => ?_ | refine W.zu ?_ | refine W.zf ?_ | refine W.zd ?_ | refine W.zs ?_ | refine W.zv ?_ | refine W.zx ?_ | refine W.ex ?_ | refine W.mf ?_ | refine W.mk ?_)); refine SS.done ?_ (by kernel_rfl))
      rw [hsw]
      (repeat' (first | refine W.mv ?_ | refine W.zl ?_ | refine W.fa ?_ | refine W.nl ?_ | refine W.as ?_ | refine W.zb ?_ | refine W.za ?_ | refine W.zi ?_ | refine W.zc ?_ | refine W.zp ?_ | refine W.st ?_ | refine SL.nilB ?_ | refine SL.nil ?_ | refine W.al fun b_ => ?_ | refine W.bx fun b_ => ?_ | refine W.bxa fun b_ => ?_ | refine W.sw ?_ | refine W.sa ?_ | refine W.sk ?_ | refine W.bs0 fun b_ => ?_ | refine W.ma fun b_ => ?_ | refine W.bsl fun b_ => ?_ | refine W.zu ?_ | refine W.zf ?_ | refine W.zd ?_ | refine W.zs ?_ | refine W.zv ?_ | refine W.zx ?_ | refine W.ex ?_ | refine W.mf ?_ | refine W.mk ?_ | refine SW.seq ?_ | refine SW.region ?_ | refine SW.block ?_ | refine SW.cond_t rfl ?_ | refine SW.cond_f rfl ?_ | refine SW.exit ?_ | refine SW.ret ?_ | refine SW.skip ?_))
      rw [show ((n + m : Nat) : Int) + 1 = ((n + (m + 1) : Nat) : Int) by omega]
      refine HandF.mk (m + 1, v3, H3, p') ?_
      dsimp only
      rw [hsucc]
      exact ⟨by omega, h3, rfl⟩
    · have hm2 : m = 3 * n + 28 := by omega
      have e : Rg.sched xs = (Rg.grow T U n (Aes.keyW xs n) m).1 := by rw [hm2]; unfold Rg.sched; rw [hn, kT.out, kU.out]
      rw [← e] at hS2
      clear e hp
      (repeat' (first | refine W.mv ?_ | refine W.zl ?_ | refine W.fa ?_ | refine W.nl ?_ | refine W.as ?_ | refine W.zb ?_ | refine W.za ?_ | refine W.zi ?_ | refine W.zc ?_ | refine W.zp ?_ | refine W.st ?_ | refine SL.nilB ?_ | refine SL.nil ?_ | refine W.al fun b_ => ?_ | refine W.bx fun b_ => ?_ | refine W.bxa fun b_ => ?_ | refine W.sw ?_ | refine W.sa ?_ | refine W.sk ?_ | refine W.bs0 fun b_ => ?_ | refine W.ma fun b_ => ?_ | refine W.bsl fun b_ => ?_ | refine W.zu ?_ | refine W.zf ?_ | refine W.zd ?_ | refine W.zs ?_ | refine W.zv ?_ | refine W.zx ?_ | refine W.ex ?_ | refine W.mf ?_ | refine W.mk ?_ | refine SW.seq ?_ | refine SW.region ?_ | refine SW.block ?_ | refine SW.cond_t rfl ?_ | refine SW.cond_f rfl ?_ | refine SW.exit ?_ | refine SW.ret ?_ | refine SW.skip ?_))
      refine CutF.mk (wv2, H2) ?_
      exact hS2
  rintro ⟨wv2, H2⟩ hS2
  dsimp only at hS2 ⊢
  (repeat' (first | refine W.mv ?_ | refine W.zl ?_ | refine W.fa ?_ | refine W.nl ?_ | refine W.as ?_ | refine W.zb ?_ | refine W.za ?_ | refine W.zi ?_ | refine W.zc ?_ | refine W.zp ?_ | refine W.st ?_ | refine SL.nilB ?_ | refine SL.nil ?_ | refine W.al fun b_ => ?_ | refine W.bx fun b_ => ?_ | refine W.bxa fun b_ => ?_ | refine W.sw ?_ | refine W.sa ?_ | refine W.sk ?_ | refine W.bs0 fun b_ => ?_ | refine W.ma fun b_ => ?_ | refine W.bsl fun b_ => ?_ | refine W.zu ?_ | refine W.zf ?_ | refine W.zd ?_ | refine W.zs ?_ | refine W.zv ?_ | refine W.zx ?_ | refine W.ex ?_ | refine W.mf ?_ | refine W.mk ?_ | refine SW.seq ?_ | refine SW.region ?_ | refine SW.block ?_ | refine SW.cond_t rfl ?_ | refine SW.cond_f rfl ?_ | refine SW.exit ?_ | refine SW.ret ?_ | refine SW.skip ?_))
  refine Fin.to ((b3, cl (rcL X Y wv2 (.int .i64 ((n + 6 : Nat) : Int))) 189) :: H2) ?_
  exact F.f1 ⟨b3, rfl, wv2, H2, hS2, by rw [hn, kT.out, kX.out, kU.out, kY2.out]⟩
end Go.Proofs.YtieamijnajbcnaaGreat
