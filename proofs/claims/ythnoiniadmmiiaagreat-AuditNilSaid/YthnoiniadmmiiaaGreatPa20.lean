/- The document's own device: its model. The document's own device: the power goes. The document's own device: the power goes (the walk). The document's own device: an act, Do. The document's own device: Do, Arm. The document's own device: New. -/
import Derived.Test.YthnoiniadmmiiaaGreatPa19
import Derived.Test.YthnoiniadmmiiaaGreatPa1
set_option linter.unusedVariables false
set_option linter.unusedSimpArgs false
set_option linter.unusedSectionVars false
namespace Go.Proofs.YthnoiniadmmiiaaGreat
open Go
attribute [local irreducible] SW SL SQ SH SA Pu Fin

def rl (ws : List Wd) : List Value := ws.flatMap fun w => w.lasts.map bv
def rn (ws : List Wd) : List Value := ws.flatMap fun w => w.now.map bv
def rp (ws : List Wd) : List Value := ws.map fun w => .bool w.pend
def rm (ws : List Wd) : List Value := ws.map fun w => .bool w.mark
theorem rn_len {ws : List Wd} (h : ∀ w ∈ ws, w.Ok) : (rn ws).length = 8 * ws.length := by
  rw [rn, fm_len _ 8 _ (fun w hw => by simpa using (h w hw).1.2)]; omega
theorem rl_len {ws : List Wd} (h : ∀ w ∈ ws, w.Ok) : (rl ws).length = 8 * ws.length := by
  rw [rl, fm_len _ 8 _ (fun w hw => by simpa using (h w hw).1.1)]; omega
/-- A device of the document's. -/
def DevR (p : Nat) (σ : Dv) (H : Hp) : Prop :=
  σ.Ok ∧ ∃ bl bn bp bm vp va Hq Ha, Sl 5 1 vp (σ.picks.map bv) Hq ∧ Sl 308 3 va (σ.acts.flatMap ac) Ha ∧
    H = (p, cl [.slice (some ⟨bl, 0, none⟩) σ.len σ.len, .slice (some ⟨bn, 0, none⟩) σ.len σ.len, .slice (some ⟨bp, 0, none⟩) σ.ws.length σ.ws.length, .slice (some ⟨bm, 0, none⟩) σ.ws.length σ.ws.length, .bool σ.down, .int .i64 σ.fuse, vp, va] 54) ::
      (bl, cl (rl σ.ws) 5) :: (bn, cl (rn σ.ws) 5) :: (bp, cl (rp σ.ws) 4) :: (bm, cl (rm σ.ws) 4) :: (Hq ++ Ha)

set_option maxHeartbeats 1600000 in
theorem rready_p {p : Nat} {σ : Dv} {H : Hp} (hD : DevR p σ H) (x n : Int) : Tri Tryz.prog 251 [.pointer (some ⟨p, 0, none⟩), .int .i64 x, .int .i64 n] H (fun _ => True) (fun v H' => v = .int .i64 (σ.rdy x n) ∧ H' = H) := by
  obtain ⟨hO, bl, bn, bp, bm, vp, va, Hq, Ha, h1, h2, rfl⟩ := hD
  have hof : One vp := h1.one
  have hoa : One va := h2.one
  have hn : σ.len ≤ 65536 := by have := hO.n; simp only [Dv.len]; omega
  refine Tri.mk Tryz.func251 rfl Tryz.ntmps251 rfl fun w hw => ?_
  (repeat' (first | (refine W.ow ?_; try intro b_)  | refine SL.cmp (p_lss rfl rfl rfl) rfl rfl (fun h_ => ?_) (fun h_ => ?_) | refine SL.cmp (p_leq rfl rfl rfl) rfl rfl (fun h_ => ?_) (fun h_ => ?_) | refine SL.cmp (p_gtr rfl rfl rfl) rfl rfl (fun h_ => ?_) (fun h_ => ?_) | refine SL.cmp (p_geq rfl rfl rfl) rfl rfl (fun h_ => ?_) (fun h_ => ?_) | refine SL.cmp (p_eql rfl rfl rfl) rfl rfl (fun h_ => ?_) (fun h_ => ?_) | refine SL.cmp (p_neq rfl rfl rfl) rfl rfl (fun h_ => ?_) (fun h_ => ?_) | refine SW.cond_b rfl (fun h_ => ?_) (fun h_ => ?_)))
  all_goals (refine Fin.r1 (.inl rfl) rfl rfl _ ⟨?_, rfl⟩; unfold Dv.rdy; congr 1)
  all_goals (repeat' split)
  all_goals first | rfl | (exfalso; simp_all; done) | (exfalso; omega)
end Go.Proofs.YthnoiniadmmiiaaGreat

namespace Go.Proofs.YthnoiniadmmiiaaGreat
open Go

section
variable {P : Program} {C : Ctx} {ρ : Fr} {H H' : Hp} {o : Oper}
theorem p_slice_lt {t e n len cap l h b j m c : Nat} {x y y2 : Operand} {k k2 : IntKind} {i i2 : Int} (ho : o.op = .slice t x (some y) (some y2) none) (hx : ev ρ x = some (.slice (some ⟨b, j, none⟩) len cap)) [ht : SliceTy P t e n]
    (hy : ev ρ y = some (.int k i)) (hy2 : ev ρ y2 = some (.int k2 i2)) (hl : i = (l : Int)) (hh : i2 = (h : Int)) (hlt : l < cap) (h2 : h ≤ cap) (hm : l + m = h) {j' : Nat} (hj : j + l * n = j') (hc : l + c = cap) : Pu P C ρ H o (.slice (some ⟨b, j', none⟩) m c) := by
  have := p_slice (P := P) (C := C) (H := H) (vl := none) (vh := none) ho hx (ht := ht) (l := l) (h := h) (.inr ⟨y, k, i, rfl, hy, hl⟩) (.inr ⟨y2, k2, i2, rfl, hy2, hh⟩) (by omega) h2
  have e1 : sadr (some ⟨b, j, none⟩) cap l n = some ⟨b, j', none⟩ := by
    unfold sadr
    rw [if_neg (by omega)]
    simp only [Option.map_some, Option.some.injEq]
    subst hj
    unfold Addr.add
    split
    · rename_i h0; rw [h0]; rfl
    · rfl
  have e2 : h - l = m := by omega
  have e3 : cap - l = c := by omega
  rw [e1, e2, e3] at this
  exact this
end
end Go.Proofs.YthnoiniadmmiiaaGreat

namespace Go.Proofs.YthnoiniadmmiiaaGreat
open Go
attribute [local irreducible] SW SL SQ SH SA Pu Fin

theorem splice8 {A B x y : List Value} {m : Nat} (hA : A.length = m) (hx : x.length = 8) (hy : y.length = 8) : (A ++ (x ++ B)).take m ++ y ++ (A ++ (x ++ B)).drop (m + y.length) = A ++ (y ++ B) := by
  subst hA
  rw [List.take_left' rfl, ← List.drop_drop, List.drop_left' rfl, List.drop_left' (by omega), List.append_assoc]
theorem row8 {A B x : List Value} {m : Nat} (hA : A.length = m) (hx : x.length = 8) : ((A ++ (x ++ B)).drop m).take (8 * 1) = x := by
  subst hA
  rw [List.drop_left' rfl, List.take_left' (by omega)]
theorem rl_mid (d t : List Wd) (u : Wd) : rl (d ++ u :: t) = rl d ++ (u.lasts.map bv ++ rl t) := by simp [rl]
theorem rn_mid (d t : List Wd) (u : Wd) : rn (d ++ u :: t) = rn d ++ (u.now.map bv ++ rn t) := by simp [rn]
theorem rp_mid (d t : List Wd) (u : Wd) : rp (d ++ u :: t) = rp d ++ (.bool u.pend :: rp t) := by simp [rp]
theorem rm_mid (d t : List Wd) (u : Wd) : rm (d ++ u :: t) = rm d ++ (.bool u.mark :: rm t) := by simp [rm]
theorem rp_len (d : List Wd) : (rp d).length = d.length := by simp [rp]
theorem rm_len (d : List Wd) : (rm d).length = d.length := by simp [rm]
theorem set_at {A B : List Value} {m : Nat} {x y : Value} (hA : A.length = m) : (A ++ (x :: B)).set m y = A ++ (y :: B) := by
  subst hA; simp
theorem bit_rem (b : UInt8) : ((b.toNat : Int).tmod 2 = 1) ↔ ((b &&& 1) == 1) = true := by
  have h1 : ((b &&& 1) == 1) = true ↔ b.toNat % 2 = 1 := by
    rw [beq_iff_eq, ← UInt8.toNat_inj, UInt8.toNat_and, UInt8.toNat_one, Nat.and_one_is_mod]
  rw [h1]
  have : ((b.toNat : Int)).tmod 2 = ((b.toNat % 2 : Nat) : Int) := by rw [Int.ofNat_tmod]; rfl
  rw [this]; omega

def rhdr (bl bn bp bm n : Nat) (d : Bool) (f : Int) (vp va : Value) : Obj :=
  cl [.slice (some ⟨bl, 0, none⟩) (8 * n) (8 * n), .slice (some ⟨bn, 0, none⟩) (8 * n) (8 * n), .slice (some ⟨bp, 0, none⟩) n n, .slice (some ⟨bm, 0, none⟩) n n, .bool d, .int .i64 f, vp, va] 54
set_option maxHeartbeats 1600000 in
theorem rcrash_core {p bl bn bp bm : Nat} {σ : Dv} (hO : σ.Ok) (vp va q : Value) (qs : List UInt8) :
    Tri Tryz.prog 110 [.pointer (some ⟨p, 0, none⟩), q]
      [(p, rhdr bl bn bp bm σ.ws.length σ.down σ.fuse vp va), (bl, cl (rl σ.ws) 5), (bn, cl (rn σ.ws) 5), (bp, cl (rp σ.ws) 4), (bm, cl (rm σ.ws) 4)] (fun w => Rd [p, bl, bn, bp, bm] w 1 q (qs.map bv))
      (fun v H' => v = .tuple #[] ∧ H' = [(p, rhdr bl bn bp bm (σ.crash qs).ws.length (σ.crash qs).down (σ.crash qs).fuse vp va), (bl, cl (rl (σ.crash qs).ws) 5), (bn, cl (rn (σ.crash qs).ws) 5), (bp, cl (rp (σ.crash qs).ws) 4), (bm, cl (rm (σ.crash qs).ws) 4)]) := by
  unfold rhdr
  obtain ⟨ws, dn, fu, pk, ak⟩ := σ
  have hn := hO.n
  have hok := hO.ok
  simp only at hn hok
  refine Tri.mk Tryz.func110 rfl Tryz.ntmps110 rfl fun w hw => ?_
  obtain ⟨a, len, cap, rfl, hlen, hcap, hrd⟩ := hw
  rw [List.length_map, Nat.mul_one] at hlen
  cases dn
  · dsimp only
    (repeat' (first | (refine W.ow ?_; try intro b_) | fail))
    refine SW.loopN (fun x : List Wd × List Wd × Nat => [(0, .pointer (some ⟨p, 0, none⟩)), (1, .slice a len cap), (4, .int .i64 x.2.2), (14, .int .i64 ws.length), (15, .int .i64 x.1.length)])
      (fun x => [(p, rhdr bl bn bp bm ws.length false fu vp va), (bl, cl (rl (x.1 ++ x.2.1)) 5), (bn, cl (rn (x.1 ++ x.2.1)) 5), (bp, cl (rp (x.1 ++ x.2.1)) 4), (bm, cl (rm (x.1 ++ x.2.1)) 4)])
      (fun x => x.2.1.length) (fun x => crashL qs 0 ws = x.1 ++ crashL qs x.2.2 x.2.1 ∧ x.1.length + x.2.1.length = ws.length ∧ x.2.2 ≤ x.1.length ∧ (∀ w ∈ x.1 ++ x.2.1, w.Ok))
      ([], ws, 0) ⟨rfl, rfl, rfl, rfl, rfl, trivial⟩ (by dsimp only [List.nil_append, rhdr]; infer_instance) ⟨rfl, by simp, Nat.le_refl _, hok⟩ ?_
    rintro ⟨done, todo, j⟩ ⟨hc, hl, hj, hk⟩
    dsimp only [rhdr] at hc hl hj hk ⊢
    cases todo with
    | nil =>
      have hl2 : done.length = ws.length := by simpa using hl
      (repeat' (first | (refine W.ow ?_; try intro b_) | fail))
      refine Fin.s0 (.inr rfl) rfl ⟨rfl, ?_⟩
      simp [Dv.crash, hc, crashL, hl2]
    | cons u t =>
      have hl2 : done.length + (t.length + 1) = ws.length := by simpa using hl
      have hu : u.Ok := hk u (by simp)
      rw [rl_mid, rn_mid, rp_mid, rm_mid]
      have hpg : (rp done ++ (.bool u.pend :: rp t))[done.length]? = some (.bool u.pend) := by
        rw [List.getElem?_append_right (by rw [rp_len]; exact Nat.le_refl _), rp_len]; simp
      (repeat' (first | (refine W.ow ?_; try intro b_) | fail))
      refine SL.pu (p_indexAddr rfl rfl rfl (by omega) (by omega) (j' := done.length) (by omega)) rfl rfl ?_
      (repeat' (first | (refine W.ow ?_; try intro b_) | fail))
      have hlp : done.length < (rp done ++ (Value.bool u.pend :: rp t)).length := by rw [List.length_append, rp_len]; simp
      have hlm : done.length < (rm done ++ (Value.bool u.mark :: rm t)).length := by rw [List.length_append, rm_len]; simp
      have hdk : ∀ w ∈ done, w.Ok := fun w hw => hk w (by simp [hw])
      have hA := rl_len hdk
      have hB := rn_len hdk
      obtain ⟨la, no, pe, ma⟩ := u
      dsimp only at hpg hlp hlm
      cases pe
      · have hma : ma = false := by
          cases ma with
          | false => rfl
          | true => exact absurd (hu.2 rfl) (by simp)
        subst hma
        (repeat' (first | (refine W.ow ?_; try intro b_) | fail))
        refine SL.pu (p_indexAddr rfl rfl rfl (by omega) (by omega) (j' := done.length) (by omega)) rfl rfl ?_
        (repeat' (first | (refine W.ow ?_; try intro b_) | fail))
        refine SL.pu (p_indexAddr rfl rfl rfl (by omega) (by omega) (j' := done.length) (by omega)) rfl rfl ?_
        (repeat' (first | (refine W.ow ?_; try intro b_) | fail))
        rw [set_at (rp_len done), set_at (rm_len done)]
        refine HandN.eq (done ++ [⟨la, no, false, false⟩], t, j) (by simp) ⟨rfl, rfl, rfl, rfl, ?_, trivial⟩ ?_ ⟨?_, ?_, ?_, ?_⟩
        · simp [lk, pt]
        · simp [rl_mid, rn_mid, rp_mid, rm_mid, rhdr]
        · rw [hc]; simp [crashL]
        · simp; omega
        · simp; omega
        · simpa using hk
      · have h8n : (no.map bv).length = 8 := by simpa using hu.1.2
        have h8l : (la.map bv).length = 8 := by simpa using hu.1.1
        rcases Nat.eq_zero_or_pos len with h0 | h0
        · subst h0
          have hq : qs = [] := List.eq_nil_of_length_eq_zero hlen
          have hbt : bitP qs j = false := by subst hq; simp [bitP]
          have hLL := hu.1.1
          (repeat' (first | (refine W.ow ?_; try intro b_) | fail))
          refine SW.regionB [p] 99 (by kernel_rfl) ?_
          (refine SA.take 0 rfl (by kernel_rfl) (fun _ _ _ h => Fin.np h) rfl rfl (p_move rfl rfl) ?_; refine SA.take 1 rfl (by kernel_rfl) (fun _ _ _ h => Fin.np h) rfl rfl (p_nil rfl rfl) ?_; refine SA.take 2 rfl (by kernel_rfl) (fun _ _ _ h => Fin.np h) rfl rfl (p_fieldAddr rfl rfl rfl) ?_; refine SA.take 3 rfl (by kernel_rfl) (fun _ _ _ h => Fin.np h) rfl rfl (p_load_s rfl rfl rfl) ?_; refine SA.take 4 rfl (by kernel_rfl) (fun _ _ _ h => Fin.np h) rfl rfl (p_move rfl rfl) ?_; refine SA.take 5 rfl (by kernel_rfl) (fun _ _ _ h => Fin.np h) rfl rfl (p_mul rfl rfl rfl (w64 (by omega))) ?_; refine SA.take 6 rfl (by kernel_rfl) (fun _ _ _ h => Fin.np h) rfl rfl (p_move rfl rfl) ?_; refine SA.take 7 rfl (by kernel_rfl) (fun _ _ _ h => Fin.np h) rfl rfl (p_mul rfl rfl rfl (w64 (by omega))) ?_; refine SA.take 8 rfl (by kernel_rfl) (fun _ _ _ h => Fin.np h) rfl rfl (p_add rfl rfl rfl (w64 (by omega))) ?_)
          refine SA.take 9 rfl (by kernel_rfl) (fun _ _ _ h => Fin.np h) rfl rfl (p_slice_lt (l := 8 * done.length) (m := 8) (h := 8 * done.length + 8) (j' := 8 * done.length) (c := 8 * ws.length - 8 * done.length) rfl rfl rfl rfl (by omega) (by omega) (by omega) (by omega) (by omega) (by omega) (by omega)) ?_
          (refine SA.take 10 rfl (by kernel_rfl) (fun _ _ _ h => Fin.np h) rfl rfl (p_move rfl rfl) ?_; refine SA.take 11 rfl (by kernel_rfl) (fun _ _ _ h => Fin.np h) rfl rfl (p_nil rfl rfl) ?_; refine SA.take 12 rfl (by kernel_rfl) (fun _ _ _ h => Fin.np h) rfl rfl (p_fieldAddr rfl rfl rfl) ?_; refine SA.take 13 rfl (by kernel_rfl) (fun _ _ _ h => Fin.np h) rfl rfl (p_load_s rfl rfl rfl) ?_; refine SA.take 14 rfl (by kernel_rfl) (fun _ _ _ h => Fin.np h) rfl rfl (p_move rfl rfl) ?_; refine SA.take 15 rfl (by kernel_rfl) (fun _ _ _ h => Fin.np h) rfl rfl (p_mul rfl rfl rfl (w64 (by omega))) ?_; refine SA.take 16 rfl (by kernel_rfl) (fun _ _ _ h => Fin.np h) rfl rfl (p_move rfl rfl) ?_; refine SA.take 17 rfl (by kernel_rfl) (fun _ _ _ h => Fin.np h) rfl rfl (p_mul rfl rfl rfl (w64 (by omega))) ?_; refine SA.take 18 rfl (by kernel_rfl) (fun _ _ _ h => Fin.np h) rfl rfl (p_add rfl rfl rfl (w64 (by omega))) ?_)
          refine SA.take 19 rfl (by kernel_rfl) (fun _ _ _ h => Fin.np h) rfl rfl (p_slice_lt (l := 8 * done.length) (m := 8) (h := 8 * done.length + 8) (j' := 8 * done.length) (c := 8 * ws.length - 8 * done.length) rfl rfl rfl rfl (by omega) (by omega) (by omega) (by omega) (by omega) (by omega) (by omega)) ?_
          refine SA.one 20 rfl (by kernel_rfl) ?_
          refine SL.copy (m := 8) (ys := la.map bv) rfl rfl rfl rfl rfl (fun w2 hs => (SrcOf.block (m := 8) (size := 1) (hs.at (b := bl)) (row8 hA h8l) (by simpa using h8l)) w2 rfl) (by rw [List.length_append, List.length_append]; omega) (splice8 hB h8n h8l) ?_
          refine SL.nil ?_
          refine Beh.mk ?_
          refine SA.done (by kernel_rfl) ?_
          (repeat' (first | (refine W.ow ?_; try intro b_) | fail))
          refine SL.pu (p_indexAddr rfl rfl rfl (by omega) (by omega) (j' := done.length) (by omega)) rfl rfl ?_
          (repeat' (first | (refine W.ow ?_; try intro b_) | fail))
          refine SL.pu (p_indexAddr rfl rfl rfl (by omega) (by omega) (j' := done.length) (by omega)) rfl rfl ?_
          (repeat' (first | (refine W.ow ?_; try intro b_) | fail))
          rw [set_at (rp_len done), set_at (rm_len done)]
          refine HandN.eq (done ++ [⟨la, la, false, false⟩], t, j + 1) (by simp) ⟨rfl, rfl, rfl, rfl, ?_, trivial⟩ ?_ ⟨?_, ?_, ?_, ?_⟩
          · simp [lk, pt]
          · simp [rl_mid, rn_mid, rp_mid, rm_mid, rhdr]
          · rw [hc]; simp only [crashL, cond_true, Wd.crash]; rw [hbt]; simp
          · simp; omega
          · simp; omega
          · have hk2 : ∀ w ∈ t, w.Ok := fun w hw => hk w (by simp [hw])
            intro w hw
            simp only [List.mem_append, List.mem_cons, List.not_mem_nil, or_false] at hw
            rcases hw with (hw | rfl) | hw
            · exact hdk w hw
            · exact ⟨⟨hLL, hLL⟩, by simp⟩
            · exact hk2 w hw
        · obtain ⟨b, o, l, T, fz, rfl, hb, hbk, hrow⟩ := hrd.resolve_left (by omega)
          obtain ⟨x, hx⟩ : ∃ x, qs[j % qs.length]? = some x := ⟨_, List.getElem?_eq_getElem (Nat.mod_lt _ (by omega))⟩
          have hlx : l[o + (j % len) * 1]? = some (bv x) := by
            have := congrArg (fun z => z[j % len]?) hrow
            rw [List.getElem?_take, if_pos (by have := Nat.mod_lt j h0; omega), List.getElem?_drop, List.getElem?_map, ← hlen, hx] at this
            rw [Nat.mul_one, ← hlen]; exact this
          (repeat' (first | (refine W.ow ?_; try intro b_) | fail))
          refine SL.pu (p_rem rfl rfl rfl (by omega) (r := ((j % len : Nat) : Int)) (by rw [Int.ofNat_tmod])) rfl rfl ?_
          refine SL.pu (p_indexAddr rfl rfl rfl (by omega) (by have := Nat.mod_lt j h0; omega) (j' := o + (j % len) * 1) (by rw [Int.toNat_natCast])) rfl rfl ?_
          refine SL.pu (p_load_sR rfl rfl hb hbk hlx) rfl rfl ?_
          refine SL.pu (p_rem rfl rfl rfl (by decide) rfl) rfl rfl ?_
          by_cases hbit : ((x &&& 1) == 1) = true
          · have hbt : bitP qs j = true := by simp only [bitP, hx, hbit]
            have hLL := hu.1.2
            refine SL.pu (Pu.t (p_eql rfl rfl rfl) ((bit_rem x).2 hbit)) rfl rfl ?_
            (repeat' (first | (refine W.ow ?_; try intro b_) | fail))
            refine SW.regionB [p] 99 (by kernel_rfl) ?_
            (refine SA.take 0 rfl (by kernel_rfl) (fun _ _ _ h => Fin.np h) rfl rfl (p_move rfl rfl) ?_; refine SA.take 1 rfl (by kernel_rfl) (fun _ _ _ h => Fin.np h) rfl rfl (p_nil rfl rfl) ?_; refine SA.take 2 rfl (by kernel_rfl) (fun _ _ _ h => Fin.np h) rfl rfl (p_fieldAddr rfl rfl rfl) ?_; refine SA.take 3 rfl (by kernel_rfl) (fun _ _ _ h => Fin.np h) rfl rfl (p_load_s rfl rfl rfl) ?_; refine SA.take 4 rfl (by kernel_rfl) (fun _ _ _ h => Fin.np h) rfl rfl (p_move rfl rfl) ?_; refine SA.take 5 rfl (by kernel_rfl) (fun _ _ _ h => Fin.np h) rfl rfl (p_mul rfl rfl rfl (w64 (by omega))) ?_; refine SA.take 6 rfl (by kernel_rfl) (fun _ _ _ h => Fin.np h) rfl rfl (p_move rfl rfl) ?_; refine SA.take 7 rfl (by kernel_rfl) (fun _ _ _ h => Fin.np h) rfl rfl (p_mul rfl rfl rfl (w64 (by omega))) ?_; refine SA.take 8 rfl (by kernel_rfl) (fun _ _ _ h => Fin.np h) rfl rfl (p_add rfl rfl rfl (w64 (by omega))) ?_)
            refine SA.take 9 rfl (by kernel_rfl) (fun _ _ _ h => Fin.np h) rfl rfl (p_slice_lt (l := 8 * done.length) (m := 8) (h := 8 * done.length + 8) (j' := 8 * done.length) (c := 8 * ws.length - 8 * done.length) rfl rfl rfl rfl (by omega) (by omega) (by omega) (by omega) (by omega) (by omega) (by omega)) ?_
            (refine SA.take 10 rfl (by kernel_rfl) (fun _ _ _ h => Fin.np h) rfl rfl (p_move rfl rfl) ?_; refine SA.take 11 rfl (by kernel_rfl) (fun _ _ _ h => Fin.np h) rfl rfl (p_nil rfl rfl) ?_; refine SA.take 12 rfl (by kernel_rfl) (fun _ _ _ h => Fin.np h) rfl rfl (p_fieldAddr rfl rfl rfl) ?_; refine SA.take 13 rfl (by kernel_rfl) (fun _ _ _ h => Fin.np h) rfl rfl (p_load_s rfl rfl rfl) ?_; refine SA.take 14 rfl (by kernel_rfl) (fun _ _ _ h => Fin.np h) rfl rfl (p_move rfl rfl) ?_; refine SA.take 15 rfl (by kernel_rfl) (fun _ _ _ h => Fin.np h) rfl rfl (p_mul rfl rfl rfl (w64 (by omega))) ?_; refine SA.take 16 rfl (by kernel_rfl) (fun _ _ _ h => Fin.np h) rfl rfl (p_move rfl rfl) ?_; refine SA.take 17 rfl (by kernel_rfl) (fun _ _ _ h => Fin.np h) rfl rfl (p_mul rfl rfl rfl (w64 (by omega))) ?_; refine SA.take 18 rfl (by kernel_rfl) (fun _ _ _ h => Fin.np h) rfl rfl (p_add rfl rfl rfl (w64 (by omega))) ?_)
            refine SA.take 19 rfl (by kernel_rfl) (fun _ _ _ h => Fin.np h) rfl rfl (p_slice_lt (l := 8 * done.length) (m := 8) (h := 8 * done.length + 8) (j' := 8 * done.length) (c := 8 * ws.length - 8 * done.length) rfl rfl rfl rfl (by omega) (by omega) (by omega) (by omega) (by omega) (by omega) (by omega)) ?_
            refine SA.one 20 rfl (by kernel_rfl) ?_
            refine SL.copy (m := 8) (ys := no.map bv) rfl rfl rfl rfl rfl (fun w2 hs => (SrcOf.block (m := 8) (size := 1) (hs.at (b := bn)) (row8 hB h8n) (by simpa using h8n)) w2 rfl) (by rw [List.length_append, List.length_append]; omega) (splice8 hA h8l h8n) ?_
            refine SL.nil ?_
            refine Beh.mk ?_
            refine SA.done (by kernel_rfl) ?_
            (repeat' (first | (refine W.ow ?_; try intro b_) | fail))
            refine SW.regionB [p] 99 (by kernel_rfl) ?_
            (refine SA.take 0 rfl (by kernel_rfl) (fun _ _ _ h => Fin.np h) rfl rfl (p_move rfl rfl) ?_; refine SA.take 1 rfl (by kernel_rfl) (fun _ _ _ h => Fin.np h) rfl rfl (p_nil rfl rfl) ?_; refine SA.take 2 rfl (by kernel_rfl) (fun _ _ _ h => Fin.np h) rfl rfl (p_fieldAddr rfl rfl rfl) ?_; refine SA.take 3 rfl (by kernel_rfl) (fun _ _ _ h => Fin.np h) rfl rfl (p_load_s rfl rfl rfl) ?_; refine SA.take 4 rfl (by kernel_rfl) (fun _ _ _ h => Fin.np h) rfl rfl (p_move rfl rfl) ?_; refine SA.take 5 rfl (by kernel_rfl) (fun _ _ _ h => Fin.np h) rfl rfl (p_mul rfl rfl rfl (w64 (by omega))) ?_; refine SA.take 6 rfl (by kernel_rfl) (fun _ _ _ h => Fin.np h) rfl rfl (p_move rfl rfl) ?_; refine SA.take 7 rfl (by kernel_rfl) (fun _ _ _ h => Fin.np h) rfl rfl (p_mul rfl rfl rfl (w64 (by omega))) ?_; refine SA.take 8 rfl (by kernel_rfl) (fun _ _ _ h => Fin.np h) rfl rfl (p_add rfl rfl rfl (w64 (by omega))) ?_)
            refine SA.take 9 rfl (by kernel_rfl) (fun _ _ _ h => Fin.np h) rfl rfl (p_slice_lt (l := 8 * done.length) (m := 8) (h := 8 * done.length + 8) (j' := 8 * done.length) (c := 8 * ws.length - 8 * done.length) rfl rfl rfl rfl (by omega) (by omega) (by omega) (by omega) (by omega) (by omega) (by omega)) ?_
            (refine SA.take 10 rfl (by kernel_rfl) (fun _ _ _ h => Fin.np h) rfl rfl (p_move rfl rfl) ?_; refine SA.take 11 rfl (by kernel_rfl) (fun _ _ _ h => Fin.np h) rfl rfl (p_nil rfl rfl) ?_; refine SA.take 12 rfl (by kernel_rfl) (fun _ _ _ h => Fin.np h) rfl rfl (p_fieldAddr rfl rfl rfl) ?_; refine SA.take 13 rfl (by kernel_rfl) (fun _ _ _ h => Fin.np h) rfl rfl (p_load_s rfl rfl rfl) ?_; refine SA.take 14 rfl (by kernel_rfl) (fun _ _ _ h => Fin.np h) rfl rfl (p_move rfl rfl) ?_; refine SA.take 15 rfl (by kernel_rfl) (fun _ _ _ h => Fin.np h) rfl rfl (p_mul rfl rfl rfl (w64 (by omega))) ?_; refine SA.take 16 rfl (by kernel_rfl) (fun _ _ _ h => Fin.np h) rfl rfl (p_move rfl rfl) ?_; refine SA.take 17 rfl (by kernel_rfl) (fun _ _ _ h => Fin.np h) rfl rfl (p_mul rfl rfl rfl (w64 (by omega))) ?_; refine SA.take 18 rfl (by kernel_rfl) (fun _ _ _ h => Fin.np h) rfl rfl (p_add rfl rfl rfl (w64 (by omega))) ?_)
            refine SA.take 19 rfl (by kernel_rfl) (fun _ _ _ h => Fin.np h) rfl rfl (p_slice_lt (l := 8 * done.length) (m := 8) (h := 8 * done.length + 8) (j' := 8 * done.length) (c := 8 * ws.length - 8 * done.length) rfl rfl rfl rfl (by omega) (by omega) (by omega) (by omega) (by omega) (by omega) (by omega)) ?_
            refine SA.one 20 rfl (by kernel_rfl) ?_
            refine SL.copy (m := 8) (ys := no.map bv) rfl rfl rfl rfl rfl (fun w2 hs => (SrcOf.block (m := 8) (size := 1) (hs.at (b := bl)) (row8 hA h8n) (by simpa using h8n)) w2 rfl) (by rw [List.length_append, List.length_append]; omega) (splice8 hB h8n h8n) ?_
            refine SL.nil ?_
            refine Beh.mk ?_
            refine SA.done (by kernel_rfl) ?_
            (repeat' (first | (refine W.ow ?_; try intro b_) | fail))
            refine SL.pu (p_indexAddr rfl rfl rfl (by omega) (by omega) (j' := done.length) (by omega)) rfl rfl ?_
            (repeat' (first | (refine W.ow ?_; try intro b_) | fail))
            refine SL.pu (p_indexAddr rfl rfl rfl (by omega) (by omega) (j' := done.length) (by omega)) rfl rfl ?_
            (repeat' (first | (refine W.ow ?_; try intro b_) | fail))
            rw [set_at (rp_len done), set_at (rm_len done)]
            refine HandN.eq (done ++ [⟨no, no, false, false⟩], t, j + 1) (by simp) ⟨rfl, rfl, rfl, rfl, ?_, trivial⟩ ?_ ⟨?_, ?_, ?_, ?_⟩
            · simp [lk, pt]
            · simp [rl_mid, rn_mid, rp_mid, rm_mid, rhdr]
            · rw [hc]; simp only [crashL, cond_true, Wd.crash]; rw [hbt]; simp
            · simp; omega
            · simp; omega
            · have hk2 : ∀ w ∈ t, w.Ok := fun w hw => hk w (by simp [hw])
              intro w hw
              simp only [List.mem_append, List.mem_cons, List.not_mem_nil, or_false] at hw
              rcases hw with (hw | rfl) | hw
              · exact hdk w hw
              · exact ⟨⟨hLL, hLL⟩, by simp⟩
              · exact hk2 w hw
          · have hbt : bitP qs j = false := by simp only [Bool.not_eq_true] at hbit; simp only [bitP, hx, hbit]
            have hLL := hu.1.1
            refine SL.pu (Pu.f (p_eql rfl rfl rfl) (fun h => hbit ((bit_rem x).1 h))) rfl rfl ?_
            (repeat' (first | (refine W.ow ?_; try intro b_) | fail))
            refine SW.regionB [p] 99 (by kernel_rfl) ?_
            (refine SA.take 0 rfl (by kernel_rfl) (fun _ _ _ h => Fin.np h) rfl rfl (p_move rfl rfl) ?_; refine SA.take 1 rfl (by kernel_rfl) (fun _ _ _ h => Fin.np h) rfl rfl (p_nil rfl rfl) ?_; refine SA.take 2 rfl (by kernel_rfl) (fun _ _ _ h => Fin.np h) rfl rfl (p_fieldAddr rfl rfl rfl) ?_; refine SA.take 3 rfl (by kernel_rfl) (fun _ _ _ h => Fin.np h) rfl rfl (p_load_s rfl rfl rfl) ?_; refine SA.take 4 rfl (by kernel_rfl) (fun _ _ _ h => Fin.np h) rfl rfl (p_move rfl rfl) ?_; refine SA.take 5 rfl (by kernel_rfl) (fun _ _ _ h => Fin.np h) rfl rfl (p_mul rfl rfl rfl (w64 (by omega))) ?_; refine SA.take 6 rfl (by kernel_rfl) (fun _ _ _ h => Fin.np h) rfl rfl (p_move rfl rfl) ?_; refine SA.take 7 rfl (by kernel_rfl) (fun _ _ _ h => Fin.np h) rfl rfl (p_mul rfl rfl rfl (w64 (by omega))) ?_; refine SA.take 8 rfl (by kernel_rfl) (fun _ _ _ h => Fin.np h) rfl rfl (p_add rfl rfl rfl (w64 (by omega))) ?_)
            refine SA.take 9 rfl (by kernel_rfl) (fun _ _ _ h => Fin.np h) rfl rfl (p_slice_lt (l := 8 * done.length) (m := 8) (h := 8 * done.length + 8) (j' := 8 * done.length) (c := 8 * ws.length - 8 * done.length) rfl rfl rfl rfl (by omega) (by omega) (by omega) (by omega) (by omega) (by omega) (by omega)) ?_
            (refine SA.take 10 rfl (by kernel_rfl) (fun _ _ _ h => Fin.np h) rfl rfl (p_move rfl rfl) ?_; refine SA.take 11 rfl (by kernel_rfl) (fun _ _ _ h => Fin.np h) rfl rfl (p_nil rfl rfl) ?_; refine SA.take 12 rfl (by kernel_rfl) (fun _ _ _ h => Fin.np h) rfl rfl (p_fieldAddr rfl rfl rfl) ?_; refine SA.take 13 rfl (by kernel_rfl) (fun _ _ _ h => Fin.np h) rfl rfl (p_load_s rfl rfl rfl) ?_; refine SA.take 14 rfl (by kernel_rfl) (fun _ _ _ h => Fin.np h) rfl rfl (p_move rfl rfl) ?_; refine SA.take 15 rfl (by kernel_rfl) (fun _ _ _ h => Fin.np h) rfl rfl (p_mul rfl rfl rfl (w64 (by omega))) ?_; refine SA.take 16 rfl (by kernel_rfl) (fun _ _ _ h => Fin.np h) rfl rfl (p_move rfl rfl) ?_; refine SA.take 17 rfl (by kernel_rfl) (fun _ _ _ h => Fin.np h) rfl rfl (p_mul rfl rfl rfl (w64 (by omega))) ?_; refine SA.take 18 rfl (by kernel_rfl) (fun _ _ _ h => Fin.np h) rfl rfl (p_add rfl rfl rfl (w64 (by omega))) ?_)
            refine SA.take 19 rfl (by kernel_rfl) (fun _ _ _ h => Fin.np h) rfl rfl (p_slice_lt (l := 8 * done.length) (m := 8) (h := 8 * done.length + 8) (j' := 8 * done.length) (c := 8 * ws.length - 8 * done.length) rfl rfl rfl rfl (by omega) (by omega) (by omega) (by omega) (by omega) (by omega) (by omega)) ?_
            refine SA.one 20 rfl (by kernel_rfl) ?_
            refine SL.copy (m := 8) (ys := la.map bv) rfl rfl rfl rfl rfl (fun w2 hs => (SrcOf.block (m := 8) (size := 1) (hs.at (b := bl)) (row8 hA h8l) (by simpa using h8l)) w2 rfl) (by rw [List.length_append, List.length_append]; omega) (splice8 hB h8n h8l) ?_
            refine SL.nil ?_
            refine Beh.mk ?_
            refine SA.done (by kernel_rfl) ?_
            (repeat' (first | (refine W.ow ?_; try intro b_) | fail))
            refine SL.pu (p_indexAddr rfl rfl rfl (by omega) (by omega) (j' := done.length) (by omega)) rfl rfl ?_
            (repeat' (first | (refine W.ow ?_; try intro b_) | fail))
            refine SL.pu (p_indexAddr rfl rfl rfl (by omega) (by omega) (j' := done.length) (by omega)) rfl rfl ?_
            (repeat' (first | (refine W.ow ?_; try intro b_) | fail))
            rw [set_at (rp_len done), set_at (rm_len done)]
            refine HandN.eq (done ++ [⟨la, la, false, false⟩], t, j + 1) (by simp) ⟨rfl, rfl, rfl, rfl, ?_, trivial⟩ ?_ ⟨?_, ?_, ?_, ?_⟩
            · simp [lk, pt]
            · simp [rl_mid, rn_mid, rp_mid, rm_mid, rhdr]
            · rw [hc]; simp only [crashL, cond_true, Wd.crash]; rw [hbt]; simp
            · simp; omega
            · simp; omega
            · have hk2 : ∀ w ∈ t, w.Ok := fun w hw => hk w (by simp [hw])
              intro w hw
              simp only [List.mem_append, List.mem_cons, List.not_mem_nil, or_false] at hw
              rcases hw with (hw | rfl) | hw
              · exact hdk w hw
              · exact ⟨⟨hLL, hLL⟩, by simp⟩
              · exact hk2 w hw
  · dsimp only
    (repeat' (first | (refine W.ow ?_; try intro b_) | fail))
    refine Fin.s0 (.inl rfl) rfl ⟨rfl, rfl⟩
end Go.Proofs.YthnoiniadmmiiaaGreat

namespace Go.Proofs.YthnoiniadmmiiaaGreat
open Go
attribute [local irreducible] SW SL SQ SH SA Pu Fin

set_option maxHeartbeats 1600000 in
theorem ract_p {p : Nat} {σ : Dv} {H : Hp} (hD : DevR p σ H) (hnd : σ.down = false) (k x n : Int) : Tri Tryz.prog 252 [.pointer (some ⟨p, 0, none⟩), .int .i64 k, .int .i64 x, .int .i64 n] H (fun _ => True)
    (fun v H' => v = .int .i64 σ.actE ∧ DevR p (σ.act (k, x, n)) H') := by
  obtain ⟨hO, bl, bn, bp, bm, vp, va, Hq, Ha, h1, h2, rfl⟩ := hD
  have hf0 := hO.f0
  have hf1 := hO.f1
  have ha := hO.a
  have hof : One vp := h1.one
  obtain ⟨aa, la, ca, rfl, hla⟩ := h2.form
  have hla2 : la = σ.acts.length := by rw [fm_len ac 3 _ (fun x _ => rfl)] at hla; omega
  subst hla2
  refine Tri.mk Tryz.func252 rfl Tryz.ntmps252 rfl fun w hw => ?_
  by_cases c1 : σ.fuse = 1
  · have hc := rcrash_core (p := p) (bl := bl) (bn := bn) (bp := bp) (bm := bm) hO vp (.slice aa σ.acts.length ca) vp σ.picks
    unfold rhdr at hc
    (repeat' (first | (refine W.ow ?_; try intro b_) | fail))
    refine SL.callB [p, bl, bn, bp, bm] rfl rfl rfl rfl hc (fun w hs => Rd.ownB [p, bl, bn, bp, bm] h1 hs) ?_
    rintro _ _ ⟨rfl, rfl⟩
    (repeat' (first | (refine W.ow ?_; try intro b_) | fail))
    have he : σ.act (k, x, n) = σ.crash σ.picks := by simp [Dv.act, c1, Dv.crash, hnd]
    rw [he]
    exact Fin.s1 (.inl rfl) rfl rfl ⟨by simp [Dv.actE, c1], Dv.crash_ok _ hO, bl, bn, bp, bm, vp, _, Hq, Ha, by unfold Dv.crash; rw [hnd]; exact h1, by unfold Dv.crash; rw [hnd]; exact h2, rfl⟩
  · by_cases c0 : 1 < σ.fuse
    · (repeat' (first | (refine W.ow ?_; try intro b_) | fail))
      by_cases c2 : σ.acts.length < 16384
      · (repeat' (first | (refine W.ow ?_; try intro b_) | fail))
        refine SL.buildSlice (n := 3) rfl rfl rfl rfl (by rfl) (by decide) (by rfl) (by decide) (fun b2 => ?_)
        refine SL.append (n := 3) (m := 1) (ys := ac (k, x, n)) Ha rfl rfl rfl rfl rfl h2 (fun w hs => SrcOf.block (hs.at (b := b2)) rfl rfl) rfl rfl (by decide) (by decide) ?_ (fun v2 Ha2 h3 => ?_)
        · rw [hla]; simp [ac]; omega
        have hov : One v2 := h3.one
        (repeat' (first | (refine W.ow ?_; try intro b_) | fail))
        refine Fin.rm b2 ?_
        have hl2 : (σ.acts ++ [(k, x, n)]).flatMap ac = σ.acts.flatMap ac ++ ac (k, x, n) := by simp
        rw [← hl2] at h3
        have c3 : 0 < σ.fuse := by omega
        have he : σ.act (k, x, n) = ({ σ with fuse := (σ.fuse - 1), acts := σ.acts ++ [(k, x, n)] } : Dv) := by simp [Dv.act, Dv.push, c1, c2, c3]
        rw [he]
        exact Fin.perm List.perm_append_comm (Fin.s1 (.inl rfl) rfl rfl ⟨by simp [Dv.actE, c1], ⟨hO.n, hO.ok, by dsimp only; omega, by dsimp only; omega, by simp; omega⟩, bl, bn, bp, bm, vp, v2, Hq, Ha2, h1, h3, by rw [List.append_nil]; rfl⟩)
      · (repeat' (first | (refine W.ow ?_; try intro b_) | fail))
        have c3 : 0 < σ.fuse := by omega
        have he : σ.act (k, x, n) = ({ σ with fuse := (σ.fuse - 1) } : Dv) := by simp [Dv.act, Dv.push, c1, c2, c3]
        rw [he]
        exact Fin.s1 (.inl rfl) rfl rfl ⟨by simp [Dv.actE, c1], Dv.fuse_ok _ hO (by omega) (by omega), bl, bn, bp, bm, vp, _, Hq, Ha, h1, h2, rfl⟩
    · (repeat' (first | (refine W.ow ?_; try intro b_) | fail))
      by_cases c2 : σ.acts.length < 16384
      · (repeat' (first | (refine W.ow ?_; try intro b_) | fail))
        refine SL.buildSlice (n := 3) rfl rfl rfl rfl (by rfl) (by decide) (by rfl) (by decide) (fun b2 => ?_)
        refine SL.append (n := 3) (m := 1) (ys := ac (k, x, n)) Ha rfl rfl rfl rfl rfl h2 (fun w hs => SrcOf.block (hs.at (b := b2)) rfl rfl) rfl rfl (by decide) (by decide) ?_ (fun v2 Ha2 h3 => ?_)
        · rw [hla]; simp [ac]; omega
        have hov : One v2 := h3.one
        (repeat' (first | (refine W.ow ?_; try intro b_) | fail))
        refine Fin.rm b2 ?_
        have hl2 : (σ.acts ++ [(k, x, n)]).flatMap ac = σ.acts.flatMap ac ++ ac (k, x, n) := by simp
        rw [← hl2] at h3
        have c3 : ¬ 0 < σ.fuse := by omega
        have he : σ.act (k, x, n) = ({ σ with fuse := σ.fuse, acts := σ.acts ++ [(k, x, n)] } : Dv) := by simp [Dv.act, Dv.push, c2, c3]
        rw [he]
        exact Fin.perm List.perm_append_comm (Fin.s1 (.inl rfl) rfl rfl ⟨by simp [Dv.actE, c1], ⟨hO.n, hO.ok, by dsimp only; omega, by dsimp only; omega, by simp; omega⟩, bl, bn, bp, bm, vp, v2, Hq, Ha2, h1, h3, by rw [List.append_nil]; rfl⟩)
      · (repeat' (first | (refine W.ow ?_; try intro b_) | fail))
        have c3 : ¬ 0 < σ.fuse := by omega
        have he : σ.act (k, x, n) = ({ σ with fuse := σ.fuse } : Dv) := by simp [Dv.act, Dv.push, c2, c3]
        rw [he]
        exact Fin.s1 (.inl rfl) rfl rfl ⟨by simp [Dv.actE, c1], Dv.fuse_ok _ hO (by omega) (by omega), bl, bn, bp, bm, vp, _, Hq, Ha, h1, h2, rfl⟩
end Go.Proofs.YthnoiniadmmiiaaGreat

namespace Go.Proofs.YthnoiniadmmiiaaGreat
open Go
attribute [local irreducible] SW SL SQ SH SA Pu Fin

set_option maxHeartbeats 1600000 in
theorem rdoo_p {p : Nat} {σ : Dv} {H : Hp} (hD : DevR p σ H) : Tri Tryz.prog 253 [.pointer (some ⟨p, 0, none⟩)] H (fun _ => True) (fun v H' => v = .int .i64 σ.dooE ∧ DevR p σ.doo H') := by
  have hr := rready_p hD 0 0
  rw [Dv.rdy00] at hr
  refine Tri.mk Tryz.func253 rfl Tryz.ntmps253 rfl fun w hw => ?_
  by_cases hd : σ.down = true
  · rw [if_pos hd] at hr
    (repeat' (first | (refine SL.isGd ?_; refine SL.sk rfl rfl ?_) | (refine SL.isCallV ?_; ((refine SL.call _ rfl rfl rfl rfl hr (fun _ _ => trivial) ?_; rintro _ _ ⟨rfl, rfl⟩))) | (refine W.ow ?_; try intro b_)  | refine SL.cmp (p_lss rfl rfl rfl) rfl rfl (fun h_ => ?_) (fun h_ => ?_) | refine SL.cmp (p_leq rfl rfl rfl) rfl rfl (fun h_ => ?_) (fun h_ => ?_) | refine SL.cmp (p_gtr rfl rfl rfl) rfl rfl (fun h_ => ?_) (fun h_ => ?_) | refine SL.cmp (p_geq rfl rfl rfl) rfl rfl (fun h_ => ?_) (fun h_ => ?_) | refine SL.cmp (p_eql rfl rfl rfl) rfl rfl (fun h_ => ?_) (fun h_ => ?_) | refine SL.cmp (p_neq rfl rfl rfl) rfl rfl (fun h_ => ?_) (fun h_ => ?_) | refine SW.cond_b rfl (fun h_ => ?_) (fun h_ => ?_)))
    rw [List.append_nil]
    exact Fin.s1 (.inl rfl) rfl rfl ⟨by simp [Dv.dooE, hd], by simpa [Dv.doo, hd] using hD⟩
  · rw [if_neg hd] at hr
    have ha := ract_p hD (by simpa using hd) 4 0 0
    (repeat' (first | (refine W.ow ?_; try intro b_) | fail))
    refine SL.call _ rfl rfl rfl rfl hr (fun _ _ => trivial) ?_
    rintro _ _ ⟨rfl, rfl⟩
    (repeat' (first | (refine W.ow ?_; try intro b_) | fail))
    refine SL.call _ rfl rfl rfl rfl ha (fun _ _ => trivial) ?_
    rintro _ _ ⟨rfl, hD2⟩
    (repeat' (first | (refine W.ow ?_; try intro b_) | fail))
    rw [List.append_nil]
    exact Fin.s1 (.inl rfl) rfl rfl ⟨by simp [Dv.dooE, hd], by simpa [Dv.doo, hd] using hD2⟩

end Go.Proofs.YthnoiniadmmiiaaGreat

namespace Go.Proofs.YthnoiniadmmiiaaGreat
open Go
attribute [local irreducible] SW SL SQ SH SA Pu Fin

set_option maxHeartbeats 1600000 in
theorem rnew_g (n : Int) (m : Nat) (hnm : n = m ∨ n < 0 ∧ m = 0) (hm : m ≤ 1024) : Tri Tryz.prog 67 [.int .i64 n] [] (fun _ => True) (fun v H' => ∃ p, v = .pointer (some ⟨p, 0, none⟩) ∧ DevR p (Dv.new m) H') := by
  refine Tri.mk Tryz.func67 rfl Tryz.ntmps67 rfl fun w hw => ?_
  rcases hnm with rfl | ⟨hneg, rfl⟩
  · (repeat' (first | (refine W.ow ?_; try intro b_) | fail))
    refine SW.regionB [] 99 (by kernel_rfl) ?_
    (refine SA.take 0 rfl (by kernel_rfl) (fun _ _ _ h => Fin.np h) rfl rfl (p_move rfl rfl) ?_; refine SA.take 1 rfl (by kernel_rfl) (fun _ _ _ h => Fin.np h) rfl rfl (p_mul rfl rfl rfl (w64 (by omega))) ?_; refine SA.take 3 rfl (by kernel_rfl) (fun _ _ _ h => Fin.np h) rfl rfl (p_move rfl rfl) ?_; refine SA.take 4 rfl (by kernel_rfl) (fun _ _ _ h => Fin.np h) rfl rfl (p_mul rfl rfl rfl (w64 (by omega))) ?_; refine SA.take 6 rfl (by kernel_rfl) (fun _ _ _ h => Fin.np h) rfl rfl (p_move rfl rfl) ?_; refine SA.take 7 rfl (by kernel_rfl) (fun _ _ _ h => Fin.np h) rfl rfl (p_mul rfl rfl rfl (w64 (by omega))) ?_; refine SA.take 9 rfl (by kernel_rfl) (fun _ _ _ h => Fin.np h) rfl rfl (p_move rfl rfl) ?_; refine SA.take 10 rfl (by kernel_rfl) (fun _ _ _ h => Fin.np h) rfl rfl (p_mul rfl rfl rfl (w64 (by omega))) ?_)
    refine SA.allocs (fuel := 3) [(8, .int .i64 (64 * m)), (11, .int .i64 (64 * m)), (14, .int .i64 (8 * m)), (17, .int .i64 (8 * m))] 4
      [⟨2, 9, fun b => .slice (some ⟨b, 0, none⟩) (64 * m) (64 * m), cl (zs [.int .u8 0] (64 * m)) 5⟩, ⟨5, 12, fun b => .slice (some ⟨b, 0, none⟩) (64 * m) (64 * m), cl (zs [.int .u8 0] (64 * m)) 5⟩,
       ⟨8, 15, fun b => .slice (some ⟨b, 0, none⟩) (8 * m) (8 * m), cl (zs [.bool false] (8 * m)) 4⟩, ⟨11, 18, fun b => .slice (some ⟨b, 0, none⟩) (8 * m) (8 * m), cl (zs [.bool false] (8 * m)) 4⟩] [] _ _ _ rfl (by simp) (by simp) (by simp) (by simp) (by kernel_rfl) trivial ⟨rfl, rfl, rfl, rfl, trivial⟩ ⟨_, List.Perm.refl _⟩ ?_ ?_
    · intro x hx
      simp only [List.mem_cons, List.not_mem_nil, or_false] at hx
      rcases hx with rfl | rfl | rfl | rfl
      · exact ⟨_, rfl, fun K ρ H hs hk => SL.make (n := 1) (l := 64 * m) (c := 64 * m) rfl rfl rfl hs.1 hs.1 (by omega) (by omega) (by rfl) (by decide) (Nat.le_refl _) (by omega) (by decide) fun b => SL.nil (hk b)⟩
      · exact ⟨_, rfl, fun K ρ H hs hk => SL.make (n := 1) (l := 64 * m) (c := 64 * m) rfl rfl rfl hs.2.1 hs.2.1 (by omega) (by omega) (by rfl) (by decide) (Nat.le_refl _) (by omega) (by decide) fun b => SL.nil (hk b)⟩
      · exact ⟨_, rfl, fun K ρ H hs hk => SL.make (n := 1) (l := 8 * m) (c := 8 * m) rfl rfl rfl hs.2.2.1 hs.2.2.1 (by omega) (by omega) (by rfl) (by decide) (Nat.le_refl _) (by omega) (by decide) fun b => SL.nil (hk b)⟩
      · exact ⟨_, rfl, fun K ρ H hs hk => SL.make (n := 1) (l := 8 * m) (c := 8 * m) rfl rfl rfl hs.2.2.2.1 hs.2.2.2.1 (by omega) (by omega) (by rfl) (by decide) (Nat.le_refl _) (by omega) (by decide) fun b => SL.nil (hk b)⟩
    · intro f ρ' H' _ hf hp
      simp only [List.mem_cons, List.not_mem_nil, or_false, forall_eq_or_imp, forall_eq] at hf
      obtain ⟨f1, f2, f3, f4⟩ := hf
      simp only [List.map_cons, List.map_nil, List.cons_append, List.nil_append] at hp
      refine SA.weaken [(9, .slice (some ⟨f 2, 0, none⟩) (64 * m) (64 * m)), (12, .slice (some ⟨f 5, 0, none⟩) (64 * m) (64 * m)), (15, .slice (some ⟨f 8, 0, none⟩) (8 * m) (8 * m)), (18, .slice (some ⟨f 11, 0, none⟩) (8 * m) (8 * m))] _ ⟨f1, f2, f3, f4, trivial⟩ hp ?_
      refine SA.one 12 rfl (by kernel_rfl) ?_
      (repeat' (first | (refine W.ow ?_; try intro b_) | fail))
      refine Beh.mk ?_
      refine SA.one 13 rfl (by kernel_rfl) ?_
      (repeat' (first | (refine W.ow ?_; try intro b_) | fail))
      refine Beh.mk ?_
      refine SA.one 14 rfl (by kernel_rfl) ?_
      (repeat' (first | (refine W.ow ?_; try intro b_) | fail))
      refine Beh.mk ?_
      refine SA.done (by kernel_rfl) ?_
      (repeat' (first | (refine W.ow ?_; try intro b_) | fail))
      refine Fin.s1 (.inl rfl) rfl rfl ⟨b_, rfl, Dv.new_ok m, f 2, f 5, f 8, f 11, _, _, [], [], Sl.nil _ _, Sl.nil _ _, ?_⟩
      have hz : (Dv.new m).ws.length = 8 * m := by simp [Dv.new]; omega
      have hz2 : (Dv.new m).len = 64 * m := by rw [Dv.len, hz]; omega
      have hws : (Dv.new m).ws = List.replicate (8 * m) Wd.zero := by simp only [Dv.new]; congr 1; omega
      have e8 : ∀ (n : Nat) (v : Value), (List.replicate n (List.replicate 8 v)).flatten = List.replicate (8 * n) v := fun n v => by rw [List.flatten_replicate_replicate]; congr 1; omega
      have h1 : rl (Dv.new m).ws = zs [.int .u8 0] (64 * m) := by
        rw [hws, zs_one, rl, List.flatMap_def, List.map_replicate]
        show (List.replicate (8 * m) (List.replicate 8 (Value.int .u8 0))).flatten = _
        rw [e8]; congr 1; omega
      have h2 : rn (Dv.new m).ws = zs [.int .u8 0] (64 * m) := by
        rw [hws, zs_one, rn, List.flatMap_def, List.map_replicate]
        show (List.replicate (8 * m) (List.replicate 8 (Value.int .u8 0))).flatten = _
        rw [e8]; congr 1; omega
      have h3 : rp (Dv.new m).ws = zs [.bool false] (8 * m) := by rw [hws, zs_one, rp, List.map_replicate]; rfl
      have h4 : rm (Dv.new m).ws = zs [.bool false] (8 * m) := by rw [hws, zs_one, rm, List.map_replicate]; rfl
      rw [hz2, hz, h1, h2, h3, h4]
      rfl
  · obtain ⟨m, hm0⟩ : ∃ m : Nat, m = 0 := ⟨0, rfl⟩
    rw [show (Dv.new ((0 : Nat) : Int)) = Dv.new (m : Int) by rw [hm0]]
    have hm : m ≤ 1024 := by omega
    (repeat' (first | (refine W.ow ?_; try intro b_) | fail))
    refine SW.weaken (r := [(0, .int .i64 m)]) ⟨by rw [hm0]; rfl, trivial⟩ (Part.nil _) ?_
    refine SW.regionB [] 99 (by kernel_rfl) ?_
    (refine SA.take 0 rfl (by kernel_rfl) (fun _ _ _ h => Fin.np h) rfl rfl (p_move rfl rfl) ?_; refine SA.take 1 rfl (by kernel_rfl) (fun _ _ _ h => Fin.np h) rfl rfl (p_mul rfl rfl rfl (w64 (by omega))) ?_; refine SA.take 3 rfl (by kernel_rfl) (fun _ _ _ h => Fin.np h) rfl rfl (p_move rfl rfl) ?_; refine SA.take 4 rfl (by kernel_rfl) (fun _ _ _ h => Fin.np h) rfl rfl (p_mul rfl rfl rfl (w64 (by omega))) ?_; refine SA.take 6 rfl (by kernel_rfl) (fun _ _ _ h => Fin.np h) rfl rfl (p_move rfl rfl) ?_; refine SA.take 7 rfl (by kernel_rfl) (fun _ _ _ h => Fin.np h) rfl rfl (p_mul rfl rfl rfl (w64 (by omega))) ?_; refine SA.take 9 rfl (by kernel_rfl) (fun _ _ _ h => Fin.np h) rfl rfl (p_move rfl rfl) ?_; refine SA.take 10 rfl (by kernel_rfl) (fun _ _ _ h => Fin.np h) rfl rfl (p_mul rfl rfl rfl (w64 (by omega))) ?_)
    refine SA.allocs (fuel := 3) [(8, .int .i64 (64 * m)), (11, .int .i64 (64 * m)), (14, .int .i64 (8 * m)), (17, .int .i64 (8 * m))] 4
      [⟨2, 9, fun b => .slice (some ⟨b, 0, none⟩) (64 * m) (64 * m), cl (zs [.int .u8 0] (64 * m)) 5⟩, ⟨5, 12, fun b => .slice (some ⟨b, 0, none⟩) (64 * m) (64 * m), cl (zs [.int .u8 0] (64 * m)) 5⟩,
       ⟨8, 15, fun b => .slice (some ⟨b, 0, none⟩) (8 * m) (8 * m), cl (zs [.bool false] (8 * m)) 4⟩, ⟨11, 18, fun b => .slice (some ⟨b, 0, none⟩) (8 * m) (8 * m), cl (zs [.bool false] (8 * m)) 4⟩] [] _ _ _ rfl (by simp) (by simp) (by simp) (by simp) (by kernel_rfl) trivial ⟨rfl, rfl, rfl, rfl, trivial⟩ ⟨_, List.Perm.refl _⟩ ?_ ?_
    · intro x hx
      simp only [List.mem_cons, List.not_mem_nil, or_false] at hx
      rcases hx with rfl | rfl | rfl | rfl
      · exact ⟨_, rfl, fun K ρ H hs hk => SL.make (n := 1) (l := 64 * m) (c := 64 * m) rfl rfl rfl hs.1 hs.1 (by omega) (by omega) (by rfl) (by decide) (Nat.le_refl _) (by omega) (by decide) fun b => SL.nil (hk b)⟩
      · exact ⟨_, rfl, fun K ρ H hs hk => SL.make (n := 1) (l := 64 * m) (c := 64 * m) rfl rfl rfl hs.2.1 hs.2.1 (by omega) (by omega) (by rfl) (by decide) (Nat.le_refl _) (by omega) (by decide) fun b => SL.nil (hk b)⟩
      · exact ⟨_, rfl, fun K ρ H hs hk => SL.make (n := 1) (l := 8 * m) (c := 8 * m) rfl rfl rfl hs.2.2.1 hs.2.2.1 (by omega) (by omega) (by rfl) (by decide) (Nat.le_refl _) (by omega) (by decide) fun b => SL.nil (hk b)⟩
      · exact ⟨_, rfl, fun K ρ H hs hk => SL.make (n := 1) (l := 8 * m) (c := 8 * m) rfl rfl rfl hs.2.2.2.1 hs.2.2.2.1 (by omega) (by omega) (by rfl) (by decide) (Nat.le_refl _) (by omega) (by decide) fun b => SL.nil (hk b)⟩
    · intro f ρ' H' _ hf hp
      simp only [List.mem_cons, List.not_mem_nil, or_false, forall_eq_or_imp, forall_eq] at hf
      obtain ⟨f1, f2, f3, f4⟩ := hf
      simp only [List.map_cons, List.map_nil, List.cons_append, List.nil_append] at hp
      refine SA.weaken [(9, .slice (some ⟨f 2, 0, none⟩) (64 * m) (64 * m)), (12, .slice (some ⟨f 5, 0, none⟩) (64 * m) (64 * m)), (15, .slice (some ⟨f 8, 0, none⟩) (8 * m) (8 * m)), (18, .slice (some ⟨f 11, 0, none⟩) (8 * m) (8 * m))] _ ⟨f1, f2, f3, f4, trivial⟩ hp ?_
      refine SA.one 12 rfl (by kernel_rfl) ?_
      (repeat' (first | (refine W.ow ?_; try intro b_) | fail))
      refine Beh.mk ?_
      refine SA.one 13 rfl (by kernel_rfl) ?_
      (repeat' (first | (refine W.ow ?_; try intro b_) | fail))
      refine Beh.mk ?_
      refine SA.one 14 rfl (by kernel_rfl) ?_
      (repeat' (first | (refine W.ow ?_; try intro b_) | fail))
      refine Beh.mk ?_
      refine SA.done (by kernel_rfl) ?_
      (repeat' (first | (refine W.ow ?_; try intro b_) | fail))
      refine Fin.s1 (.inl rfl) rfl rfl ⟨b_, rfl, Dv.new_ok m, f 2, f 5, f 8, f 11, _, _, [], [], Sl.nil _ _, Sl.nil _ _, ?_⟩
      have hz : (Dv.new m).ws.length = 8 * m := by simp [Dv.new]; omega
      have hz2 : (Dv.new m).len = 64 * m := by rw [Dv.len, hz]; omega
      have hws : (Dv.new m).ws = List.replicate (8 * m) Wd.zero := by simp only [Dv.new]; congr 1; omega
      have e8 : ∀ (n : Nat) (v : Value), (List.replicate n (List.replicate 8 v)).flatten = List.replicate (8 * n) v := fun n v => by rw [List.flatten_replicate_replicate]; congr 1; omega
      have h1 : rl (Dv.new m).ws = zs [.int .u8 0] (64 * m) := by
        rw [hws, zs_one, rl, List.flatMap_def, List.map_replicate]
        show (List.replicate (8 * m) (List.replicate 8 (Value.int .u8 0))).flatten = _
        rw [e8]; congr 1; omega
      have h2 : rn (Dv.new m).ws = zs [.int .u8 0] (64 * m) := by
        rw [hws, zs_one, rn, List.flatMap_def, List.map_replicate]
        show (List.replicate (8 * m) (List.replicate 8 (Value.int .u8 0))).flatten = _
        rw [e8]; congr 1; omega
      have h3 : rp (Dv.new m).ws = zs [.bool false] (8 * m) := by rw [hws, zs_one, rp, List.map_replicate]; rfl
      have h4 : rm (Dv.new m).ws = zs [.bool false] (8 * m) := by rw [hws, zs_one, rm, List.map_replicate]; rfl
      rw [hz2, hz, h1, h2, h3, h4]
      rfl
theorem rnew_p (m : Nat) (hm : m ≤ 1024) : Tri Tryz.prog 67 [.int .i64 m] [] (fun _ => True) (fun v H' => ∃ p, v = .pointer (some ⟨p, 0, none⟩) ∧ DevR p (Dv.new m) H') := rnew_g m m (.inl rfl) hm
end Go.Proofs.YthnoiniadmmiiaaGreat
/- The document's own device: Crash, of a whole device. -/
namespace Go.Proofs.YthnoiniadmmiiaaGreat
open Go
attribute [local irreducible] SW SL SQ SH SA Pu Fin

end Go.Proofs.YthnoiniadmmiiaaGreat
