/- Of what is not there, or may not be, and without power, nothing is looked through. -/
import Derived.Test.YthnoiniadmmiiaaGreatPa36
import Derived.Test.YthnoiniadmmiiaaGreatPa44
set_option linter.unusedVariables false
set_option linter.unusedSimpArgs false
set_option linter.unusedSectionVars false
namespace Go.Proofs.YthnoiniadmmiiaaGreat
open Go
attribute [local irreducible] SW SL SQ SH SA SS Pu Fin CutF HandF

abbrev base0 : Value := .agg #[.pointer none, .pointer none, .pointer none, .pointer none, .int .i64 0, .int .i64 0]
theorem aumay_nil : Tri Tryz.prog 128 [base0] [] (fun _ => True) (fun v H => v = .int .i64 2 ∧ H = []) := by
  refine Tri.mk Tryz.func128 rfl Tryz.ntmps128 rfl fun w hw => ?_
  (repeat' (first | (refine W.go ?_; try intro b_) | fail))
  refine Fin.to [] ?_
  exact F.f1 ⟨rfl, rfl⟩
theorem auNew_nil : Tri Tryz.prog 55 [base0] [] (fun _ => True) (fun v H => v = .tuple #[.pointer none, .int .i64 2] ∧ H = []) := by
  refine Tri.mk Tryz.func55 rfl Tryz.ntmps55 rfl fun w hw => ?_
  (repeat' (first | (refine W.go ?_; try intro b_) | fail))
  refine W.call aumay_nil ?_
  rintro _ _ ⟨rfl, rfl⟩
  (repeat' (first | (refine W.go ?_; try intro b_) | fail))
  refine Fin.to [] ?_
  exact F.f2 ⟨rfl, rfl⟩
theorem auStep_nil (n : Int) : Tri Tryz.prog 53 [.pointer none, .int .i64 n] [] (fun _ => True) (fun v H => v = .tuple #[.int .i64 0, .int .i64 2] ∧ H = []) := by
  refine Tri.mk Tryz.func53 rfl Tryz.ntmps53 rfl fun w hw => ?_
  (repeat' (first | (refine W.go ?_; try intro b_) | fail))
  refine Fin.to [] ?_
  exact F.f2 ⟨rfl, rfl⟩
theorem auFound_nil : Tri Tryz.prog 54 [.pointer none] [] (fun _ => True) (fun v H => v = .tuple #[.int .i64 0, .int .i64 2] ∧ H = []) := by
  refine Tri.mk Tryz.func54 rfl Tryz.ntmps54 rfl fun w hw => ?_
  (repeat' (first | (refine W.go ?_; try intro b_) | fail))
  refine Fin.to [] ?_
  exact F.f2 ⟨rfl, rfl⟩
theorem auChanged_nil : Tri Tryz.prog 56 [.pointer none, base0] [] (fun _ => True) (fun v H => v = .tuple #[.slice none 0 0, .int .i64 2] ∧ H = []) := by
  refine Tri.mk Tryz.func56 rfl Tryz.ntmps56 rfl fun w hw => ?_
  (repeat' (first | (refine W.go ?_; try intro b_) | fail))
  refine Fin.to [] ?_
  exact F.f2 ⟨rfl, rfl⟩
theorem small32_p : Tri Tryz.prog 57 [] [] (fun _ => True) (fun v H => v = geoV 3 4 ∧ H = []) := by
  refine Tri.mk Tryz.func57 rfl Tryz.ntmps57 rfl fun w hw => ?_
  (repeat' (first | (refine W.go ?_; try intro b_) | fail))
  exact F.c0 (geoL 3 4) ⟨rfl, rfl⟩
theorem auFoundW_p {ap d tr s bk tb p t : Nat} (h : Gm.Ok p t) {lv : Value} {β : Bk} {r : Rg} (hr : r.Ok) {Hk Hb : Hp} (hK : BookP bk tb β Hk) {bss : List (List UInt8)} (hB : Bls lv bss Hb) (hl : bss.length = Gm.total p t) (hb : ∀ b ∈ bss.take (Gm.leaves p), b.length = 256) (hf : fitsB p t r.root (bss.take (Gm.leaves p)) = true) :
    Tri Tryz.prog 54 [ptv ap] ((ap, cl (audC d tr s bk p t lv) 224) :: (tr, cl (trc d r) 245) :: (Hk ++ Hb)) (fun _ => True) (fun v H => v = .tuple #[.int .i64 1, .int .i64 0] ∧ H = []) := by
  obtain ⟨vs, Hv, Ht, hS, hR, rfl⟩ := hB
  refine Tri.mk Tryz.func54 rfl Tryz.ntmps54 rfl fun w hw => ?_
  have hvl := hR.1
  have hlv := gleaves_p h
  have hll := Gm.leaves_le h
  have hlt : Gm.leaves p ≤ Gm.total p t := by unfold Gm.total; omega
  have hl1 : 1 ≤ Gm.leaves p := by unfold Gm.leaves; omega
  have hS0 := hS
  rcases hS with ⟨-, hz, -⟩ | ⟨bb, len, cap, junk, rfl, hxl, hj, hlc, rfl⟩
  · rw [hz] at hvl; simp at hvl; omega
  obtain rfl : len = bss.length := by omega
  have hle := auLeft_p (ap := ap) (d := d) (tr := tr) (s := s) (bk := bk) h (a := some ⟨bb, 0, none⟩) (cap := cap) (len := bss.length) (by omega)
  rw [show Gm.total p t - bss.length = 0 by omega] at hle
  have hRp := hR.part 0 (Gm.leaves p)
  rw [List.drop_zero, List.drop_zero] at hRp
  have hfi := fun v => auFits_p (ap := ap) (d := d) (tr := tr) (s := s) h (lv := .slice (some ⟨bb, 0, none⟩) bss.length cap) ⟨rfl⟩ hr hK hRp v (by rw [List.length_take]; omega) (by rw [List.length_take]; omega) hb
  rw [hf] at hfi
  generalize Gm.leaves p = n at *
  (repeat' (first | (refine W.go ?_; try intro b_) | fail))
  refine W.call hle ?_
  rintro _ _ ⟨rfl, rfl⟩
  (repeat' (first | (refine W.go ?_; try intro b_) | fail))
  refine W.call hlv ?_
  rintro _ _ ⟨rfl, rfl⟩
  (repeat' (first | (refine W.go ?_; try intro b_) | fail))
  (refine SW.regionS [] ?_ (by kernel_rfl); refine SS.tw 0 rfl (p_move rfl rfl) ?_; refine SS.tw 1 rfl (p_nil rfl rfl) ?_; refine SS.tw 2 rfl (p_fieldAddr rfl rfl OfN.ok) ?_; (first | refine SS.ls 3 [] rfl ?_ | refine SS.tw 3 rfl (p_load_sR rfl rfl (by assumption) (by assumption) (by assumption)) ?_); refine SS.tw 4 rfl (p_move rfl rfl) ?_; refine SS.tw 5 rfl (p_sl01 rfl rfl rfl (by omega)) ?_; refine SS.tw 6 rfl (p_move rfl rfl) ?_; refine SS.tw 7 rfl (p_nil rfl rfl) ?_; refine SS.tw 8 rfl (p_fieldAddr rfl rfl OfN.ok) ?_; (first | refine SS.ls 9 [] rfl ?_ | refine SS.tw 9 rfl (p_load_sR rfl rfl (by assumption) (by assumption) (by assumption)) ?_); refine SS.tw 10 rfl (p_move rfl rfl) ?_; refine SS.tw 11 rfl (p_slF rfl rfl rfl (by omega) (by omega)) ?_; refine SS.tw 12 rfl (p_assign rfl rfl) ?_; refine SS.tw 13 rfl (p_assign rfl rfl) ?_; refine SS.done ?_ (by kernel_rfl))
  (repeat' (first | (refine W.go ?_; try intro b_) | fail))
  refine W.call (hfi _) ?_ (hpre := fun w2 hs => by
    have := (Rd.own (Hc := (ap, cl (audC d tr s bk p t (.slice (some ⟨bb, 0, none⟩) bss.length cap)) 224) :: (tr, cl (trc d r) 245) :: (Hk ++ Ht)) hS0 hs inferInstance).cutN cap 0 n cap (by omega) (by omega) (by omega) (by omega)
    rw [sadr_0 _ _ _ (by rintro x hx; cases hx; rfl), Nat.sub_zero, Nat.zero_mul, List.drop_zero, Nat.mul_one] at this
    exact this)
  rintro _ _ ⟨rfl, Hk2, hK2, rfl⟩
  (repeat' (first | (refine W.go ?_; try intro b_) | fail))
  refine Fin.to [] ?_
  exact F.f2 ⟨rfl, rfl⟩
/-- A new pair, formatted: what it is then. -/
theorem fmt_new {p t : Nat} (h : Gm.Ok p t) {E : List UInt8 → List UInt8} (hE : ∀ x, (E x).length = 16) {cnt : Int} (h0 : 0 ≤ cnt) (h1 : cnt ≤ 18446744073709551613) (ht : 4 * Gm.total p t ≤ 1024) :
    ∃ σ', fmtS p t (ctrX E) (Dv.new (4 * Gm.total p t : Nat), rg0 cnt) = (0, (σ', { c := cnt + 2, root := rootB (blanks p t (ctrX E) (UInt64.ofNat (cnt + 2).toNat)) })) ∧
      σ'.Sta (8 * (4 * Gm.total p t)) ((blanks p t (ctrX E) (UInt64.ofNat (cnt + 2).toNat)).flatten ++ List.replicate (256 * (1 + t)) 0) :=
  fmt_sta (new_sta _ ht) (by unfold Gm.total; omega) h1 (blanks_256 hE _) (blanks_len _ _ _ _)
theorem ok34 : Gm.Ok 3 4 := ⟨by decide, by decide, by decide, by decide⟩
/-- The key of an example. -/
abbrev key1 : List UInt8 := 1 :: List.replicate 15 0
theorem aes_eq (k : List UInt8) (hk : k.length = 16) : Rg.enc (Rg.sched k) 10 = Aes.enc (Aes.sched k) 10 := Ae.encs k hk 10 (by decide)
theorem rsched_ok (k : List UInt8) (hk : k.length = 16) : KeyOk 10 (Rg.sched k) := by rw [Ae.sched_eq k hk]; exact sched_ok k hk
theorem Dv.crash_wl (σ : Dv) (q : List UInt8) : (σ.crash q).ws.length = σ.ws.length := by
  unfold Dv.crash
  cases σ.down
  · exact crashL_len q 0 σ.ws
  · rfl
theorem awake32_p : Tri Tryz.prog 59 [] [] (fun _ => True) (fun v H => v = .bool true ∧ H = []) := by
  refine Tri.mk Tryz.func59 rfl Tryz.ntmps59 rfl fun w hw => ?_
  have hk : key1.length = 16 := rfl
  have hbk : bfill (fun i => some (i * 1, 1)) (List.replicate 16 (.int .u8 0)) [(0, .int .u8 1)] = some (cbs key1) := rfl
  obtain ⟨σ', hF, hSta⟩ := fmt_new ok34 (E := Aes.enc (Aes.sched key1) 10) (fun x => Aes.enc_len ..) (cnt := 0) (by decide) (by decide) (by decide)
  have hB := blanks_256 (p := 3) (t := 4) (E := Aes.enc (Aes.sched key1) 10) (fun x => Aes.enc_len ..) (UInt64.ofNat ((0 : Int) + 2).toNat)
  have hBl := blanks_len 3 4 (ctrX (Aes.enc (Aes.sched key1) 10)) (UInt64.ofNat ((0 : Int) + 2).toNat)
  have hB0 : (blanks 3 4 (ctrX (Aes.enc (Aes.sched key1) 10)) (UInt64.ofNat ((0 : Int) + 2).toNat)).getD 0 [] = superB 3 4 := rfl
  have hX := aes_eq key1 hk
  have hK := sched_ok key1 hk
  have hK' := rsched_ok key1 hk
  have hbeg := begin2_p ok34 key1 hk (cnt := 0) (by decide) (by decide)
  have hpf := fun pp H hP => pFormat_p (pp := pp) (H := H) (o := none) (N := 0) (sr := Sr.new) (β := Bk.new) (σ := Dv.new (4 * Gm.total 3 4 : Nat)) (r := rg0 0) ok34 hP (by have := (new_sta (4 * Gm.total 3 4) (by decide)).len; omega) (rg0_ok (by decide) (by decide)) hK hK' (by omega) hX
  rw [hF] at hpf
  generalize fmtSr 3 (Dv.new (4 * Gm.total 3 4 : Nat)) (rg0 0) Sr.new = sr at *
  generalize fmtK 3 4 10 (Aes.sched key1) (Dv.new (4 * Gm.total 3 4 : Nat)) (rg0 0) Bk.new = β at *
  generalize blanks 3 4 (ctrX (Aes.enc (Aes.sched key1) 10)) (UInt64.ofNat ((0 : Int) + 2).toNat) = B at *
  generalize Aes.sched key1 = ws at *
  generalize Rg.sched key1 = ws' at *
  generalize key1 = k1 at *
  clear hF hX hK hK'
  have hrl : (rootB B).length = 32 := Sha.sum_len _
  have hlen : σ'.len = 256 * Gm.total 3 4 := by rw [hSta.len]; rfl
  have hbk2 := hSta.blks hB (by rw [hBl]; decide)
  have hst : stepA (Gm.total 3 4) σ' [] 1000 = (0, 0, σ'.blks 0 12) := by
    unfold stepA
    rw [if_pos (.inr hSta.l.d)]
    rfl
  have hfit : fitsB 3 4 (rootB B) B = true := by unfold fitsB; rw [hB0]; simp
  have htk : (σ'.blks 0 12).take (Gm.leaves 3) = B := by
    rw [← hbk2, hBl]
    rfl
  (repeat' (first | (refine W.go ?_; try intro b_) | fail))
  refine W.call small32_p ?_
  rintro _ _ ⟨rfl, rfl⟩
  (repeat' (first | (refine W.go ?_; try intro b_) | fail))
  refine W.call hbeg ?_
  rintro _ H1 ⟨pp, rfl, hP⟩
  (repeat' (first | (refine W.go ?_; try intro b_) | fail))
  refine W.call (hpf pp H1 hP) ?_
  rintro _ H2 ⟨rfl, hP2⟩
  clear hpf hbeg hP
  dsimp only at hP2
  obtain ⟨i, sv, rv, Hd, Hs, Hk, HD, HR, HS, HT, hD, hS, hBk, hDR, hSR, hO, hOR, rfl⟩ := hP2
  have o1 := hO.one
  have o2 := hOR.one
  have hnew := auNew_p (tr := i.tr) (s := i.s) (bk := i.bk) ok34 hD hlen
  have hstp := fun ap => auStep_p (ap := ap) (tr := i.tr) (s := i.s) (bk := i.bk) (lv := .slice none 0 0) (bss := []) (Hb := []) ok34 hD hlen ⟨[], [], [], Sl.nil _ _, RB.nil _, rfl⟩ (Nat.zero_le _) 1000 (by decide)
  rw [hst] at hstp
  dsimp only at hstp
  (repeat' (first | (refine W.go ?_; try intro b_) | fail))
  refine W.call hnew ?_
  rintro _ _ ⟨ap, rfl, rfl⟩
  (repeat' (first | (refine W.go ?_; try intro b_) | fail))
  refine W.call (hstp ap) ?_
  rintro _ _ ⟨rfl, lv, Hb, hBl2, rfl⟩
  have o3 := hBl2.one
  have hfo := auFoundW_p (ap := ap) (d := i.d) (tr := i.tr) (s := i.s) ok34 (r := { c := 0 + 2, root := rootB B }) ⟨hrl, by show (0 : Int) ≤ 0 + 2; decide, by show (0 : Int) + 2 ≤ _; decide⟩ hBk hBl2 rfl (by rw [htk]; exact hB) (by rw [htk]; exact hfit)
  (repeat' (first | (refine W.go ?_; try intro b_) | fail))
  refine W.call hfo ?_
  rintro _ _ ⟨rfl, rfl⟩
  (repeat' (first | (refine W.go ?_; try intro b_) | fail))
  refine Fin.to [] ?_
  exact F.f1 ⟨rfl, rfl⟩
theorem auditNil_law (n : Int) : Tri Tryz.prog 14 [.int .i64 n] [] (fun _ => True) (fun v H => v = .bool true) := by
  refine Tri.mk Tryz.func14 rfl Tryz.ntmps14 rfl fun w hw => ?_
  have hk : (List.replicate 16 (0 : UInt8)).length = 16 := rfl
  have hbeg := begin2_p ok34 (List.replicate 16 0) hk (cnt := 0) (by decide) (by decide)
  have hlen : ((Dv.new (4 * Gm.total 3 4 : Nat)).len : Int) = 256 * Gm.total 3 4 := by have := (new_sta (4 * Gm.total 3 4) (by decide)).len; omega
  have hdn : ((Dv.new (4 * Gm.total 3 4 : Nat)).crash []).down = true := rfl
  have hwl := (Dv.new (4 * Gm.total 3 4 : Nat)).crash_wl []
  generalize Dv.new (4 * Gm.total 3 4 : Nat) = σ0 at *
  have hst : stepA (Gm.total 3 4) (σ0.crash []) [] 3 = (0, 8, []) := by
    unfold stepA
    rw [if_neg (by rw [hdn]; decide)]
  (repeat' (first | (refine W.go ?_; try intro b_) | fail))
  refine W.call (auStep_nil n) ?_
  rintro _ _ ⟨rfl, rfl⟩
  (repeat' (first | (refine W.go ?_; try intro b_) | fail))
  refine W.call auFound_nil ?_
  rintro _ _ ⟨rfl, rfl⟩
  (repeat' (first | (refine W.go ?_; try intro b_) | fail))
  refine W.call auNew_nil ?_
  rintro _ _ ⟨rfl, rfl⟩
  (repeat' (first | (refine W.go ?_; try intro b_) | fail))
  refine W.call auChanged_nil ?_
  rintro _ _ ⟨rfl, rfl⟩
  (repeat' (first | (refine W.go ?_; try intro b_) | fail))
  refine W.call small32_p ?_
  rintro _ _ ⟨rfl, rfl⟩
  (repeat' (first | (refine W.go ?_; try intro b_) | fail))
  refine W.call hbeg ?_
  rintro _ H1 ⟨pp, rfl, hP⟩
  clear hbeg
  obtain ⟨i, sv, rv, Hd, Hs, Hk, HD, HR, HS, HT, hD, hS, hBk, hDR, hSR, hO, hOR, rfl⟩ := hP
  have o1 := hO.one
  have o2 := hOR.one
  have hnew := auNew_p (tr := i.tr) (s := i.s) (bk := i.bk) ok34 hD (by omega)
  have hcr := crash_p hD (.slice none 0 0) []
  (repeat' (first | (refine W.go ?_; try intro b_) | fail))
  refine W.call hnew ?_
  rintro _ _ ⟨ap, rfl, rfl⟩
  (repeat' (first | (refine W.go ?_; try intro b_) | fail))
  refine W.call hcr ?_ (hpre := fun w2 hs => Rd.nil ..)
  rintro _ Hd2 ⟨rfl, hD2⟩
  have hstp := auStep_p (ap := ap) (tr := i.tr) (s := i.s) (bk := i.bk) (lv := .slice none 0 0) (bss := []) (Hb := []) ok34 hD2 (by unfold Dv.len at *; rw [hwl]; omega) ⟨[], [], [], Sl.nil _ _, RB.nil _, rfl⟩ (Nat.zero_le _) 3 (by decide)
  rw [hst] at hstp
  dsimp only at hstp
  (repeat' (first | (refine W.go ?_; try intro b_) | fail))
  refine W.call hstp ?_
  rintro _ _ ⟨rfl, lv, Hb, hBl2, rfl⟩
  (repeat' (first | (refine W.go ?_; try intro b_) | fail))
  refine W.call awake32_p ?_
  rintro _ _ ⟨rfl, rfl⟩
  (repeat' (first | (refine W.go ?_; try intro b_) | fail))
  refine Fin.to [] ?_
  exact F.f1 rfl
end Go.Proofs.YthnoiniadmmiiaaGreat
