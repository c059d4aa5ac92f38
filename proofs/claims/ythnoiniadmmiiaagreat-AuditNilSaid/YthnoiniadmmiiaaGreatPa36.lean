/- A look that is under way: its steps. -/
import Derived.Test.YthnoiniadmmiiaaGreatPa34
import Derived.Test.YthnoiniadmmiiaaGreatPa35
set_option linter.unusedVariables false
set_option linter.unusedSimpArgs false
set_option linter.unusedSectionVars false
namespace Go.Proofs.YthnoiniadmmiiaaGreat
open Go
section
variable {P : Program} {C : Ctx} {ρ : Fr} {H : Hp} {t t' len : Nat} {x y : Operand} {a b : List UInt8} {o : Oper}
theorem p_eqA_f (ho : o.op = .binOp .eql t x y t') (hx : ev ρ x = some (.agg (cbs a).toArray)) (hy : ev ρ y = some (.agg (cbs b).toArray)) [h : EqB P t len] (h1 : a.length = len) (h2 : b.length = len) (he : ¬ a = b) : Pu P C ρ H o (.bool false) := by
  have := p_eqA (P := P) (C := C) (H := H) ho hx hy h1 h2
  rwa [decide_eq_false he] at this
end
attribute [local irreducible] SW SL SQ SH SA SS Pu Fin CutF HandF

/-- A look: its base, what was loaded. -/
abbrev audC (d tr s bk p t : Nat) (lv : Value) : List Value := [ptv d, ptv tr, ptv s, ptv bk, .int .i64 (p : Int), .int .i64 (t : Int), lv]
/-- So many blocks more: how many are left, whether it went, what was loaded. -/
def stepA (m : Nat) (σ : Dv) (l : List (List UInt8)) (n : Int) : Int × Int × List (List UInt8) :=
  let q := min n.toNat (m - l.length)
  if q = 0 ∨ σ.down = false then (((m - l.length - q : Nat) : Int), 0, l ++ σ.blks l.length q) else (0, 8, l)
theorem Dv.blks_len (σ : Dv) (a n : Nat) : (σ.blks a n).length = n := by unfold Dv.blks; simp
theorem Dv.blks_succ (σ : Dv) (a n : Nat) : σ.blks a (n + 1) = σ.blks a n ++ [σ.blk (a + n)] := by unfold Dv.blks; rw [List.range_succ, List.map_append]; rfl
theorem aumay_p {d tr s bk p t : Nat} (h : Gm.Ok p t) {σ : Dv} {Hd : Hp} (hD : DevP d σ Hd) (hlen : σ.len = 256 * Gm.total p t) :
    Tri Tryz.prog 128 [baseV d tr s bk p t] Hd (fun _ => True) (fun v H => v = .int .i64 0 ∧ H = Hd) := by
  refine Tri.mk Tryz.func128 rfl Tryz.ntmps128 rfl fun w hw => ?_
  have hck := gcheck_p h
  have hln := len_p hD
  have htt := gtotal_p h
  have htl := Gm.total_le2 h
  have hby := gbytes_p (k := Gm.total p t) (by omega)
  rw [hlen] at hln
  generalize Gm.total p t = m at *
  (repeat' (first | (refine W.go ?_; try intro b_) | fail))
  (refine SW.regionS [2, 10, 11] ?_ (by kernel_rfl); refine SS.tw 0 rfl (p_fieldAddr rfl rfl OfN.ok) ?_; (first | refine SS.lw 1 [2, 4, 10, 11] rfl ?_ | refine SS.la 1 [2, 4, 10, 11] rfl ?_ | refine SS.tw 1 rfl (p_load_aR rfl rfl (by assumption) (by assumption) (by assumption) (by assumption)) ?_); refine SS.effB 2 ?_ rfl (by kernel_rfl))
  refine W.call hck ?_
  rintro _ _ ⟨rfl, rfl⟩
  (refine SL.nilB ?_; (first | refine SS.tw 3 rfl (Pu.t (p_cmp rfl rfl rfl rfl) (by dsimp only [cmpP]; first | done | omega)) ?_; refine SS.tw 4 rfl (p_move rfl rfl) ?_; (first | refine SS.sk 5 rfl ?_ | refine SS.tw 5 rfl (p_fieldAddr rfl rfl OfN.ok) ?_); (first | refine SS.sk 6 rfl ?_ | refine SS.ls 6 [7, 10, 11] rfl ?_ | refine SS.tw 6 rfl (p_load_sR rfl rfl (by assumption) (by assumption) (by assumption)) ?_); (first | refine SS.sk 8 rfl ?_ | refine SS.tw 8 rfl (p_fieldAddr rfl rfl OfN.ok) ?_); (first | refine SS.sk 9 rfl ?_ | refine SS.lw 9 [10, 11] rfl ?_ | refine SS.la 9 [10, 11] rfl ?_ | refine SS.tw 9 rfl (p_load_aR rfl rfl (by assumption) (by assumption) (by assumption) (by assumption)) ?_); (first | refine SS.sk 7 rfl ?_; (first | refine SS.sk 10 rfl ?_; (first | refine SS.sk 11 rfl ?_; (first | refine SS.sk 12 rfl ?_ | refine SS.tw 12 rfl (Pu.t (p_cmp rfl rfl rfl rfl) (by dsimp only [cmpP]; first | done | omega)) ?_ | refine SS.tw 12 rfl (Pu.f (p_cmp rfl rfl rfl rfl) (by dsimp only [cmpP]; first | done | omega)) ?_ | refine SS.tw 12 rfl (p_cmp rfl rfl rfl rfl) ?_ | refine SS.tw 12 rfl (p_neb rfl rfl rfl) ?_); (first | refine SS.tw 13 rfl (p_pick_t rfl rfl rfl) ?_ | refine SS.tw 13 rfl (p_pick_f rfl rfl rfl) ?_); refine SS.tw 14 rfl (p_assign rfl rfl) ?_; refine SS.done ?_ (by kernel_rfl) | refine SS.effB 11 ?_ rfl (by kernel_rfl)) | refine SS.effB 10 ?_ rfl (by kernel_rfl)) | refine SS.effK 7 ?_ rfl (by kernel_rfl)) | refine SS.tw 3 rfl (Pu.f (p_cmp rfl rfl rfl rfl) (by dsimp only [cmpP]; first | done | omega)) ?_; refine SS.tw 4 rfl (p_move rfl rfl) ?_; (first | refine SS.sk 5 rfl ?_ | refine SS.tw 5 rfl (p_fieldAddr rfl rfl OfN.ok) ?_); (first | refine SS.sk 6 rfl ?_ | refine SS.ls 6 [7, 10, 11] rfl ?_ | refine SS.tw 6 rfl (p_load_sR rfl rfl (by assumption) (by assumption) (by assumption)) ?_); (first | refine SS.sk 8 rfl ?_ | refine SS.tw 8 rfl (p_fieldAddr rfl rfl OfN.ok) ?_); (first | refine SS.sk 9 rfl ?_ | refine SS.lw 9 [10, 11] rfl ?_ | refine SS.la 9 [10, 11] rfl ?_ | refine SS.tw 9 rfl (p_load_aR rfl rfl (by assumption) (by assumption) (by assumption) (by assumption)) ?_); (first | refine SS.sk 7 rfl ?_; (first | refine SS.sk 10 rfl ?_; (first | refine SS.sk 11 rfl ?_; (first | refine SS.sk 12 rfl ?_ | refine SS.tw 12 rfl (Pu.t (p_cmp rfl rfl rfl rfl) (by dsimp only [cmpP]; first | done | omega)) ?_ | refine SS.tw 12 rfl (Pu.f (p_cmp rfl rfl rfl rfl) (by dsimp only [cmpP]; first | done | omega)) ?_ | refine SS.tw 12 rfl (p_cmp rfl rfl rfl rfl) ?_ | refine SS.tw 12 rfl (p_neb rfl rfl rfl) ?_); (first | refine SS.tw 13 rfl (p_pick_t rfl rfl rfl) ?_ | refine SS.tw 13 rfl (p_pick_f rfl rfl rfl) ?_); refine SS.tw 14 rfl (p_assign rfl rfl) ?_; refine SS.done ?_ (by kernel_rfl) | refine SS.effB 11 ?_ rfl (by kernel_rfl)) | refine SS.effB 10 ?_ rfl (by kernel_rfl)) | refine SS.effK 7 ?_ rfl (by kernel_rfl)) | (refine SS.cs 3 rfl (p_cmp rfl rfl rfl rfl) (fun h_ => ?_) (fun h_ => ?_) <;> dsimp only [cmpP] at h_ <;> (refine SS.tw 4 rfl (p_move rfl rfl) ?_; (first | refine SS.sk 5 rfl ?_ | refine SS.tw 5 rfl (p_fieldAddr rfl rfl OfN.ok) ?_); (first | refine SS.sk 6 rfl ?_ | refine SS.ls 6 [7, 10, 11] rfl ?_ | refine SS.tw 6 rfl (p_load_sR rfl rfl (by assumption) (by assumption) (by assumption)) ?_); (first | refine SS.sk 8 rfl ?_ | refine SS.tw 8 rfl (p_fieldAddr rfl rfl OfN.ok) ?_); (first | refine SS.sk 9 rfl ?_ | refine SS.lw 9 [10, 11] rfl ?_ | refine SS.la 9 [10, 11] rfl ?_ | refine SS.tw 9 rfl (p_load_aR rfl rfl (by assumption) (by assumption) (by assumption) (by assumption)) ?_); (first | refine SS.sk 7 rfl ?_; (first | refine SS.sk 10 rfl ?_; (first | refine SS.sk 11 rfl ?_; (first | refine SS.sk 12 rfl ?_ | refine SS.tw 12 rfl (Pu.t (p_cmp rfl rfl rfl rfl) (by dsimp only [cmpP]; first | done | omega)) ?_ | refine SS.tw 12 rfl (Pu.f (p_cmp rfl rfl rfl rfl) (by dsimp only [cmpP]; first | done | omega)) ?_ | refine SS.tw 12 rfl (p_cmp rfl rfl rfl rfl) ?_ | refine SS.tw 12 rfl (p_neb rfl rfl rfl) ?_); (first | refine SS.tw 13 rfl (p_pick_t rfl rfl rfl) ?_ | refine SS.tw 13 rfl (p_pick_f rfl rfl rfl) ?_); refine SS.tw 14 rfl (p_assign rfl rfl) ?_; refine SS.done ?_ (by kernel_rfl) | refine SS.effB 11 ?_ rfl (by kernel_rfl)) | refine SS.effB 10 ?_ rfl (by kernel_rfl)) | refine SS.effK 7 ?_ rfl (by kernel_rfl))))))
  refine W.call hln ?_
  rintro _ Hd ⟨rfl, rfl⟩
  (refine SL.nilB ?_; (first | refine SS.sk 10 rfl ?_; (first | refine SS.sk 11 rfl ?_; (first | refine SS.sk 12 rfl ?_ | refine SS.tw 12 rfl (Pu.t (p_cmp rfl rfl rfl rfl) (by dsimp only [cmpP]; first | done | omega)) ?_ | refine SS.tw 12 rfl (Pu.f (p_cmp rfl rfl rfl rfl) (by dsimp only [cmpP]; first | done | omega)) ?_ | refine SS.tw 12 rfl (p_cmp rfl rfl rfl rfl) ?_ | refine SS.tw 12 rfl (p_neb rfl rfl rfl) ?_); (first | refine SS.tw 13 rfl (p_pick_t rfl rfl rfl) ?_ | refine SS.tw 13 rfl (p_pick_f rfl rfl rfl) ?_); refine SS.tw 14 rfl (p_assign rfl rfl) ?_; refine SS.done ?_ (by kernel_rfl) | refine SS.effB 11 ?_ rfl (by kernel_rfl)) | refine SS.effB 10 ?_ rfl (by kernel_rfl)))
  refine W.call htt ?_
  rintro _ _ ⟨rfl, rfl⟩
  (refine SL.nilB ?_; (first | refine SS.sk 11 rfl ?_; (first | refine SS.sk 12 rfl ?_ | refine SS.tw 12 rfl (Pu.t (p_cmp rfl rfl rfl rfl) (by dsimp only [cmpP]; first | done | omega)) ?_ | refine SS.tw 12 rfl (Pu.f (p_cmp rfl rfl rfl rfl) (by dsimp only [cmpP]; first | done | omega)) ?_ | refine SS.tw 12 rfl (p_cmp rfl rfl rfl rfl) ?_ | refine SS.tw 12 rfl (p_neb rfl rfl rfl) ?_); (first | refine SS.tw 13 rfl (p_pick_t rfl rfl rfl) ?_ | refine SS.tw 13 rfl (p_pick_f rfl rfl rfl) ?_); refine SS.tw 14 rfl (p_assign rfl rfl) ?_; refine SS.done ?_ (by kernel_rfl) | refine SS.effB 11 ?_ rfl (by kernel_rfl)))
  refine W.call hby ?_
  rintro _ _ ⟨rfl, rfl⟩
  (refine SL.nilB ?_; (first | refine SS.sk 12 rfl ?_ | refine SS.tw 12 rfl (Pu.t (p_cmp rfl rfl rfl rfl) (by dsimp only [cmpP]; first | done | omega)) ?_ | refine SS.tw 12 rfl (Pu.f (p_cmp rfl rfl rfl rfl) (by dsimp only [cmpP]; first | done | omega)) ?_ | refine SS.tw 12 rfl (p_cmp rfl rfl rfl rfl) ?_ | refine SS.tw 12 rfl (p_neb rfl rfl rfl) ?_); (first | refine SS.tw 13 rfl (p_pick_t rfl rfl rfl) ?_ | refine SS.tw 13 rfl (p_pick_f rfl rfl rfl) ?_); refine SS.tw 14 rfl (p_assign rfl rfl) ?_; refine SS.done ?_ (by kernel_rfl))
  (repeat' (first | (refine W.go ?_; try intro b_) | fail))
  refine Fin.to Hd ?_
  exact F.f1 ⟨rfl, rfl⟩
theorem auNew_p {d tr s bk p t : Nat} (h : Gm.Ok p t) {σ : Dv} {Hd : Hp} (hD : DevP d σ Hd) (hlen : σ.len = 256 * Gm.total p t) :
    Tri Tryz.prog 55 [baseV d tr s bk p t] Hd (fun _ => True) (fun v H => ∃ ap, v = .tuple #[ptv ap, .int .i64 0] ∧ H = (ap, cl (audC d tr s bk p t (.slice none 0 0)) 224) :: Hd) := by
  refine Tri.mk Tryz.func55 rfl Tryz.ntmps55 rfl fun w hw => ?_
  have hmy := aumay_p (tr := tr) (s := s) (bk := bk) h hD hlen
  (repeat' (first | (refine W.go ?_; try intro b_) | fail))
  refine W.call hmy ?_
  rintro _ Hd ⟨rfl, rfl⟩
  have hbf : bfill (fun i => [(0, 6), (6, 1)][i]?) (List.replicate 4 (.pointer none) ++ [.int .i64 0, .int .i64 0] ++ [.slice none 0 0]) [(0, baseV d tr s bk p t)] = some (audC d tr s bk p t (.slice none 0 0)) := rfl
  (repeat' (first | (refine W.go ?_; try intro b_) | fail))
  refine Fin.to ((b_, cl (audC d tr s bk p t (.slice none 0 0)) 224) :: Hd) ?_
  exact F.f2 ⟨b_, rfl, rfl⟩
theorem auLeft_p {ap d tr s bk p t : Nat} (h : Gm.Ok p t) {a : Option Addr} {len cap : Nat} (hl : len ≤ Gm.total p t) :
    Tri Tryz.prog 125 [ptv ap] [(ap, cl (audC d tr s bk p t (.slice a len cap)) 224)] (fun _ => True) (fun v H => v = .int .i64 ((Gm.total p t - len : Nat) : Int) ∧ H = [(ap, cl (audC d tr s bk p t (.slice a len cap)) 224)]) := by
  refine Tri.mk Tryz.func125 rfl Tryz.ntmps125 rfl fun w hw => ?_
  have htt := gtotal_p h
  have htl := Gm.total_le2 h
  generalize Gm.total p t = m at *
  (repeat' (first | (refine W.go ?_; try intro b_) | fail))
  (refine SW.regionS [] ?_ (by kernel_rfl); refine SS.tw 0 rfl (p_move rfl rfl) ?_; refine SS.tw 1 rfl (p_nil rfl rfl) ?_; refine SS.tw 2 rfl (p_fieldAddr rfl rfl OfN.ok) ?_; refine SS.tw 3 rfl (p_fieldAddr rfl rfl OfN.ok) ?_; (first | refine SS.lw 4 [] rfl ?_ | refine SS.la 4 [] rfl ?_ | refine SS.tw 4 rfl (p_load_aR rfl rfl (by assumption) (by assumption) (by assumption) (by assumption)) ?_); refine SS.tw 6 rfl (p_move rfl rfl) ?_; refine SS.tw 7 rfl (p_nil rfl rfl) ?_; refine SS.tw 8 rfl (p_fieldAddr rfl rfl OfN.ok) ?_; (first | refine SS.ls 9 [] rfl ?_ | refine SS.tw 9 rfl (p_load_sR rfl rfl (by assumption) (by assumption) (by assumption)) ?_); refine SS.tw 10 rfl (p_len_slice rfl rfl) ?_; refine SS.effK 5 ?_ rfl (by kernel_rfl))
  refine W.call htt ?_
  rintro _ _ ⟨rfl, rfl⟩
  haveI i0 : NatI ((m : Int) - (len : Int)) (m - len) := ⟨by omega⟩
  (refine SL.nilB ?_; (first | refine SS.tw 11 rfl (p_sub rfl rfl rfl (w64 (by omega))) ?_ | refine SS.tw 11 rfl (p_uar rfl rfl rfl) ?_); refine SS.tw 12 rfl (p_assign rfl rfl) ?_; refine SS.done ?_ (by kernel_rfl))
  (repeat' (first | (refine W.go ?_; try intro b_) | fail))
  refine Fin.to [(ap, cl (audC d tr s bk p t (.slice a len cap)) 224)] ?_
  refine F.f1 ⟨?_, rfl⟩
  congr 1
  omega
theorem auStep_p {ap d tr s bk p t : Nat} (h : Gm.Ok p t) {σ : Dv} {Hd Hb : Hp} {lv : Value} {bss : List (List UInt8)} (hD : DevP d σ Hd) (hlen : σ.len = 256 * Gm.total p t) (hB : Bls lv bss Hb) (hbl : bss.length ≤ Gm.total p t) (n : Int) (hn : 0 ≤ n) :
    Tri Tryz.prog 53 [ptv ap, .int .i64 n] ((ap, cl (audC d tr s bk p t lv) 224) :: (Hd ++ Hb)) (fun _ => True)
    (fun v H => v = .tuple #[.int .i64 (stepA (Gm.total p t) σ bss n).1, .int .i64 (stepA (Gm.total p t) σ bss n).2.1] ∧ ∃ lv' Hb', Bls lv' (stepA (Gm.total p t) σ bss n).2.2 Hb' ∧ H = (ap, cl (audC d tr s bk p t lv') 224) :: (Hd ++ Hb')) := by
  obtain ⟨vs, Hv, Ht, hS, hR, rfl⟩ := hB
  refine Tri.mk Tryz.func53 rfl Tryz.ntmps53 rfl fun w hw => ?_
  have hvl := hR.1
  have hY := hS.isOne
  obtain ⟨a, len, cap, rfl, hl1⟩ := hS.form
  rw [Nat.mul_one, hvl] at hl1
  subst hl1
  have hle := auLeft_p (ap := ap) (d := d) (tr := tr) (s := s) (bk := bk) h (a := a) (cap := cap) hbl
  have hle2 := fun (a2 : Option Addr) (l2 c2 : Nat) (h2 : l2 ≤ Gm.total p t) => auLeft_p (ap := ap) (d := d) (tr := tr) (s := s) (bk := bk) h (a := a2) (cap := c2) h2
  have htl := Gm.total_le2 h
  generalize Gm.total p t = m at *
  obtain ⟨nn, rfl⟩ : ∃ nn : Nat, n = (nn : Int) := ⟨n.toNat, by omega⟩
  (repeat' (first | (refine W.go ?_; try intro b_) | fail))
  refine W.call hle ?_
  rintro _ _ ⟨rfl, rfl⟩
  (repeat' (first | (refine W.gb ?_; try intro b_) | fail))
  have hmin : min (nn : Int) ((m - bss.length : Nat) : Int) = ((min nn (m - bss.length) : Nat) : Int) := by omega
  rw [hmin]
  have hst : stepA m σ bss (nn : Int) = if min nn (m - bss.length) = 0 ∨ σ.down = false then (((m - bss.length - min nn (m - bss.length) : Nat) : Int), 0, bss ++ σ.blks bss.length (min nn (m - bss.length))) else (0, 8, bss) := rfl
  rw [hst]
  clear hst
  generalize hq : min nn (m - bss.length) = q at *
  have hqm : bss.length + q ≤ m := by omega
  refine SW.cutH [0] ((ap, cl (audC d tr s bk p t (.slice a bss.length cap)) 224) :: (Hv ++ Ht)) (fun _ : Value × Hp => []) (fun x => (ap, cl (audC d tr s bk p t x.1) 224) :: x.2) (fun x => (q = 0 ∨ σ.down = false) ∧ Bls x.1 (bss ++ σ.blks bss.length q) x.2) ?_ ?_
  · (repeat' (first | (refine W.go ?_; try intro b_) | fail))
    refine SW.loopF [0, 17] (fun x : Nat × Value × List Value × Hp × Hp => [(18, .int .i64 (x.1 : Int))]) (fun x => (ap, cl (audC d tr s bk p t x.2.1) 224) :: (x.2.2.2.1 ++ x.2.2.2.2)) (fun x => q - x.1)
      (fun x => (x.1 ≤ q ∧ (x.1 = 0 ∨ σ.down = false)) ∧ Sl 50 1 x.2.1 x.2.2.1 x.2.2.2.1 ∧ RB x.2.2.2.2 x.2.2.1 (bss ++ σ.blks bss.length x.1)) (0, .slice a bss.length cap, vs, Hv, Ht) ⟨⟨Nat.zero_le _, .inl rfl⟩, hS, by rw [show σ.blks bss.length 0 = [] from rfl, List.append_nil]; exact hR⟩ ?_
    rintro ⟨k, v2, vs2, Hv2, Ht2⟩ ⟨⟨hk, hk0⟩, hS2, hR2⟩
    dsimp only at hk hk0 hS2 hR2 ⊢
    have hY2 := hS2.isOne
    have hvl2 := hR2.1
    rw [List.length_append, Dv.blks_len] at hvl2
    by_cases hkq : k < q
    · obtain ⟨a2, l2, c2, rfl, hl2⟩ := hS2.form
      rw [Nat.mul_one, hvl2] at hl2
      subst hl2
      have hby := gbytes_p (k := bss.length + k) (by omega)
      have hld := load_p hD ((256 * (bss.length + k) : Nat) : Int) 256
      have hr0 : σ.rdy ((256 * (bss.length + k) : Nat) : Int) 256 = if σ.down = true then 8 else 0 := by
        unfold Dv.rdy
        split
        · rfl
        · rw [hlen, if_neg (by omega)]
      rw [hr0] at hld
      (repeat' (first | (refine W.go ?_; try intro b_) | fail))
      (refine SW.regionS [11] ?_ (by kernel_rfl); refine SS.tw 0 rfl (p_move rfl rfl) ?_; refine SS.tw 1 rfl (p_nil rfl rfl) ?_; refine SS.tw 2 rfl (p_fieldAddr rfl rfl OfN.ok) ?_; refine SS.tw 3 rfl (p_fieldAddr rfl rfl OfN.ok) ?_; (first | refine SS.ls 4 [11] rfl ?_ | refine SS.tw 4 rfl (p_load_sR rfl rfl (by assumption) (by assumption) (by assumption)) ?_); refine SS.tw 5 rfl (p_move rfl rfl) ?_; refine SS.tw 6 rfl (p_nil rfl rfl) ?_; refine SS.tw 7 rfl (p_fieldAddr rfl rfl OfN.ok) ?_; (first | refine SS.ls 8 [9, 10, 11] rfl ?_ | refine SS.tw 8 rfl (p_load_sR rfl rfl (by assumption) (by assumption) (by assumption)) ?_); refine SS.tw 9 rfl (p_len_slice rfl rfl) ?_; refine SS.effK 10 ?_ rfl (by kernel_rfl))
      refine W.call hby ?_
      rintro _ _ ⟨rfl, rfl⟩
      (refine SL.nilB ?_; refine SS.effB 11 ?_ rfl (by kernel_rfl))
      refine W.call hld ?_
      rintro _ _ ⟨sv, Hs, rfl, hsv, rfl⟩
      have hsv1 := hsv.isOne
      obtain ⟨a3, l3, c3, rfl, -⟩ := hsv.form
      (refine SL.nilB ?_; refine SS.tw 12 rfl (p_move rfl rfl) ?_; refine SS.tw 13 rfl (p_ext rfl rfl rfl) ?_; refine SS.tw 14 rfl (p_ext rfl rfl rfl) ?_; refine SS.tw 15 rfl (p_assign rfl rfl) ?_; refine SS.tw 16 rfl (p_assign rfl rfl) ?_; refine SS.done ?_ (by kernel_rfl))
      by_cases hdn : σ.down = true
      · rw [if_pos hdn]
        have hk00 : k = 0 := by rcases hk0 with h | h; exact h; rw [hdn] at h; cases h
        subst hk00
        rw [if_neg (by rw [hdn]; simp; omega)]
        rw [show σ.blks bss.length 0 = [] from rfl, List.append_nil] at hR2
        (repeat' (first | (refine W.go ?_; try intro b_) | fail))
        refine Fin.to ((ap, cl (audC d tr s bk p t (.slice a2 (bss.length + 0) c2)) 224) :: (Hd ++ (Hv2 ++ Ht2))) ?_
        exact F.f2 ⟨rfl, _, _, ⟨vs2, Hv2, Ht2, hS2, hR2, rfl⟩, rfl⟩
      · rw [if_neg hdn]
        have hb44 : bfill (fun i => some (i * 1, 1)) (zs [.slice none 0 0] 1) [(0, .slice a3 l3 c3)] = some [.slice a3 l3 c3] := rfl
        (repeat' (first | (refine W.go ?_; try intro b_) | fail))
        refine W.ap hS2 (ys := [.slice a3 l3 c3]) (mm := 1) (fun w2 hs => (Sl.own 50 1 b_ (xs := [.slice a3 l3 c3]) rfl).srcAt hs inferInstance) (fun v3 H3 h3 => ?_) (hys := rfl) (hbytes := by rw [hvl2]; simp; omega)
        have h31 := h3.isOne
        (repeat' (first | (refine W.go ?_; try intro b_) | fail))
        rw [show (audC d tr s bk p t (.slice a2 (bss.length + k) c2)).set 6 v3 = audC d tr s bk p t v3 from rfl]
        refine HandF.mk (k + 1, v3, vs2 ++ [.slice a3 l3 c3], H3, Hs ++ Ht2) ?_
        refine ⟨⟨hkq, .inr (by simpa using hdn)⟩, h3, ?_⟩
        dsimp only
        rw [Dv.blks_succ, ← List.append_assoc]
        exact (hR2.mono fun x hx => List.mem_append_right _ hx).snoc ((RdH.of hsv).mono fun x hx => List.mem_append_left _ hx)
    · have hkq2 : k = q := by omega
      subst hkq2
      (repeat' (first | (refine W.go ?_; try intro b_) | fail))
      refine CutF.mk (v2, Hv2 ++ Ht2) ?_
      exact ⟨hk0, vs2, Hv2, Ht2, hS2, hR2, rfl⟩
  rintro ⟨v2, Hb2⟩ ⟨hok, vs2, Hv2, Ht2, hS2, hR2, rfl⟩
  dsimp only at hok hS2 hR2 ⊢
  have hY2 := hS2.isOne
  have hvl2 := hR2.1
  rw [List.length_append, Dv.blks_len] at hvl2
  obtain ⟨a2, l2, c2, rfl, hl2⟩ := hS2.form
  rw [Nat.mul_one, hvl2] at hl2
  subst hl2
  rw [if_pos hok]
  (repeat' (first | (refine W.go ?_; try intro b_) | fail))
  refine W.call (hle2 a2 _ c2 hqm) ?_
  rintro _ _ ⟨rfl, rfl⟩
  (repeat' (first | (refine W.go ?_; try intro b_) | fail))
  rw [Nat.sub_sub]
  refine Fin.to ((ap, cl (audC d tr s bk p t (.slice a2 (bss.length + q) c2)) 224) :: (Hd ++ (Hv2 ++ Ht2))) ?_
  exact F.f2 ⟨rfl, _, _, ⟨vs2, Hv2, Ht2, hS2, hR2, rfl⟩, rfl⟩
end Go.Proofs.YthnoiniadmmiiaaGreat
/- A look that is under way: what it found, when all is whole. -/
namespace Go.Proofs.YthnoiniadmmiiaaGreat
open Go
attribute [local irreducible] SW SL SQ SH SA SS Pu Fin CutF HandF

theorem auRoot_p {ap d tr s bk tb p t : Nat} {lv : Value} (o : One lv) {β : Bk} {Hk Ht : Hp} (hK : BookP bk tb β Hk) {vs : List Value} {bss : List (List UInt8)} (hR : RB Ht vs bss) (v : Value) (h1 : 1 ≤ bss.length) (h2 : bss.length ≤ 1000) (hb : ∀ b ∈ bss, b.length = 256) :
    Tri Tryz.prog 207 [ptv ap, v] ((ap, cl (audC d tr s bk p t lv) 224) :: (Hk ++ Ht)) (fun w => Rd (((ap, cl (audC d tr s bk p t lv) 224) :: (Hk ++ Ht)).map Prod.fst) w 1 v vs)
    (fun r H => r = dgV (rootB bss) ∧ ∃ Hk', BookP bk tb (rootK β bss) Hk' ∧ H = (ap, cl (audC d tr s bk p t lv) 224) :: (Hk' ++ Ht)) := by
  refine Tri.mk Tryz.func207 rfl Tryz.ntmps207 rfl fun w hw => ?_
  obtain ⟨a, la, ca, rfl, hl1, hc1, hr1⟩ := hw.get
  have hvl := hR.1
  rw [Nat.mul_one, hvl] at hl1
  subst hl1
  have hY : One (Value.slice a bss.length ca) := ⟨rfl⟩
  (repeat' (first | (refine W.gb ?_; try intro b_) | fail))
  refine SW.cutH [0, 4] Hk (fun x : Value × Hp × Hp => [(5, x.1)]) (fun x => x.2.1 ++ x.2.2) (fun x => Sl 89 32 x.1 (cbs (sumsB bss).flatten) x.2.2 ∧ BookP bk tb (β.adds (leafsB bss)) x.2.1) ?_ ?_
  · (repeat' (first | (refine W.go ?_; try intro b_) | fail))
    refine SW.loopF [0, 4, 10, 11] (fun x : Nat × Value × Hp × Hp => [(5, x.2.1), (12, .int .i64 (x.1 : Int))]) (fun x => x.2.2.1 ++ x.2.2.2) (fun x => bss.length - x.1) (fun x => x.1 ≤ bss.length ∧ Sl 89 32 x.2.1 (cbs (sumsB (bss.take x.1)).flatten) x.2.2.2 ∧ BookP bk tb (β.adds (leafsB (bss.take x.1))) x.2.2.1) (0, .slice none 0 0, Hk, []) ⟨Nat.zero_le _, by rw [List.take_zero]; exact Sl.nil _ _, by rw [List.take_zero]; exact hK⟩ ?_
    rintro ⟨k, v2, Hk2, Hl2⟩ ⟨hk, hS2, hK2⟩
    dsimp only at hk hS2 hK2 ⊢
    have hS21 := hS2.isOne
    by_cases hkn : k < bss.length
    · obtain ⟨bb, o2, l, T, fz, rfl, hb1, hkK, hy⟩ := hr1 (by omega)
      obtain ⟨u, hu1, hu2⟩ := hR.2 k _ (List.getElem?_eq_getElem hkn)
      have hlu : l[o2 + k]? = some u := by
        have h2 : ((l.drop o2).take (bss.length * 1))[k]? = vs[k]? := by rw [hy]
        rw [List.getElem?_take, if_pos (by omega), List.getElem?_drop, hu1] at h2
        exact h2
      have hbl := hb _ (List.getElem_mem hkn)
      have htl : (bss.take k).length = k := by rw [List.length_take]; omega
      have hts : bss.take (k + 1) = bss.take k ++ [bss[k]] := by rw [List.take_add_one, List.getElem?_eq_getElem hkn]; rfl
      have hls : leafsB (bss.take (k + 1)) = leafsB (bss.take k) ++ [leafT k bss[k]] := by rw [hts, leafsB_snoc, htl]
      have hss : sumsB (bss.take (k + 1)) = sumsB (bss.take k) ++ [Sha.sum (leafT k bss[k])] := by rw [hts, sumsB_snoc, htl]
      have hfl := flatN_len (L := sumsB (bss.take k)) (sumsB_32 _)
      rw [sumsB_len, htl] at hfl
      have huo := hu2.one
      have hlf := leaf_p hK2 k u bss[k] (by omega)
      rw [show (β.adds (leafsB (bss.take k))).add (leafT k bss[k]) = β.adds (leafsB (bss.take (k + 1))) by rw [hls]; exact Bk.adds_one ..] at hlf
      have h32 : (Sha.sum (leafT k bss[k])).length = 32 := Sha.sum_len _
      generalize Sha.sum (leafT k bss[k]) = y at *
      have hb2 := b1d h32
      have hc := cl32 h32
      (repeat' (first | (refine W.go ?_; try intro b_) | fail))
      refine W.call hlf ?_ (hpre := fun w2 hs => hu2.rd (Hc := Hk2) hs)
      rintro _ Hk3 ⟨rfl, hK3⟩
      (repeat' (first | (refine W.go ?_; try intro b_) | fail))
      refine W.ap (ys := cbs y) (mm := 1) hS2 (fun w2 hs => (Sl.own 89 32 b_ (xs := cbs y) hc).srcAt hs inferInstance) (fun v3 H3 h3 => ?_) (hys := hc) (hbytes := by rw [hc, cbs_len, hfl]; omega)
      have h31 := h3.isOne
      rw [show cbs (sumsB (bss.take k)).flatten ++ cbs y = cbs (sumsB (bss.take k) ++ [y]).flatten by simp, ← hss] at h3
      (repeat' (first | (refine W.go ?_; try intro b_) | fail))
      refine HandF.mk (k + 1, v3, Hk3, H3) ?_
      exact ⟨hkn, h3, hK3⟩
    · have hk2 : k = bss.length := by omega
      rw [hk2, List.take_length] at hS2 hK2
      subst hk2
      (repeat' (first | (refine W.go ?_; try intro b_) | fail))
      refine CutF.mk (v2, Hk2, Hl2) ?_
      exact ⟨hS2, hK2⟩
  rintro ⟨v2, Hk2, Hl2⟩ ⟨hS2, hK2⟩
  dsimp only at hS2 hK2 ⊢
  have hS21 := hS2.isOne
  (repeat' (first | (refine W.go ?_; try intro b_) | fail))
  refine W.call (new_p hK2 v2 (sumsB bss) (sumsB_32 _) (by rw [sumsB_len]; omega) (by rw [sumsB_len]; omega)) ?_ (hpre := fun w2 hs => Rd.own (Hc := Hk2) hS2 hs inferInstance)
  rintro _ _ ⟨tp, Htr, Hk3, rfl, rfl, hT, hK3⟩
  have hro := Root_p hT hK3 (by rw [sumsB_len]; omega)
  rw [show rootV (sumsB bss) = rootB bss from rfl] at hro
  have h32 : (rootB bss).length = 32 := Sha.sum_len _
  (repeat' (first | (refine W.go ?_; try intro b_) | fail))
  refine W.call hro ?_
  rintro _ _ ⟨Hk4, rfl, rfl, hK4⟩
  (repeat' (first | (refine W.go ?_; try intro b_) | fail))
  exact F.cH ((ap, cl (audC d tr s bk p t lv) 224) :: (Hk4 ++ Ht)) (cbs (rootB bss)) ⟨rfl, Hk4, hK4, rfl⟩
theorem auFits_p {ap d tr s bk tb p t : Nat} (h : Gm.Ok p t) {lv : Value} (o : One lv) {β : Bk} {r : Rg} (hr : r.Ok) {Hk Ht : Hp} (hK : BookP bk tb β Hk) {vs : List Value} {bss : List (List UInt8)} (hR : RB Ht vs bss) (v : Value) (h1 : 1 ≤ bss.length) (h2 : bss.length ≤ 1000) (hb : ∀ b ∈ bss, b.length = 256) :
    Tri Tryz.prog 126 [ptv ap, v] ((ap, cl (audC d tr s bk p t lv) 224) :: (tr, cl (trc d r) 245) :: (Hk ++ Ht)) (fun w => Rd (((ap, cl (audC d tr s bk p t lv) 224) :: (tr, cl (trc d r) 245) :: (Hk ++ Ht)).map Prod.fst) w 1 v vs)
    (fun w H => w = .bool (fitsB p t r.root bss) ∧ ∃ Hk', BookP bk tb (rootK β bss) Hk' ∧ H = (ap, cl (audC d tr s bk p t lv) 224) :: (tr, cl (trc d r) 245) :: (Hk' ++ Ht)) := by
  refine Tri.mk Tryz.func126 rfl Tryz.ntmps126 rfl fun w hw => ?_
  obtain ⟨a, la, ca, rfl, hl1, hc1, hr1⟩ := hw.get
  have hvl := hR.1
  rw [Nat.mul_one, hvl] at hl1
  subst hl1
  have hY : One (Value.slice a bss.length ca) := ⟨rfl⟩
  have hsb := sBytes_p h
  have hrd := read_p tr d r hr
  have hrt := auRoot_p (ap := ap) (d := d) (tr := tr) (s := s) (p := p) (t := t) o hK hR (.slice a bss.length ca) h1 h2 hb
  have h32 : (rootB bss).length = 32 := Sha.sum_len _
  have h33 := hr.len
  have hf : fitsB p t r.root bss = (decide (rootB bss = r.root) && decide (superB p t = bss.getD 0 [])) := rfl
  rw [hf]
  clear hf
  have hsl := superB_len p t
  generalize superB p t = sB at *
  generalize rootB bss = rB at *
  have hq1 : ((rgc r).drop 1).take 32 = cbs r.root := by
    show (r.root.map bv).take 32 = _
    rw [List.take_of_length_le (by simp [h33])]
    rfl
  have hql : (cbs r.root).length = 32 := cl32 h33
  obtain ⟨bb, o2, l, T, fz, rfl, hb1, hkK, hy⟩ := hr1 (by omega)
  obtain ⟨u, hu1, hu2⟩ := hR.2 0 _ (List.getElem?_eq_getElem h1)
  have hlu : l[o2 + 0]? = some u := by
    have h2 : ((l.drop o2).take (bss.length * 1))[0]? = vs[0]? := by rw [hy]
    rw [List.getElem?_take, if_pos (by omega), List.getElem?_drop, hu1] at h2
    exact h2
  have hg0 : bss.getD 0 [] = bss[0] := by rw [List.getD_eq_getElem?_getD, List.getElem?_eq_getElem h1]; rfl
  rw [hg0]
  have huo := hu2.one
  (repeat' (first | (refine W.go ?_; try intro b_) | fail))
  refine W.call hsb ?_
  rintro _ _ ⟨b1, rfl, rfl⟩
  (repeat' (first | (refine W.go ?_; try intro b_) | fail))
  (refine SW.regionS [] ?_ (by kernel_rfl); refine SS.tw 0 rfl (p_move rfl rfl) ?_; refine SS.tw 1 rfl (p_move rfl rfl) ?_; refine SS.tw 3 rfl (p_move rfl rfl) ?_; refine SS.tw 4 rfl (p_nil rfl rfl) ?_; refine SS.tw 5 rfl (p_fieldAddr rfl rfl OfN.ok) ?_; refine SS.tw 6 rfl (p_fieldAddr rfl rfl OfN.ok) ?_; (first | refine SS.ls 7 [] rfl ?_ | refine SS.tw 7 rfl (p_load_sR rfl rfl (by assumption) (by assumption) (by assumption)) ?_); refine SS.effK 2 ?_ rfl (by kernel_rfl))
  refine W.call hrt ?_ (hpre := fun w2 hs => hw.ro (Hc := (ap, cl (audC d tr s bk p t lv) 224) :: (Hk ++ Ht)) hs)
  rintro _ _ ⟨rfl, Hk2, hK2, rfl⟩
  (refine SL.nilB ?_; refine SS.effK 8 ?_ rfl (by kernel_rfl))
  refine W.call hrd ?_
  rintro _ _ ⟨rfl, rfl⟩
  by_cases he : rB = r.root
  · rw [decide_eq_true he, Bool.true_and]
    (refine SL.nilB ?_; (first | refine SS.tw 9 rfl (p_field rfl rfl (by first | rfl | assumption)) ?_ | refine SS.tw 9 rfl (p_field_a rfl rfl (by first | assumption | rfl)) ?_); refine SS.tw 10 rfl (p_eqA_t rfl rfl rfl h32 he) ?_; refine SS.tw 11 rfl (p_move rfl rfl) ?_; (first | refine SS.sk 12 rfl ?_ | refine SS.tw 12 rfl (p_move rfl rfl) ?_); (first | refine SS.sk 13 rfl ?_ | refine SS.tw 13 rfl (p_move rfl rfl) ?_); (first | refine SS.sk 14 rfl ?_ | refine SS.tw 14 rfl (p_ix rfl rfl rfl (by omega)) ?_ | refine SS.tw 14 rfl (p_ixa rfl rfl rfl (by omega)) ?_); (first | refine SS.sk 15 rfl ?_ | refine SS.ls 15 [] rfl ?_ | refine SS.tw 15 rfl (p_load_sR rfl rfl (by assumption) (by assumption) (by assumption)) ?_); (first | refine SS.sk 16 rfl ?_; (first | refine SS.tw 17 rfl (p_pick_t rfl rfl rfl) ?_ | refine SS.tw 17 rfl (p_pick_f rfl rfl rfl) ?_); refine SS.tw 18 rfl (p_assign rfl rfl) ?_; refine SS.done ?_ (by kernel_rfl) | refine SS.effK 16 ?_ rfl (by kernel_rfl)))
    refine W.call (Equal_p _ _ sB bss[0]) ?_ (hpre := fun w2 hs => ⟨Rd.my (Hc := []) (T := 5) b1 _ hs hsl, hu2.rd (Hc := []) hs⟩)
    rintro _ _ ⟨rfl, rfl⟩
    (refine SL.nilB ?_; (first | refine SS.tw 17 rfl (p_pick_t rfl rfl rfl) ?_ | refine SS.tw 17 rfl (p_pick_f rfl rfl rfl) ?_); refine SS.tw 18 rfl (p_assign rfl rfl) ?_; refine SS.done ?_ (by kernel_rfl))
    (repeat' (first | (refine W.go ?_; try intro b_) | fail))
    refine Fin.to ((ap, cl (audC d tr s bk p t lv) 224) :: (tr, cl (trc d r) 245) :: (Hk2 ++ Ht)) ?_
    exact F.f1 ⟨rfl, Hk2, hK2, rfl⟩
  · rw [decide_eq_false he, Bool.false_and]
    (refine SL.nilB ?_; (first | refine SS.tw 9 rfl (p_field rfl rfl (by first | rfl | assumption)) ?_ | refine SS.tw 9 rfl (p_field_a rfl rfl (by first | assumption | rfl)) ?_); refine SS.tw 10 rfl (p_eqA_f rfl rfl rfl h32 h33 he) ?_; refine SS.tw 11 rfl (p_move rfl rfl) ?_; (first | refine SS.sk 12 rfl ?_ | refine SS.tw 12 rfl (p_move rfl rfl) ?_); (first | refine SS.sk 13 rfl ?_ | refine SS.tw 13 rfl (p_move rfl rfl) ?_); (first | refine SS.sk 14 rfl ?_ | refine SS.tw 14 rfl (p_ix rfl rfl rfl (by omega)) ?_ | refine SS.tw 14 rfl (p_ixa rfl rfl rfl (by omega)) ?_); (first | refine SS.sk 15 rfl ?_ | refine SS.ls 15 [] rfl ?_ | refine SS.tw 15 rfl (p_load_sR rfl rfl (by assumption) (by assumption) (by assumption)) ?_); (first | refine SS.sk 16 rfl ?_; (first | refine SS.tw 17 rfl (p_pick_t rfl rfl rfl) ?_ | refine SS.tw 17 rfl (p_pick_f rfl rfl rfl) ?_); refine SS.tw 18 rfl (p_assign rfl rfl) ?_; refine SS.done ?_ (by kernel_rfl) | refine SS.effK 16 ?_ rfl (by kernel_rfl)))
    (repeat' (first | (refine W.go ?_; try intro b_) | fail))
    refine Fin.to ((ap, cl (audC d tr s bk p t lv) 224) :: (tr, cl (trc d r) 245) :: (Hk2 ++ Ht)) ?_
    exact F.f1 ⟨rfl, Hk2, hK2, rfl⟩
end Go.Proofs.YthnoiniadmmiiaaGreat
