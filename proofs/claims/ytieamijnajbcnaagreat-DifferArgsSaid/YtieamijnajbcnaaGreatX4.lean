/- Chapter 34's example; the trees of the law. -/
import Derived.Test.YtieamijnajbcnaaGreatX2
import Derived.Test.YtieamijnajbcnaaGreatX3
set_option linter.unusedVariables false
set_option linter.unusedSimpArgs false
set_option linter.unusedSectionVars false
namespace Go.Proofs.YtieamijnajbcnaaGreat
open Go
attribute [local irreducible] SW SL SQ SH SA SS Pu Fin CutF HandF

/-! ### The example's sums, as they are -/
abbrev x01 : List UInt8 := 1 :: List.replicate 31 0
def g10 : List UInt8 := [80, 156, 158, 78, 228, 129, 21, 32, 47, 1, 248, 181, 219, 72, 233, 73, 198, 197, 94, 100, 4, 157, 91, 216, 190, 75, 214, 124, 114, 178, 32, 134]
def g11 : List UInt8 := [245, 68, 252, 198, 102, 182, 43, 83, 142, 99, 174, 133, 173, 24, 153, 184, 114, 196, 225, 176, 71, 42, 26, 136, 175, 152, 57, 220, 114, 142, 129, 175]
def g12 : List UInt8 := [167, 173, 63, 183, 55, 226, 5, 156, 241, 44, 39, 166, 139, 175, 26, 194, 198, 251, 80, 42, 186, 105, 48, 100, 241, 107, 154, 183, 212, 176, 37, 161]
def g13 : List UInt8 := [189, 204, 40, 176, 89, 220, 96, 184, 98, 186, 108, 243, 35, 212, 90, 167, 94, 230, 246, 138, 223, 34, 135, 31, 171, 89, 119, 52, 96, 137, 85, 158]
def g12m : List UInt8 := [176, 82, 36, 77, 72, 103, 220, 59, 187, 34, 19, 75, 149, 217, 118, 105, 166, 33, 193, 103, 199, 170, 117, 252, 251, 16, 168, 85, 136, 174, 201, 216]
def g20 : List UInt8 := [170, 94, 234, 215, 142, 116, 192, 251, 123, 165, 176, 144, 134, 71, 222, 33, 95, 159, 26, 236, 53, 54, 117, 20, 2, 120, 214, 77, 64, 121, 35, 157]
def g21 : List UInt8 := [104, 81, 153, 154, 6, 165, 177, 94, 183, 232, 156, 199, 154, 1, 67, 71, 32, 201, 31, 93, 67, 59, 178, 235, 250, 175, 99, 146, 172, 251, 155, 103]
def g21m : List UInt8 := [173, 205, 210, 46, 2, 195, 157, 183, 164, 26, 96, 100, 116, 161, 250, 119, 148, 141, 37, 74, 26, 10, 43, 148, 35, 30, 163, 132, 16, 68, 101, 44]
set_option maxRecDepth 1000000
theorem g10_eq : nodeV 1 0 z32 z32 = g10 := by decide +kernel
theorem g11_eq : nodeV 1 1 z32 z32 = g11 := by decide +kernel
theorem g12_eq : nodeV 1 2 z32 z32 = g12 := by decide +kernel
theorem g13_eq : nodeV 1 3 z32 z32 = g13 := by decide +kernel
theorem g12m_eq : nodeV 1 2 x01 z32 = g12m := by decide +kernel
theorem g20_eq : nodeV 2 0 g10 g11 = g20 := by decide +kernel
theorem g21_eq : nodeV 2 1 g12 g13 = g21 := by decide +kernel
theorem g21m_eq : nodeV 2 1 g12m g13 = g21m := by decide +kernel
theorem g30_ne : nodeV 3 0 g20 g21 ≠ nodeV 3 0 g20 g21m := by decide +kernel
theorem g12_ne : g12 ≠ g12m := by decide +kernel
theorem g21_ne : g21 ≠ g21m := by decide +kernel
abbrev exL : List (List UInt8) := List.replicate 5 z32
abbrev exM : List (List UInt8) := [z32, z32, z32, z32, x01]
theorem exL_32 : D32 exL := z_32 5
theorem exM_32 : D32 exM := fun x hx => by
  simp only [List.mem_cons, List.not_mem_nil, or_false] at hx
  rcases hx with rfl | rfl | rfl | rfl | rfl <;> rfl
theorem ex_unlike : unlike exL exM = [4] := by decide +kernel
theorem ex_dep : dep 5 = 3 := by decide +kernel
theorem ex_dif : ∀ d, d ≤ dep exL.length → ∀ i, i < 2 ^ (dep exL.length - d) → (atV exL d i ≠ atV exM d i ↔ aff (unlike exL exM) d i) := by
  rw [ex_unlike, show exL.length = 5 from rfl, ex_dep]
  have ho : ∀ i, i ∉ ([4] : List Nat) → exM.getD i z32 = exL.getD i z32 := by
    have := unlike_out (l := exL) (m := exM) rfl
    rwa [ex_unlike] at this
  have h12 : atV exL 1 2 ≠ atV exM 1 2 := by
    show nodeV 1 2 z32 z32 ≠ nodeV 1 2 x01 z32
    rw [g12_eq, g12m_eq]; exact g12_ne
  have h21 : atV exL 2 1 ≠ atV exM 2 1 := by
    show nodeV 2 1 (nodeV 1 2 z32 z32) (nodeV 1 3 z32 z32) ≠ nodeV 2 1 (nodeV 1 2 x01 z32) (nodeV 1 3 z32 z32)
    rw [g12_eq, g12m_eq, g13_eq, g21_eq, g21m_eq]; exact g21_ne
  have h30 : atV exL 3 0 ≠ atV exM 3 0 := by
    show nodeV 3 0 (nodeV 2 0 (nodeV 1 0 z32 z32) (nodeV 1 1 z32 z32)) (nodeV 2 1 (nodeV 1 2 z32 z32) (nodeV 1 3 z32 z32)) ≠ nodeV 3 0 (nodeV 2 0 (nodeV 1 0 z32 z32) (nodeV 1 1 z32 z32)) (nodeV 2 1 (nodeV 1 2 x01 z32) (nodeV 1 3 z32 z32))
    rw [g10_eq, g11_eq, g12_eq, g12m_eq, g13_eq, g20_eq, g21_eq, g21m_eq]; exact g30_ne
  have h04 : atV exL 0 4 ≠ atV exM 0 4 := by
    show z32 ≠ x01
    decide +kernel
  intro d hd i hi
  constructor
  · intro h
    by_cases ha : aff [4] d i
    · exact ha
    · exact absurd (unaff ho d i ha).symm h
  · rintro ⟨k, hk, hke⟩
    rw [List.mem_singleton] at hk
    subst hk
    rcases (show d = 0 ∨ d = 1 ∨ d = 2 ∨ d = 3 by omega) with rfl | rfl | rfl | rfl
    · have : i = 4 := by rw [← hke]
      subst this; exact h04
    · have : i = 2 := by rw [← hke]
      subst this; exact h12
    · have : i = 1 := by rw [← hke]
      subst this; exact h21
    · have : i = 0 := by rw [← hke]
      subst this; exact h30
theorem planted_p {b tp : Nat} {s : Bk} {Hb : Hp} (hB : BookP b tp s Hb) (l : List (List UInt8)) (hl : D32 l) (h1 : 1 ≤ l.length) (h2 : l.length ≤ 1024) (v : Value) : Tri Tryz.prog 7 [.pointer (some ⟨b, 0, none⟩), v] Hb (fun w => Rd (Hb.map Prod.fst) w 32 v (cbs l.flatten))
    (fun r H' => ∃ t Ht Hb', r = .pointer (some ⟨t, 0, none⟩) ∧ H' = Ht ++ Hb' ∧ TreeV t b l Ht ∧ BookP b tp (s.adds (textsV l (dep l.length))) Hb') := by
  refine Tri.mk Tryz.func7 rfl Tryz.ntmps7 rfl fun w hw => ?_
  obtain ⟨a, cap, rfl, hc, hg⟩ := hw.row hl
  (repeat' (first | refine W.mv ?_ | refine W.zl ?_ | refine W.fa ?_ | refine W.nl ?_ | refine W.as ?_ | refine W.zb ?_ | refine W.za ?_ | refine W.zi ?_ | refine W.zc ?_ | refine W.zp ?_ | refine W.st ?_ | refine SL.nilB ?_ | refine SL.nil ?_ | refine W.al fun b_ => ?_ | refine W.bx fun b_ => ?_ | refine W.bxa fun b_ => ?_ | refine W.sw ?_ | refine W.sa ?_ | refine W.sk ?_ | refine W.bs0 fun b_ => ?_ | refine W.ma fun b_ => ?_ | refine W.bsl fun b_ => ?_ | refine W.zu ?_ | refine W.zf ?_ | refine W.zd ?_ | refine W.zs ?_ | refine W.zv ?_ | refine W.zx ?_ | refine W.ex ?_ | refine W.mf ?_ | refine W.mk ?_ | refine SW.seq ?_ | refine SW.region ?_ | refine SW.cond_t rfl ?_ | refine SW.cond_f rfl ?_ | refine SW.exit ?_ | refine SW.ret ?_ | refine SW.skip ?_))
  refine SW.cutH [0] [] (fun x : Value × Hp => [(5, x.1)]) (fun x => x.2) (fun x => Sl 72 32 x.1 (cbs l.flatten) x.2) ?_ ?_
  · (repeat' (first | refine W.mv ?_ | refine W.zl ?_ | refine W.fa ?_ | refine W.nl ?_ | refine W.as ?_ | refine W.zb ?_ | refine W.za ?_ | refine W.zi ?_ | refine W.zc ?_ | refine W.zp ?_ | refine W.st ?_ | refine SL.nilB ?_ | refine SL.nil ?_ | refine W.al fun b_ => ?_ | refine W.bx fun b_ => ?_ | refine W.bxa fun b_ => ?_ | refine W.sw ?_ | refine W.sa ?_ | refine W.sk ?_ | refine W.bs0 fun b_ => ?_ | refine W.ma fun b_ => ?_ | refine W.bsl fun b_ => ?_ | refine W.zu ?_ | refine W.zf ?_ | refine W.zd ?_ | refine W.zs ?_ | refine W.zv ?_ | refine W.zx ?_ | refine W.ex ?_ | refine W.mf ?_ | refine W.mk ?_ | refine SW.seq ?_ | refine SW.region ?_ | refine SW.block ?_ | refine SW.cond_t rfl ?_ | refine SW.cond_f rfl ?_ | refine SW.exit ?_ | refine SW.ret ?_ | refine SW.skip ?_))
    refine SW.loopF [0, 10, 11] (fun x : Nat × Value × Hp => [(5, x.2.1), (12, .int .i64 (x.1 : Int))]) (fun x => x.2.2) (fun x => l.length - x.1) (fun x => x.1 ≤ l.length ∧ Sl 72 32 x.2.1 (cbs (l.take x.1).flatten) x.2.2) (0, .slice none 0 0, []) ⟨Nat.zero_le _, Sl.nil _ _⟩ ?_
    rintro ⟨d, v2, H2⟩ ⟨hd, h2'⟩
    dsimp only at hd h2' ⊢
    have h21 := h2'.isOne
    by_cases hdl : d < l.length
    · obtain ⟨y, hy⟩ : ∃ y, l[d]? = some y := ⟨_, List.getElem?_eq_getElem hdl⟩
      obtain ⟨pb, po, lv, T, fz, rfl, hb, hk, hv⟩ := hg d y hy
      have hc := cl32 (hl y (List.mem_of_getElem? hy))
      have hb1 := b1d (hl y (List.mem_of_getElem? hy))
      have hz : (List.replicate 32 (Value.int .u8 0)).length = 32 := rfl
      have ht : l.take d ++ [y] = l.take (d + 1) := by rw [List.take_add_one, hy]; rfl
      have hfl := flatN_len (L := l.take d) (fun x hx => hl x (List.mem_of_mem_take hx))
      (repeat' (first | refine W.mv ?_ | refine W.zl ?_ | refine W.fa ?_ | refine W.nl ?_ | refine W.as ?_ | refine W.zb ?_ | refine W.za ?_ | refine W.zi ?_ | refine W.zc ?_ | refine W.zp ?_ | refine W.st ?_ | refine SL.nilB ?_ | refine SL.nil ?_ | refine W.al fun b_ => ?_ | refine W.bx fun b_ => ?_ | refine W.bxa fun b_ => ?_ | refine W.sw ?_ | refine W.sa ?_ | refine W.sk ?_ | refine W.bs0 fun b_ => ?_ | refine W.ma fun b_ => ?_ | refine W.bsl fun b_ => ?_ | refine W.zu ?_ | refine W.zf ?_ | refine W.zd ?_ | refine W.zs ?_ | refine W.zv ?_ | refine W.zx ?_ | refine W.ex ?_ | refine W.mf ?_ | refine W.mk ?_ | refine SW.seq ?_ | refine SW.region ?_ | refine SW.block ?_ | refine SW.cond_t rfl ?_ | refine SW.cond_f rfl ?_ | refine SW.exit ?_ | refine SW.ret ?_ | refine SW.skip ?_))
      refine W.ap (ys := cbs y) (mm := 1) h2' (fun w2 hs => (Sl.own 72 32 b_ (xs := cbs y) hc).srcAt hs inferInstance) (fun v3 H3 h3 => ?_) (hys := hc) (hbytes := by rw [hc, cbs_len, hfl, List.length_take]; omega)
      have h31 := h3.isOne
      rw [snoc_fl, ht] at h3
      (repeat' (first | refine W.mv ?_ | refine W.zl ?_ | refine W.fa ?_ | refine W.nl ?_ | refine W.as ?_ | refine W.zb ?_ | refine W.za ?_ | refine W.zi ?_ | refine W.zc ?_ | refine W.zp ?_ | refine W.st ?_ | refine SL.nilB ?_ | refine SL.nil ?_ | refine W.al fun b_ => ?_ | refine W.bx fun b_ => ?_ | refine W.bxa fun b_ => ?_ | refine W.sw ?_ | refine W.sa ?_ | refine W.sk ?_ | refine W.bs0 fun b_ => ?_ | refine W.ma fun b_ => ?_ | refine W.bsl fun b_ => ?_ | refine W.zu ?_ | refine W.zf ?_ | refine W.zd ?_ | refine W.zs ?_ | refine W.zv ?_ | refine W.zx ?_ | refine W.ex ?_ | refine W.mf ?_ | refine W.mk ?_ | refine SW.seq ?_ | refine SW.region ?_ | refine SW.block ?_ | refine SW.cond_t rfl ?_ | refine SW.cond_f rfl ?_ | refine SW.exit ?_ | refine SW.ret ?_ | refine SW.skip ?_))
      refine HandF.mk (d + 1, v3, H3) ?_
      exact ⟨hdl, h3⟩
    · have hd2 : d = l.length := by omega
      subst hd2
      rw [List.take_length] at h2'
      (repeat' (first | refine W.mv ?_ | refine W.zl ?_ | refine W.fa ?_ | refine W.nl ?_ | refine W.as ?_ | refine W.zb ?_ | refine W.za ?_ | refine W.zi ?_ | refine W.zc ?_ | refine W.zp ?_ | refine W.st ?_ | refine SL.nilB ?_ | refine SL.nil ?_ | refine W.al fun b_ => ?_ | refine W.bx fun b_ => ?_ | refine W.bxa fun b_ => ?_ | refine W.sw ?_ | refine W.sa ?_ | refine W.sk ?_ | refine W.bs0 fun b_ => ?_ | refine W.ma fun b_ => ?_ | refine W.bsl fun b_ => ?_ | refine W.zu ?_ | refine W.zf ?_ | refine W.zd ?_ | refine W.zs ?_ | refine W.zv ?_ | refine W.zx ?_ | refine W.ex ?_ | refine W.mf ?_ | refine W.mk ?_ | refine SW.seq ?_ | refine SW.region ?_ | refine SW.block ?_ | refine SW.cond_t rfl ?_ | refine SW.cond_f rfl ?_ | refine SW.exit ?_ | refine SW.ret ?_ | refine SW.skip ?_))
      refine CutF.mk (v2, H2) ?_
      exact h2'
  rintro ⟨v2, H2⟩ h2'
  dsimp only at h2' ⊢
  have h21 := h2'.isOne
  (repeat' (first | refine W.mv ?_ | refine W.zl ?_ | refine W.fa ?_ | refine W.nl ?_ | refine W.as ?_ | refine W.zb ?_ | refine W.za ?_ | refine W.zi ?_ | refine W.zc ?_ | refine W.zp ?_ | refine W.st ?_ | refine SL.nilB ?_ | refine SL.nil ?_ | refine W.al fun b_ => ?_ | refine W.bx fun b_ => ?_ | refine W.bxa fun b_ => ?_ | refine W.sw ?_ | refine W.sa ?_ | refine W.sk ?_ | refine W.bs0 fun b_ => ?_ | refine W.ma fun b_ => ?_ | refine W.bsl fun b_ => ?_ | refine W.zu ?_ | refine W.zf ?_ | refine W.zd ?_ | refine W.zs ?_ | refine W.zv ?_ | refine W.zx ?_ | refine W.ex ?_ | refine W.mf ?_ | refine W.mk ?_ | refine SW.seq ?_ | refine SW.region ?_ | refine SW.block ?_ | refine SW.cond_t rfl ?_ | refine SW.cond_f rfl ?_ | refine SW.exit ?_ | refine SW.ret ?_ | refine SW.skip ?_))
  refine W.call (new_p hB v2 l hl h1 h2) ?_ rfl (fun w2 hs => Rd.own (Hc := Hb) h2' hs inferInstance)
  rintro _ _ ⟨t, Ht, B1, rfl, rfl, hT, hB1⟩
  (repeat' (first | refine W.mv ?_ | refine W.zl ?_ | refine W.fa ?_ | refine W.nl ?_ | refine W.as ?_ | refine W.zb ?_ | refine W.za ?_ | refine W.zi ?_ | refine W.zc ?_ | refine W.zp ?_ | refine W.st ?_ | refine SL.nilB ?_ | refine SL.nil ?_ | refine W.al fun b_ => ?_ | refine W.bx fun b_ => ?_ | refine W.bxa fun b_ => ?_ | refine W.sw ?_ | refine W.sa ?_ | refine W.sk ?_ | refine W.bs0 fun b_ => ?_ | refine W.ma fun b_ => ?_ | refine W.bsl fun b_ => ?_ | refine W.zu ?_ | refine W.zf ?_ | refine W.zd ?_ | refine W.zs ?_ | refine W.zv ?_ | refine W.zx ?_ | refine W.ex ?_ | refine W.mf ?_ | refine W.mk ?_ | refine SW.seq ?_ | refine SW.region ?_ | refine SW.block ?_ | refine SW.cond_t rfl ?_ | refine SW.cond_f rfl ?_ | refine SW.exit ?_ | refine SW.ret ?_ | refine SW.skip ?_))
  refine Fin.to (Ht ++ B1) ?_
  exact F.f1 ⟨t, Ht, B1, rfl, rfl, hT, hB1⟩
end Go.Proofs.YtieamijnajbcnaaGreat
