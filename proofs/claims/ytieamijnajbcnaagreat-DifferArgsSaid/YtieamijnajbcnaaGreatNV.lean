/- The memory that lasts: its model, and words. The memory that lasts: the program's small methods. The memory that lasts: the power goes. The memory that lasts: an act. The memory that lasts: Do, Flush, Fence, Arm, New, Acts. The memory that lasts: Arm, New, Acts. A register beside a device. The memory that lasts, byte by byte: what is stored, and read (no program in sight but the cells). The memory that lasts: Store, Flush, Fence. The memory that lasts: Flush, Fence, Load. -/
import Derived.Test.YtieamijnajbcnaaGreatTy
import Derived.Test.YtieamijnajbcnaaGreatAA
import Derived.Test.YtieamijnajbcnaaGreatAB
set_option linter.unusedVariables false
set_option linter.unusedSimpArgs false
namespace Go.Proofs.YtieamijnajbcnaaGreat
open Go
attribute [local irreducible] SW SL SQ SH SA Pu Fin

/-- A word of the memory. -/
structure Wd where
  lasts : List UInt8
  now : List UInt8
  pend : Bool
  mark : Bool

structure Dv where
  ws : List Wd
  down : Bool
  fuse : Int
  picks : List UInt8
  acts : List (Int × Int × Int)

def bv (b : UInt8) : Value := .int .u8 (b.toNat : Int)
instance (b : UInt8) : One (bv b) := ⟨rfl⟩
def wc (w : Wd) : List Value := w.lasts.map bv ++ (w.now.map bv ++ [.bool w.pend, .bool w.mark])
def ac (a : Int × Int × Int) : List Value := [.int .i64 a.1, .int .i64 a.2.1, .int .i64 a.2.2]
def Wd.Len (w : Wd) : Prop := w.lasts.length = 8 ∧ w.now.length = 8
def Wd.Ok (w : Wd) : Prop := w.Len ∧ (w.mark = true → w.pend = true)
theorem wc_len {w : Wd} (h : w.Len) : (wc w).length = 18 := by simp [wc, h.1, h.2]

structure Dv.Ok (σ : Dv) : Prop where
  n : σ.ws.length ≤ 8192
  ok : ∀ w ∈ σ.ws, w.Ok
  f0 : 0 ≤ σ.fuse
  f1 : σ.fuse ≤ 9223372036854775807
  a : σ.acts.length ≤ 16384

/-- A device of the program's. -/
def DevP (p : Nat) (σ : Dv) (H : Hp) : Prop :=
  σ.Ok ∧ ∃ bw vp va Hq Ha, Sl 5 1 vp (σ.picks.map bv) Hq ∧ Sl 157 3 va (σ.acts.flatMap ac) Ha ∧
    H = (p, cl [.slice (some ⟨bw, 0, none⟩) σ.ws.length σ.ws.length, .bool σ.down, .int .i64 σ.fuse, vp, va] 144) :: (bw, cl (σ.ws.flatMap wc) 151) :: (Hq ++ Ha)

/-! ### Words -/
end Go.Proofs.YtieamijnajbcnaaGreat

namespace Go.Proofs.YtieamijnajbcnaaGreat
open Go
attribute [local irreducible] SW SL SQ SH SA Pu Fin

def Dv.len (σ : Dv) : Nat := 8 * σ.ws.length
theorem len_p {p : Nat} {σ : Dv} {H : Hp} (hD : DevP p σ H) : Tri Tryz.prog 24 [.pointer (some ⟨p, 0, none⟩)] H (fun _ => True) (fun v H' => v = .int .i64 σ.len ∧ H' = H) := by
  obtain ⟨hO, bw, vp, va, Hq, Ha, h1, h2, rfl⟩ := hD
  have hn := hO.n
  refine Tri.mk Tryz.func24 rfl Tryz.ntmps24 rfl fun w hw => ?_
  (repeat' (first | (refine SL.isGd ?_; refine SL.sk rfl rfl ?_) | (refine SL.isMove ?_; refine SL.pu (p_move rfl rfl) rfl rfl ?_) | (refine SL.isAssign ?_; refine SL.pu (p_assign rfl rfl) rfl rfl ?_) | (refine SL.isNil ?_; refine SL.pu (p_nil rfl rfl) rfl rfl ?_) | (refine SL.isFldA ?_; refine SL.pu (p_fieldAddr rfl rfl rfl) rfl rfl ?_) | (refine SL.isLoad ?_; (first | refine SL.pu (p_load_s rfl rfl rfl) rfl rfl ?_ | refine SL.pu (p_load_s rfl rfl (by assumption)) rfl rfl ?_ | refine SL.pu (p_load_a rfl rfl rfl rfl) rfl rfl ?_ | refine SL.pu (p_load_a rfl rfl (by assumption) (by assumption)) rfl rfl ?_)) | (refine SL.isCallB ?_; (first | refine SL.pu (p_len_slice rfl rfl) rfl rfl ?_ | refine SL.pu (p_len_str rfl rfl) rfl rfl ?_ | refine SL.pu (p_len_arr rfl rfl) rfl rfl ?_ | refine SL.pu (p_cap_slice rfl rfl) rfl rfl ?_ | refine SL.pu (p_max rfl rfl rfl rfl) rfl rfl ?_ | refine SL.pu (p_min rfl rfl rfl rfl) rfl rfl ?_)) | (refine SL.isPick ?_; (first | refine SL.pu (p_pick_t rfl rfl rfl) rfl rfl ?_ | refine SL.pu (p_pick_f rfl rfl rfl) rfl rfl ?_)) | (refine SL.isMkFn ?_; refine SL.pu (p_makeFunc rfl rfl rfl) rfl rfl ?_) | (refine SL.isUn ?_; refine SL.pu (p_not rfl rfl) rfl rfl ?_) | (refine SL.isBuild ?_; (first | refine SL.pu (p_build rfl rfl (by rfl)) rfl rfl ?_ | refine SL.pu (p_build_arr rfl rfl (by rfl)) rfl rfl ?_)) | (refine SL.isFld ?_; (first | refine SL.pu (p_field rfl rfl rfl) rfl rfl ?_ | refine SL.pu (p_field rfl rfl (by assumption)) rfl rfl ?_ | refine SL.pu (p_field_a rfl rfl rfl) rfl rfl ?_)) | (refine SL.b_add ?_; refine SL.pu (p_add rfl rfl rfl (w64 (by omega))) rfl rfl ?_) | (refine SL.b_sub ?_; refine SL.pu (p_sub rfl rfl rfl (w64 (by omega))) rfl rfl ?_) | (refine SL.b_mul ?_; refine SL.pu (p_mul rfl rfl rfl (w64 (by omega))) rfl rfl ?_) | (refine SL.b_quo ?_; refine SL.pu (p_quo rfl rfl rfl (by decide) (w64 (by omega))) rfl rfl ?_) | (refine SL.b_rem ?_; refine SL.pu (p_rem rfl rfl rfl (by decide) rfl) rfl rfl ?_) | (refine SL.b_lss ?_; (first | refine SL.pu (Pu.t (p_lss rfl rfl rfl) (by omega)) rfl rfl ?_ | refine SL.pu (Pu.f (p_lss rfl rfl rfl) (by omega)) rfl rfl ?_)) | (refine SL.b_leq ?_; (first | refine SL.pu (Pu.t (p_leq rfl rfl rfl) (by omega)) rfl rfl ?_ | refine SL.pu (Pu.f (p_leq rfl rfl rfl) (by omega)) rfl rfl ?_)) | (refine SL.b_gtr ?_; (first | refine SL.pu (Pu.t (p_gtr rfl rfl rfl) (by omega)) rfl rfl ?_ | refine SL.pu (Pu.f (p_gtr rfl rfl rfl) (by omega)) rfl rfl ?_)) | (refine SL.b_geq ?_; (first | refine SL.pu (Pu.t (p_geq rfl rfl rfl) (by omega)) rfl rfl ?_ | refine SL.pu (Pu.f (p_geq rfl rfl rfl) (by omega)) rfl rfl ?_)) | (refine SL.b_eql ?_; (first | refine SL.pu (p_eqnil rfl rfl rfl) rfl rfl ?_ | refine SL.pu (p_eqslnil rfl rfl rfl) rfl rfl ?_ | refine SL.pu (Pu.t (p_eql rfl rfl rfl) (by omega)) rfl rfl ?_ | refine SL.pu (Pu.f (p_eql rfl rfl rfl) (by omega)) rfl rfl ?_)) | (refine SL.b_neq ?_; (first | refine SL.pu (p_nenil rfl rfl rfl) rfl rfl ?_ | refine SL.pu (p_neslnil rfl rfl rfl) rfl rfl ?_ | refine SL.pu (Pu.t (p_neq rfl rfl rfl) (by omega)) rfl rfl ?_ | refine SL.pu (Pu.f (p_neq rfl rfl rfl) (by omega)) rfl rfl ?_)) | (refine SL.isBox ?_; (first | refine SL.box rfl rfl rfl rfl (fun b_ => ?_) | refine SL.box_a rfl rfl rfl rfl (fun b_ => ?_))) | (refine SL.isAlloc ?_; refine SL.alloc rfl rfl rfl (fun b_ => ?_)) | (refine SL.isStore ?_; (first | refine SL.store rfl rfl rfl rfl rfl (by first | assumption | exact Nat.le_of_ble_eq_true rfl) ?_ | refine SL.store_w rfl rfl rfl rfl rfl (by first | assumption | rfl) (by rfl) ?_ | refine SL.store_a rfl rfl rfl rfl rfl (by first | rfl | assumption) (by first | assumption | exact Nat.le_of_ble_eq_true rfl) (by first | assumption | rfl) ?_)) | refine SL.nil ?_ | refine SW.seq ?_ | refine SW.region ?_ | refine SW.block ?_ | refine SW.cond_t rfl ?_ | refine SW.cond_f rfl ?_ | refine SW.ret ?_ | refine SW.skip ?_ | refine SW.exit ?_))
  exact Fin.s1 (.inl rfl) rfl rfl ⟨by simp [Dv.len], rfl⟩

/-- Is the power on, and are there such bytes? -/
def Dv.rdy (σ : Dv) (x n : Int) : Int := if σ.down = true then 8 else if x < 0 ∨ n < 0 ∨ (σ.len : Int) < n ∨ (σ.len : Int) - n < x then 3 else 0
theorem ready_p {p : Nat} {σ : Dv} {H : Hp} (hD : DevP p σ H) (x n : Int) : Tri Tryz.prog 56 [.pointer (some ⟨p, 0, none⟩), .int .i64 x, .int .i64 n] H (fun _ => True) (fun v H' => v = .int .i64 (σ.rdy x n) ∧ H' = H) := by
  have hlen := len_p hD
  obtain ⟨hO, bw, vp, va, Hq, Ha, h1, h2, hH⟩ := hD
  have hn : σ.len ≤ 65536 := by have := hO.n; simp only [Dv.len]; omega
  subst hH
  refine Tri.mk Tryz.func56 rfl Tryz.ntmps56 rfl fun w hw => ?_
  (repeat' (first | (refine SL.isGd ?_; refine SL.sk rfl rfl ?_) | (refine SL.isCallV ?_; ((refine SL.call _ rfl rfl rfl rfl hlen (fun _ _ => trivial) ?_; rintro _ _ ⟨rfl, rfl⟩))) | (refine SL.isMove ?_; refine SL.pu (p_move rfl rfl) rfl rfl ?_) | (refine SL.isAssign ?_; refine SL.pu (p_assign rfl rfl) rfl rfl ?_) | (refine SL.isNil ?_; refine SL.pu (p_nil rfl rfl) rfl rfl ?_) | (refine SL.isFldA ?_; refine SL.pu (p_fieldAddr rfl rfl rfl) rfl rfl ?_) | (refine SL.isLoad ?_; (first | refine SL.pu (p_load_s rfl rfl rfl) rfl rfl ?_ | refine SL.pu (p_load_s rfl rfl (by assumption)) rfl rfl ?_ | refine SL.pu (p_load_a rfl rfl rfl rfl) rfl rfl ?_ | refine SL.pu (p_load_a rfl rfl (by assumption) (by assumption)) rfl rfl ?_)) | (refine SL.isCallB ?_; (first | refine SL.pu (p_len_slice rfl rfl) rfl rfl ?_ | refine SL.pu (p_len_str rfl rfl) rfl rfl ?_ | refine SL.pu (p_len_arr rfl rfl) rfl rfl ?_ | refine SL.pu (p_cap_slice rfl rfl) rfl rfl ?_ | refine SL.pu (p_max rfl rfl rfl rfl) rfl rfl ?_ | refine SL.pu (p_min rfl rfl rfl rfl) rfl rfl ?_)) | (refine SL.isPick ?_; (first | refine SL.pu (p_pick_t rfl rfl rfl) rfl rfl ?_ | refine SL.pu (p_pick_f rfl rfl rfl) rfl rfl ?_)) | (refine SL.isMkFn ?_; refine SL.pu (p_makeFunc rfl rfl rfl) rfl rfl ?_) | (refine SL.isUn ?_; refine SL.pu (p_not rfl rfl) rfl rfl ?_) | (refine SL.isBuild ?_; (first | refine SL.pu (p_build rfl rfl (by rfl)) rfl rfl ?_ | refine SL.pu (p_build_arr rfl rfl (by rfl)) rfl rfl ?_)) | (refine SL.isFld ?_; (first | refine SL.pu (p_field rfl rfl rfl) rfl rfl ?_ | refine SL.pu (p_field rfl rfl (by assumption)) rfl rfl ?_ | refine SL.pu (p_field_a rfl rfl rfl) rfl rfl ?_)) | (refine SL.b_add ?_; refine SL.pu (p_add rfl rfl rfl (w64 (by omega))) rfl rfl ?_) | (refine SL.b_sub ?_; refine SL.pu (p_sub rfl rfl rfl (w64 (by omega))) rfl rfl ?_) | (refine SL.b_mul ?_; refine SL.pu (p_mul rfl rfl rfl (w64 (by omega))) rfl rfl ?_) | (refine SL.b_quo ?_; refine SL.pu (p_quo rfl rfl rfl (by decide) (w64 (by omega))) rfl rfl ?_) | (refine SL.b_rem ?_; refine SL.pu (p_rem rfl rfl rfl (by decide) rfl) rfl rfl ?_) | (refine SL.b_lss ?_; (first | refine SL.pu (Pu.t (p_lss rfl rfl rfl) (by omega)) rfl rfl ?_ | refine SL.pu (Pu.f (p_lss rfl rfl rfl) (by omega)) rfl rfl ?_ | refine SL.cmp (p_lss rfl rfl rfl) rfl rfl (fun h_ => ?_) (fun h_ => ?_))) | (refine SL.b_leq ?_; (first | refine SL.pu (Pu.t (p_leq rfl rfl rfl) (by omega)) rfl rfl ?_ | refine SL.pu (Pu.f (p_leq rfl rfl rfl) (by omega)) rfl rfl ?_ | refine SL.cmp (p_leq rfl rfl rfl) rfl rfl (fun h_ => ?_) (fun h_ => ?_))) | (refine SL.b_gtr ?_; (first | refine SL.pu (Pu.t (p_gtr rfl rfl rfl) (by omega)) rfl rfl ?_ | refine SL.pu (Pu.f (p_gtr rfl rfl rfl) (by omega)) rfl rfl ?_ | refine SL.cmp (p_gtr rfl rfl rfl) rfl rfl (fun h_ => ?_) (fun h_ => ?_))) | (refine SL.b_geq ?_; (first | refine SL.pu (Pu.t (p_geq rfl rfl rfl) (by omega)) rfl rfl ?_ | refine SL.pu (Pu.f (p_geq rfl rfl rfl) (by omega)) rfl rfl ?_ | refine SL.cmp (p_geq rfl rfl rfl) rfl rfl (fun h_ => ?_) (fun h_ => ?_))) | (refine SL.b_eql ?_; (first | refine SL.pu (p_eqnil rfl rfl rfl) rfl rfl ?_ | refine SL.pu (p_eqslnil rfl rfl rfl) rfl rfl ?_ | refine SL.pu (Pu.t (p_eql rfl rfl rfl) (by omega)) rfl rfl ?_ | refine SL.pu (Pu.f (p_eql rfl rfl rfl) (by omega)) rfl rfl ?_ | refine SL.cmp (p_eql rfl rfl rfl) rfl rfl (fun h_ => ?_) (fun h_ => ?_))) | (refine SL.b_neq ?_; (first | refine SL.pu (p_nenil rfl rfl rfl) rfl rfl ?_ | refine SL.pu (p_neslnil rfl rfl rfl) rfl rfl ?_ | refine SL.pu (Pu.t (p_neq rfl rfl rfl) (by omega)) rfl rfl ?_ | refine SL.pu (Pu.f (p_neq rfl rfl rfl) (by omega)) rfl rfl ?_ | refine SL.cmp (p_neq rfl rfl rfl) rfl rfl (fun h_ => ?_) (fun h_ => ?_))) | (refine SL.isBox ?_; (first | refine SL.box rfl rfl rfl rfl (fun b_ => ?_) | refine SL.box_a rfl rfl rfl rfl (fun b_ => ?_))) | (refine SL.isAlloc ?_; refine SL.alloc rfl rfl rfl (fun b_ => ?_)) | (refine SL.isStore ?_; (first | refine SL.store rfl rfl rfl rfl rfl (by first | assumption | exact Nat.le_of_ble_eq_true rfl) ?_ | refine SL.store_w rfl rfl rfl rfl rfl (by first | assumption | rfl) (by rfl) ?_ | refine SL.store_a rfl rfl rfl rfl rfl (by first | rfl | assumption) (by first | assumption | exact Nat.le_of_ble_eq_true rfl) (by first | assumption | rfl) ?_)) | refine SL.nil ?_ | refine SW.seq ?_ | refine SW.region ?_ | refine SW.block ?_ | refine SW.cond_t rfl ?_ | refine SW.cond_f rfl ?_ | refine SW.ret ?_ | refine SW.skip ?_ | refine SW.exit ?_ | refine SW.cond_b rfl (fun h_ => ?_) (fun h_ => ?_)))
  all_goals (refine Fin.r1 (.inl rfl) rfl rfl _ ⟨?_, rfl⟩; unfold Dv.rdy; congr 1)
  all_goals (repeat' split)
  all_goals first | rfl | (exfalso; simp_all; done) | (exfalso; omega)

end Go.Proofs.YtieamijnajbcnaaGreat

namespace Go.Proofs.YtieamijnajbcnaaGreat
open Go
attribute [local irreducible] SW SL SQ SH SA Pu Fin

/-- A device's header. -/
def hdr (bw n : Nat) (d : Bool) (f : Int) (vp va : Value) : Obj := cl [.slice (some ⟨bw, 0, none⟩) n n, .bool d, .int .i64 f, vp, va] 144

end Go.Proofs.YtieamijnajbcnaaGreat

namespace Go.Proofs.YtieamijnajbcnaaGreat
open Go
attribute [local irreducible] SW SL SQ SH SA Pu Fin

end Go.Proofs.YtieamijnajbcnaaGreat

namespace Go.Proofs.YtieamijnajbcnaaGreat
open Go
attribute [local irreducible] SW SL SQ SH SA Pu Fin

/-! ### Do -/
/-! ### Copies of slices -/
end Go.Proofs.YtieamijnajbcnaaGreat

namespace Go.Proofs.YtieamijnajbcnaaGreat
open Go
attribute [local irreducible] SW SL SQ SH SA Pu Fin

/-! ### Arm -/
/-! ### New -/
def Wd.zero : Wd := ⟨List.replicate 8 0, List.replicate 8 0, false, false⟩
def Dv.new (n : Int) : Dv := ⟨List.replicate (8 * min (max n 0) 1024).toNat Wd.zero, false, 0, [], []⟩
theorem Dv.new_ok (n : Int) : (Dv.new n).Ok := ⟨by simp [Dv.new]; omega, by intro w hw; simp only [Dv.new, List.mem_replicate] at hw; rw [hw.2]; exact ⟨⟨rfl, rfl⟩, by simp [Wd.zero]⟩, Int.le_refl _, by simp [Dv.new], by simp [Dv.new]⟩
theorem nnew_p (n : Int) : Tri Tryz.prog 35 [.int .i64 n] [] (fun _ => True) (fun v H' => ∃ p, v = .pointer (some ⟨p, 0, none⟩) ∧ DevP p (Dv.new n) H') := by
  refine Tri.mk Tryz.func35 rfl Tryz.ntmps35 rfl fun w hw => ?_
  (repeat' (first | (refine SL.isGd ?_; refine SL.sk rfl rfl ?_) | (refine SL.isMove ?_; refine SL.pu (p_move rfl rfl) rfl rfl ?_) | (refine SL.isAssign ?_; refine SL.pu (p_assign rfl rfl) rfl rfl ?_) | (refine SL.isNil ?_; refine SL.pu (p_nil rfl rfl) rfl rfl ?_) | (refine SL.isFldA ?_; refine SL.pu (p_fieldAddr rfl rfl rfl) rfl rfl ?_) | (refine SL.isLoad ?_; (first | refine SL.pu (p_load_s rfl rfl rfl) rfl rfl ?_ | refine SL.pu (p_load_s rfl rfl (by assumption)) rfl rfl ?_ | refine SL.pu (p_load_a rfl rfl rfl rfl) rfl rfl ?_ | refine SL.pu (p_load_a rfl rfl (by assumption) (by assumption)) rfl rfl ?_)) | (refine SL.isCallB ?_; (first | refine SL.pu (p_len_slice rfl rfl) rfl rfl ?_ | refine SL.pu (p_len_str rfl rfl) rfl rfl ?_ | refine SL.pu (p_len_arr rfl rfl) rfl rfl ?_ | refine SL.pu (p_cap_slice rfl rfl) rfl rfl ?_ | refine SL.pu (p_max rfl rfl rfl rfl) rfl rfl ?_ | refine SL.pu (p_min rfl rfl rfl rfl) rfl rfl ?_)) | (refine SL.isPick ?_; (first | refine SL.pu (p_pick_t rfl rfl rfl) rfl rfl ?_ | refine SL.pu (p_pick_f rfl rfl rfl) rfl rfl ?_)) | (refine SL.isMkFn ?_; refine SL.pu (p_makeFunc rfl rfl rfl) rfl rfl ?_) | (refine SL.isUn ?_; refine SL.pu (p_not rfl rfl) rfl rfl ?_) | (refine SL.isBuild ?_; (first | refine SL.pu (p_build rfl rfl (by rfl)) rfl rfl ?_ | refine SL.pu (p_build_arr rfl rfl (by rfl)) rfl rfl ?_)) | (refine SL.isFld ?_; (first | refine SL.pu (p_field rfl rfl rfl) rfl rfl ?_ | refine SL.pu (p_field rfl rfl (by assumption)) rfl rfl ?_ | refine SL.pu (p_field_a rfl rfl rfl) rfl rfl ?_)) | (refine SL.b_add ?_; refine SL.pu (p_add rfl rfl rfl (w64 (by omega))) rfl rfl ?_) | (refine SL.b_sub ?_; refine SL.pu (p_sub rfl rfl rfl (w64 (by omega))) rfl rfl ?_) | (refine SL.b_mul ?_; refine SL.pu (p_mul rfl rfl rfl (w64 (by omega))) rfl rfl ?_) | (refine SL.b_quo ?_; refine SL.pu (p_quo rfl rfl rfl (by decide) (w64 (by omega))) rfl rfl ?_) | (refine SL.b_rem ?_; refine SL.pu (p_rem rfl rfl rfl (by decide) rfl) rfl rfl ?_) | (refine SL.b_lss ?_; (first | refine SL.pu (Pu.t (p_lss rfl rfl rfl) (by omega)) rfl rfl ?_ | refine SL.pu (Pu.f (p_lss rfl rfl rfl) (by omega)) rfl rfl ?_)) | (refine SL.b_leq ?_; (first | refine SL.pu (Pu.t (p_leq rfl rfl rfl) (by omega)) rfl rfl ?_ | refine SL.pu (Pu.f (p_leq rfl rfl rfl) (by omega)) rfl rfl ?_)) | (refine SL.b_gtr ?_; (first | refine SL.pu (Pu.t (p_gtr rfl rfl rfl) (by omega)) rfl rfl ?_ | refine SL.pu (Pu.f (p_gtr rfl rfl rfl) (by omega)) rfl rfl ?_)) | (refine SL.b_geq ?_; (first | refine SL.pu (Pu.t (p_geq rfl rfl rfl) (by omega)) rfl rfl ?_ | refine SL.pu (Pu.f (p_geq rfl rfl rfl) (by omega)) rfl rfl ?_)) | (refine SL.b_eql ?_; (first | refine SL.pu (p_eqnil rfl rfl rfl) rfl rfl ?_ | refine SL.pu (p_eqslnil rfl rfl rfl) rfl rfl ?_ | refine SL.pu (Pu.t (p_eql rfl rfl rfl) (by omega)) rfl rfl ?_ | refine SL.pu (Pu.f (p_eql rfl rfl rfl) (by omega)) rfl rfl ?_)) | (refine SL.b_neq ?_; (first | refine SL.pu (p_nenil rfl rfl rfl) rfl rfl ?_ | refine SL.pu (p_neslnil rfl rfl rfl) rfl rfl ?_ | refine SL.pu (Pu.t (p_neq rfl rfl rfl) (by omega)) rfl rfl ?_ | refine SL.pu (Pu.f (p_neq rfl rfl rfl) (by omega)) rfl rfl ?_)) | (refine SL.isBox ?_; (first | refine SL.box rfl rfl rfl rfl (fun b_ => ?_) | refine SL.box_a rfl rfl rfl rfl (fun b_ => ?_))) | (refine SL.isAlloc ?_; refine SL.alloc rfl rfl rfl (fun b_ => ?_)) | (refine SL.isStore ?_; (first | refine SL.store rfl rfl rfl rfl rfl (by first | assumption | exact Nat.le_of_ble_eq_true rfl) ?_ | refine SL.store_w rfl rfl rfl rfl rfl (by first | assumption | rfl) (by rfl) ?_ | refine SL.store_a rfl rfl rfl rfl rfl (by first | rfl | assumption) (by first | assumption | exact Nat.le_of_ble_eq_true rfl) (by first | assumption | rfl) ?_)) | refine SL.nil ?_ | refine SW.seq ?_ | refine SW.region ?_ | refine SW.block ?_ | refine SW.cond_t rfl ?_ | refine SW.cond_f rfl ?_ | refine SW.ret ?_ | refine SW.skip ?_ | refine SW.exit ?_))
  refine SL.make (n := 18) (l := (8 * min (max n 0) 1024).toNat) (c := (8 * min (max n 0) 1024).toNat) rfl rfl rfl rfl rfl (by omega) (by omega) (by rfl) (by decide) (Nat.le_refl _) (by omega) (by decide) (fun bw => ?_)
  (repeat' (first | (refine SL.isGd ?_; refine SL.sk rfl rfl ?_) | (refine SL.isMove ?_; refine SL.pu (p_move rfl rfl) rfl rfl ?_) | (refine SL.isAssign ?_; refine SL.pu (p_assign rfl rfl) rfl rfl ?_) | (refine SL.isNil ?_; refine SL.pu (p_nil rfl rfl) rfl rfl ?_) | (refine SL.isFldA ?_; refine SL.pu (p_fieldAddr rfl rfl rfl) rfl rfl ?_) | (refine SL.isLoad ?_; (first | refine SL.pu (p_load_s rfl rfl rfl) rfl rfl ?_ | refine SL.pu (p_load_s rfl rfl (by assumption)) rfl rfl ?_ | refine SL.pu (p_load_a rfl rfl rfl rfl) rfl rfl ?_ | refine SL.pu (p_load_a rfl rfl (by assumption) (by assumption)) rfl rfl ?_)) | (refine SL.isCallB ?_; (first | refine SL.pu (p_len_slice rfl rfl) rfl rfl ?_ | refine SL.pu (p_len_str rfl rfl) rfl rfl ?_ | refine SL.pu (p_len_arr rfl rfl) rfl rfl ?_ | refine SL.pu (p_cap_slice rfl rfl) rfl rfl ?_ | refine SL.pu (p_max rfl rfl rfl rfl) rfl rfl ?_ | refine SL.pu (p_min rfl rfl rfl rfl) rfl rfl ?_)) | (refine SL.isPick ?_; (first | refine SL.pu (p_pick_t rfl rfl rfl) rfl rfl ?_ | refine SL.pu (p_pick_f rfl rfl rfl) rfl rfl ?_)) | (refine SL.isMkFn ?_; refine SL.pu (p_makeFunc rfl rfl rfl) rfl rfl ?_) | (refine SL.isUn ?_; refine SL.pu (p_not rfl rfl) rfl rfl ?_) | (refine SL.isBuild ?_; (first | refine SL.pu (p_build rfl rfl (by rfl)) rfl rfl ?_ | refine SL.pu (p_build_arr rfl rfl (by rfl)) rfl rfl ?_)) | (refine SL.isFld ?_; (first | refine SL.pu (p_field rfl rfl rfl) rfl rfl ?_ | refine SL.pu (p_field rfl rfl (by assumption)) rfl rfl ?_ | refine SL.pu (p_field_a rfl rfl rfl) rfl rfl ?_)) | (refine SL.b_add ?_; refine SL.pu (p_add rfl rfl rfl (w64 (by omega))) rfl rfl ?_) | (refine SL.b_sub ?_; refine SL.pu (p_sub rfl rfl rfl (w64 (by omega))) rfl rfl ?_) | (refine SL.b_mul ?_; refine SL.pu (p_mul rfl rfl rfl (w64 (by omega))) rfl rfl ?_) | (refine SL.b_quo ?_; refine SL.pu (p_quo rfl rfl rfl (by decide) (w64 (by omega))) rfl rfl ?_) | (refine SL.b_rem ?_; refine SL.pu (p_rem rfl rfl rfl (by decide) rfl) rfl rfl ?_) | (refine SL.b_lss ?_; (first | refine SL.pu (Pu.t (p_lss rfl rfl rfl) (by omega)) rfl rfl ?_ | refine SL.pu (Pu.f (p_lss rfl rfl rfl) (by omega)) rfl rfl ?_)) | (refine SL.b_leq ?_; (first | refine SL.pu (Pu.t (p_leq rfl rfl rfl) (by omega)) rfl rfl ?_ | refine SL.pu (Pu.f (p_leq rfl rfl rfl) (by omega)) rfl rfl ?_)) | (refine SL.b_gtr ?_; (first | refine SL.pu (Pu.t (p_gtr rfl rfl rfl) (by omega)) rfl rfl ?_ | refine SL.pu (Pu.f (p_gtr rfl rfl rfl) (by omega)) rfl rfl ?_)) | (refine SL.b_geq ?_; (first | refine SL.pu (Pu.t (p_geq rfl rfl rfl) (by omega)) rfl rfl ?_ | refine SL.pu (Pu.f (p_geq rfl rfl rfl) (by omega)) rfl rfl ?_)) | (refine SL.b_eql ?_; (first | refine SL.pu (p_eqnil rfl rfl rfl) rfl rfl ?_ | refine SL.pu (p_eqslnil rfl rfl rfl) rfl rfl ?_ | refine SL.pu (Pu.t (p_eql rfl rfl rfl) (by omega)) rfl rfl ?_ | refine SL.pu (Pu.f (p_eql rfl rfl rfl) (by omega)) rfl rfl ?_)) | (refine SL.b_neq ?_; (first | refine SL.pu (p_nenil rfl rfl rfl) rfl rfl ?_ | refine SL.pu (p_neslnil rfl rfl rfl) rfl rfl ?_ | refine SL.pu (Pu.t (p_neq rfl rfl rfl) (by omega)) rfl rfl ?_ | refine SL.pu (Pu.f (p_neq rfl rfl rfl) (by omega)) rfl rfl ?_)) | (refine SL.isBox ?_; (first | refine SL.box rfl rfl rfl rfl (fun b_ => ?_) | refine SL.box_a rfl rfl rfl rfl (fun b_ => ?_))) | (refine SL.isAlloc ?_; refine SL.alloc rfl rfl rfl (fun b_ => ?_)) | (refine SL.isStore ?_; (first | refine SL.store rfl rfl rfl rfl rfl (by first | assumption | exact Nat.le_of_ble_eq_true rfl) ?_ | refine SL.store_w rfl rfl rfl rfl rfl (by first | assumption | rfl) (by rfl) ?_ | refine SL.store_a rfl rfl rfl rfl rfl (by first | rfl | assumption) (by first | assumption | exact Nat.le_of_ble_eq_true rfl) (by first | assumption | rfl) ?_)) | refine SL.nil ?_ | refine SW.seq ?_ | refine SW.region ?_ | refine SW.block ?_ | refine SW.cond_t rfl ?_ | refine SW.cond_f rfl ?_ | refine SW.ret ?_ | refine SW.skip ?_ | refine SW.exit ?_))
  refine Fin.perm (List.Perm.refl _) (Fin.s1 (.inl rfl) rfl rfl ⟨b_, rfl, Dv.new_ok n, bw, _, _, [], [], Sl.nil _ _, Sl.nil _ _, ?_⟩)
  have hz : (Dv.new n).ws.length = (8 * min (max n 0) 1024).toNat := by simp [Dv.new]
  have hw : (Dv.new n).ws.flatMap wc = zs (wc Wd.zero) (8 * min (max n 0) 1024).toNat := by simp only [Dv.new, zs, List.flatMap_def, List.map_replicate]
  rw [hz, hw]
  rfl

/-! ### Acts -/
end Go.Proofs.YtieamijnajbcnaaGreat

namespace Go.Proofs.YtieamijnajbcnaaGreat
open Go
attribute [local irreducible] SW SL SQ SH SA Pu Fin

structure Rg where
  c : Int
  root : List UInt8
def rgc (r : Rg) : List Value := .int .u64 r.c :: r.root.map bv
structure Rg.Ok (r : Rg) : Prop where
  len : r.root.length = 32
  c0 : 0 ≤ r.c
  c1 : r.c ≤ 18446744073709551615
theorem rgc_len {r : Rg} (h : r.Ok) : (rgc r).length = 33 := by simp [rgc, h.len]
def fnc (f p : Nat) : Value := .func (.func f) #[.pointer (some ⟨p, 0, none⟩)] #[]
def trc (p : Nat) (r : Rg) : List Value := rgc r ++ [fnc 71 p, fnc 72 p]
/-! ### Read -/
/-! ### Last -/
/-! ### At, New -/
theorem at_p (p : Nat) (r : Rg) (h : r.Ok) : Tri Tryz.prog 36 [.pointer (some ⟨p, 0, none⟩), .agg (rgc r).toArray] [] (fun _ => True) (fun v H => ∃ tp, v = .pointer (some ⟨tp, 0, none⟩) ∧ H = [(tp, cl (trc p r) 179)]) := by
  have hl := rgc_len h
  have hr : ((rgc r).drop 0).take 33 = rgc r := by rw [List.drop_zero, List.take_of_length_le (by omega)]
  refine Tri.mk Tryz.func36 rfl Tryz.ntmps36 rfl fun w hw => ?_
  (repeat' (first | (refine SL.isGd ?_; refine SL.sk rfl rfl ?_) | (refine SL.isMove ?_; refine SL.pu (p_move rfl rfl) rfl rfl ?_) | (refine SL.isAssign ?_; refine SL.pu (p_assign rfl rfl) rfl rfl ?_) | (refine SL.isNil ?_; refine SL.pu (p_nil rfl rfl) rfl rfl ?_) | (refine SL.isFldA ?_; refine SL.pu (p_fieldAddr rfl rfl rfl) rfl rfl ?_) | (refine SL.isLoad ?_; (first | refine SL.pu (p_load_s rfl rfl rfl) rfl rfl ?_ | refine SL.pu (p_load_s rfl rfl (by assumption)) rfl rfl ?_ | refine SL.pu (p_load_a rfl rfl rfl rfl) rfl rfl ?_ | refine SL.pu (p_load_a rfl rfl (by assumption) (by assumption)) rfl rfl ?_)) | (refine SL.isCallB ?_; (first | refine SL.pu (p_len_slice rfl rfl) rfl rfl ?_ | refine SL.pu (p_len_str rfl rfl) rfl rfl ?_ | refine SL.pu (p_len_arr rfl rfl) rfl rfl ?_ | refine SL.pu (p_cap_slice rfl rfl) rfl rfl ?_ | refine SL.pu (p_max rfl rfl rfl rfl) rfl rfl ?_ | refine SL.pu (p_min rfl rfl rfl rfl) rfl rfl ?_)) | (refine SL.isPick ?_; (first | refine SL.pu (p_pick_t rfl rfl rfl) rfl rfl ?_ | refine SL.pu (p_pick_f rfl rfl rfl) rfl rfl ?_)) | (refine SL.isMkFn ?_; refine SL.pu (p_makeFunc rfl rfl rfl) rfl rfl ?_) | (refine SL.isUn ?_; refine SL.pu (p_not rfl rfl) rfl rfl ?_) | (refine SL.isBuild ?_; (first | refine SL.pu (p_build rfl rfl (by rfl)) rfl rfl ?_ | refine SL.pu (p_build_arr rfl rfl (by rfl)) rfl rfl ?_)) | (refine SL.isFld ?_; (first | refine SL.pu (p_field rfl rfl rfl) rfl rfl ?_ | refine SL.pu (p_field rfl rfl (by assumption)) rfl rfl ?_ | refine SL.pu (p_field_a rfl rfl rfl) rfl rfl ?_)) | (refine SL.b_add ?_; refine SL.pu (p_add rfl rfl rfl (w64 (by omega))) rfl rfl ?_) | (refine SL.b_sub ?_; refine SL.pu (p_sub rfl rfl rfl (w64 (by omega))) rfl rfl ?_) | (refine SL.b_mul ?_; refine SL.pu (p_mul rfl rfl rfl (w64 (by omega))) rfl rfl ?_) | (refine SL.b_quo ?_; refine SL.pu (p_quo rfl rfl rfl (by decide) (w64 (by omega))) rfl rfl ?_) | (refine SL.b_rem ?_; refine SL.pu (p_rem rfl rfl rfl (by decide) rfl) rfl rfl ?_) | (refine SL.b_lss ?_; (first | refine SL.pu (Pu.t (p_lss rfl rfl rfl) (by omega)) rfl rfl ?_ | refine SL.pu (Pu.f (p_lss rfl rfl rfl) (by omega)) rfl rfl ?_)) | (refine SL.b_leq ?_; (first | refine SL.pu (Pu.t (p_leq rfl rfl rfl) (by omega)) rfl rfl ?_ | refine SL.pu (Pu.f (p_leq rfl rfl rfl) (by omega)) rfl rfl ?_)) | (refine SL.b_gtr ?_; (first | refine SL.pu (Pu.t (p_gtr rfl rfl rfl) (by omega)) rfl rfl ?_ | refine SL.pu (Pu.f (p_gtr rfl rfl rfl) (by omega)) rfl rfl ?_)) | (refine SL.b_geq ?_; (first | refine SL.pu (Pu.t (p_geq rfl rfl rfl) (by omega)) rfl rfl ?_ | refine SL.pu (Pu.f (p_geq rfl rfl rfl) (by omega)) rfl rfl ?_)) | (refine SL.b_eql ?_; (first | refine SL.pu (p_eqnil rfl rfl rfl) rfl rfl ?_ | refine SL.pu (p_eqslnil rfl rfl rfl) rfl rfl ?_ | refine SL.pu (Pu.t (p_eql rfl rfl rfl) (by omega)) rfl rfl ?_ | refine SL.pu (Pu.f (p_eql rfl rfl rfl) (by omega)) rfl rfl ?_)) | (refine SL.b_neq ?_; (first | refine SL.pu (p_nenil rfl rfl rfl) rfl rfl ?_ | refine SL.pu (p_neslnil rfl rfl rfl) rfl rfl ?_ | refine SL.pu (Pu.t (p_neq rfl rfl rfl) (by omega)) rfl rfl ?_ | refine SL.pu (Pu.f (p_neq rfl rfl rfl) (by omega)) rfl rfl ?_)) | (refine SL.isBox ?_; (first | refine SL.box rfl rfl rfl rfl (fun b_ => ?_) | refine SL.box_a rfl rfl rfl rfl (fun b_ => ?_))) | (refine SL.isAlloc ?_; refine SL.alloc rfl rfl rfl (fun b_ => ?_)) | (refine SL.isStore ?_; (first | refine SL.store rfl rfl rfl rfl rfl (by first | assumption | exact Nat.le_of_ble_eq_true rfl) ?_ | refine SL.store_w rfl rfl rfl rfl rfl (by first | assumption | rfl) (by rfl) ?_ | refine SL.store_a rfl rfl rfl rfl rfl (by first | rfl | assumption) (by first | assumption | exact Nat.le_of_ble_eq_true rfl) (by first | assumption | rfl) ?_)) | refine SL.nil ?_ | refine SW.seq ?_ | refine SW.region ?_ | refine SW.block ?_ | refine SW.cond_t rfl ?_ | refine SW.cond_f rfl ?_ | refine SW.ret ?_ | refine SW.skip ?_ | refine SW.exit ?_))
  refine SL.pu (p_build (r := trc p r) rfl rfl ?_) rfl rfl ?_
  · refine bf_step (rgc r ++ [.nilFunc, .nilFunc]) rfl hl (by decide) (by rfl) ?_
    refine bf_step (rgc r ++ [fnc 71 p, .nilFunc]) rfl rfl (by simp [hl]) (by simp [hl, vl, fnc, List.take_append, List.drop_append]) ?_
    refine bf_step (trc p r) rfl rfl (by simp [hl]) (by simp [hl, vl, fnc, trc, List.take_append, List.drop_append, List.take_of_length_le, List.drop_eq_nil_of_le]) rfl
  (repeat' (first | (refine SL.isGd ?_; refine SL.sk rfl rfl ?_) | (refine SL.isMove ?_; refine SL.pu (p_move rfl rfl) rfl rfl ?_) | (refine SL.isAssign ?_; refine SL.pu (p_assign rfl rfl) rfl rfl ?_) | (refine SL.isNil ?_; refine SL.pu (p_nil rfl rfl) rfl rfl ?_) | (refine SL.isFldA ?_; refine SL.pu (p_fieldAddr rfl rfl rfl) rfl rfl ?_) | (refine SL.isLoad ?_; (first | refine SL.pu (p_load_s rfl rfl rfl) rfl rfl ?_ | refine SL.pu (p_load_s rfl rfl (by assumption)) rfl rfl ?_ | refine SL.pu (p_load_a rfl rfl rfl rfl) rfl rfl ?_ | refine SL.pu (p_load_a rfl rfl (by assumption) (by assumption)) rfl rfl ?_)) | (refine SL.isCallB ?_; (first | refine SL.pu (p_len_slice rfl rfl) rfl rfl ?_ | refine SL.pu (p_len_str rfl rfl) rfl rfl ?_ | refine SL.pu (p_len_arr rfl rfl) rfl rfl ?_ | refine SL.pu (p_cap_slice rfl rfl) rfl rfl ?_ | refine SL.pu (p_max rfl rfl rfl rfl) rfl rfl ?_ | refine SL.pu (p_min rfl rfl rfl rfl) rfl rfl ?_)) | (refine SL.isPick ?_; (first | refine SL.pu (p_pick_t rfl rfl rfl) rfl rfl ?_ | refine SL.pu (p_pick_f rfl rfl rfl) rfl rfl ?_)) | (refine SL.isMkFn ?_; refine SL.pu (p_makeFunc rfl rfl rfl) rfl rfl ?_) | (refine SL.isUn ?_; refine SL.pu (p_not rfl rfl) rfl rfl ?_) | (refine SL.isBuild ?_; (first | refine SL.pu (p_build rfl rfl (by rfl)) rfl rfl ?_ | refine SL.pu (p_build_arr rfl rfl (by rfl)) rfl rfl ?_)) | (refine SL.isFld ?_; (first | refine SL.pu (p_field rfl rfl rfl) rfl rfl ?_ | refine SL.pu (p_field rfl rfl (by assumption)) rfl rfl ?_ | refine SL.pu (p_field_a rfl rfl rfl) rfl rfl ?_)) | (refine SL.b_add ?_; refine SL.pu (p_add rfl rfl rfl (w64 (by omega))) rfl rfl ?_) | (refine SL.b_sub ?_; refine SL.pu (p_sub rfl rfl rfl (w64 (by omega))) rfl rfl ?_) | (refine SL.b_mul ?_; refine SL.pu (p_mul rfl rfl rfl (w64 (by omega))) rfl rfl ?_) | (refine SL.b_quo ?_; refine SL.pu (p_quo rfl rfl rfl (by decide) (w64 (by omega))) rfl rfl ?_) | (refine SL.b_rem ?_; refine SL.pu (p_rem rfl rfl rfl (by decide) rfl) rfl rfl ?_) | (refine SL.b_lss ?_; (first | refine SL.pu (Pu.t (p_lss rfl rfl rfl) (by omega)) rfl rfl ?_ | refine SL.pu (Pu.f (p_lss rfl rfl rfl) (by omega)) rfl rfl ?_)) | (refine SL.b_leq ?_; (first | refine SL.pu (Pu.t (p_leq rfl rfl rfl) (by omega)) rfl rfl ?_ | refine SL.pu (Pu.f (p_leq rfl rfl rfl) (by omega)) rfl rfl ?_)) | (refine SL.b_gtr ?_; (first | refine SL.pu (Pu.t (p_gtr rfl rfl rfl) (by omega)) rfl rfl ?_ | refine SL.pu (Pu.f (p_gtr rfl rfl rfl) (by omega)) rfl rfl ?_)) | (refine SL.b_geq ?_; (first | refine SL.pu (Pu.t (p_geq rfl rfl rfl) (by omega)) rfl rfl ?_ | refine SL.pu (Pu.f (p_geq rfl rfl rfl) (by omega)) rfl rfl ?_)) | (refine SL.b_eql ?_; (first | refine SL.pu (p_eqnil rfl rfl rfl) rfl rfl ?_ | refine SL.pu (p_eqslnil rfl rfl rfl) rfl rfl ?_ | refine SL.pu (Pu.t (p_eql rfl rfl rfl) (by omega)) rfl rfl ?_ | refine SL.pu (Pu.f (p_eql rfl rfl rfl) (by omega)) rfl rfl ?_)) | (refine SL.b_neq ?_; (first | refine SL.pu (p_nenil rfl rfl rfl) rfl rfl ?_ | refine SL.pu (p_neslnil rfl rfl rfl) rfl rfl ?_ | refine SL.pu (Pu.t (p_neq rfl rfl rfl) (by omega)) rfl rfl ?_ | refine SL.pu (Pu.f (p_neq rfl rfl rfl) (by omega)) rfl rfl ?_)) | (refine SL.isBox ?_; (first | refine SL.box rfl rfl rfl rfl (fun b_ => ?_) | refine SL.box_a rfl rfl rfl rfl (fun b_ => ?_))) | (refine SL.isAlloc ?_; refine SL.alloc rfl rfl rfl (fun b_ => ?_)) | (refine SL.isStore ?_; (first | refine SL.store rfl rfl rfl rfl rfl (by first | assumption | exact Nat.le_of_ble_eq_true rfl) ?_ | refine SL.store_w rfl rfl rfl rfl rfl (by first | assumption | rfl) (by rfl) ?_ | refine SL.store_a rfl rfl rfl rfl rfl (by first | rfl | assumption) (by first | assumption | exact Nat.le_of_ble_eq_true rfl) (by first | assumption | rfl) ?_)) | refine SL.nil ?_ | refine SW.seq ?_ | refine SW.region ?_ | refine SW.block ?_ | refine SW.cond_t rfl ?_ | refine SW.cond_f rfl ?_ | refine SW.ret ?_ | refine SW.skip ?_ | refine SW.exit ?_))
  rename_i b1
  exact Fin.rm b1 (Fin.s1 (.inl rfl) rfl rfl ⟨b_, rfl, rfl⟩)
end Go.Proofs.YtieamijnajbcnaaGreat

namespace Go.Proofs.YtieamijnajbcnaaGreat
open Go

/-! ### Cells -/
theorem ws_get {ws : List Wd} (hok : ∀ w ∈ ws, w.Ok) {m j : Nat} {u : Wd} (hu : ws[m]? = some u) (hj : j < 18) : (ws.flatMap wc)[m * 18 + j]? = (wc u)[j]? := by
  have hm : m < ws.length := (List.getElem?_eq_some_iff.1 hu).1
  have hA : ((ws.take m).flatMap wc).length = m * 18 := by
    rw [fm_len wc 18 _ (fun w hw => wc_len (hok w (List.mem_of_mem_take hw)).1), List.length_take]; congr 1; omega
  rw [fm_split wc ws m u hu]
  exact get_mid _ _ _ j _ (by omega) (by rw [wc_len (hok u (List.mem_of_getElem? hu)).1]; exact hj)
theorem wc_byte {u : Wd} (h : u.Len) {j : Nat} (hj : j < 8) : (wc u)[8 + j]? = u.now[j]?.map bv ∧ (wc u)[j]? = u.lasts[j]?.map bv := by
  unfold wc
  have h1 : (u.lasts.map bv).length = 8 := by simpa using h.1
  have h2 : (u.now.map bv).length = 8 := by simpa using h.2
  constructor
  · rw [List.getElem?_append_right (by omega), h1, List.getElem?_append_left (by omega), List.getElem?_map]
    congr 2; omega
  · rw [List.getElem?_append_left (by omega), List.getElem?_map]
/-- The bytes as they are read. -/
def nowB (ws : List Wd) : List UInt8 := ws.flatMap Wd.now
theorem fmU {α : Type} (f : Wd → List α) {ws : List Wd} (hf : ∀ w ∈ ws, (f w).length = 8) {m j : Nat} {u : Wd} (hu : ws[m]? = some u) (hj : j < 8) : (ws.flatMap f)[m * 8 + j]? = (f u)[j]? := by
  induction ws generalizing m with
  | nil => simp at hu
  | cons w t ih =>
    have hw := hf w (by simp)
    rw [List.flatMap_cons]
    cases m with
    | zero => simp at hu; subst hu; rw [List.getElem?_append_left (by omega)]; congr 1; omega
    | succ m =>
      rw [List.getElem?_append_right (by omega), hw]
      have := ih (fun x hx => hf x (by simp [hx])) (m := m) (by simpa using hu)
      rw [← this]; congr 1; omega
theorem fmU_len {α : Type} (f : Wd → List α) : ∀ {ws : List Wd}, (∀ w ∈ ws, (f w).length = 8) → (ws.flatMap f).length = 8 * ws.length
  | [], _ => rfl
  | w :: t, h => by rw [List.flatMap_cons, List.length_append, h w (by simp), fmU_len f (fun x hx => h x (by simp [hx])), List.length_cons]; omega
theorem nowB_get {ws : List Wd} (hok : ∀ w ∈ ws, w.Ok) {i : Nat} {u : Wd} (hu : ws[i / 8]? = some u) : (nowB ws)[i]? = u.now[i % 8]? := by
  have := fmU Wd.now (fun w hw => (hok w hw).1.2) hu (Nat.mod_lt i (by decide : 0 < 8))
  rw [← this]; unfold nowB; congr 1; omega
theorem nowB_len {ws : List Wd} (hok : ∀ w ∈ ws, w.Ok) : (nowB ws).length = 8 * ws.length := fmU_len _ fun w hw => (hok w hw).1.2
/-! ### The acts -/
theorem rdy_zero {σ : Dv} {x n : Int} (h : σ.rdy x n = 0) : σ.down = false ∧ 0 ≤ x ∧ 0 ≤ n ∧ n ≤ σ.len ∧ x ≤ σ.len - n := by
  unfold Dv.rdy at h
  split at h
  · cases h
  · rename_i hd
    split at h
    · cases h
    · exact ⟨by simpa using hd, by omega, by omega, by omega, by omega⟩
end Go.Proofs.YtieamijnajbcnaaGreat

namespace Go.Proofs.YtieamijnajbcnaaGreat
open Go
attribute [local irreducible] SW SL SQ SH SA SS Pu Fin CutF HandF

end Go.Proofs.YtieamijnajbcnaaGreat

namespace Go.Proofs.YtieamijnajbcnaaGreat
open Go
attribute [local irreducible] SW SL SQ SH SA SS Pu Fin CutF HandF

theorem fill_step (A : List Value) (m : Nat) (z v : Value) : (A ++ List.replicate (m + 1) z).set A.length v = A ++ [v] ++ List.replicate m z := by
  rw [List.set_append_right _ _ (Nat.le_refl _), Nat.sub_self, List.replicate_succ, List.set_cons_zero]; simp

/-- What is loaded. -/
def Dv.loadB (σ : Dv) (i n : Int) : List UInt8 := if σ.rdy i n = 0 then ((nowB σ.ws).drop i.toNat).take n.toNat else []
theorem load_p {p : Nat} {σ : Dv} {H : Hp} (hD : DevP p σ H) (x n : Int) : Tri Tryz.prog 28 [.pointer (some ⟨p, 0, none⟩), .int .i64 x, .int .i64 n] H (fun _ => True)
    (fun v' H' => ∃ sv Hs, v' = .tuple #[sv, .int .i64 (σ.rdy x n)] ∧ Sl 5 1 sv ((σ.loadB x n).map bv) Hs ∧ H' = Hs ++ H) := by
  have hr := ready_p hD x n
  refine Tri.mk Tryz.func28 rfl Tryz.ntmps28 rfl fun w hw => ?_
  (repeat' (first | refine W.mv ?_ | refine W.zl ?_ | refine W.fa ?_ | refine W.nl ?_ | refine W.as ?_ | refine W.zb ?_ | refine W.za ?_ | refine W.zi ?_ | refine W.zc ?_ | refine W.zp ?_ | refine W.st ?_ | refine SL.nilB ?_ | refine SL.nil ?_ | refine W.al fun b_ => ?_ | refine W.bx fun b_ => ?_ | refine W.bxa fun b_ => ?_ | refine W.sw ?_ | refine W.sa ?_ | refine W.sk ?_ | refine W.bs0 fun b_ => ?_ | refine W.ma fun b_ => ?_ | refine W.bsl fun b_ => ?_ | refine W.zu ?_ | refine W.zf ?_ | refine W.zd ?_ | refine W.zs ?_ | refine W.zv ?_ | refine W.zx ?_ | refine W.ex ?_ | refine W.mf ?_ | refine W.mk ?_ | refine SW.seq ?_ | refine SW.region ?_ | refine SW.block ?_ | refine SW.cond_t rfl ?_ | refine SW.cond_f rfl ?_ | refine SW.exit ?_ | refine SW.ret ?_ | refine SW.skip ?_))
  refine W.call hr ?_
  rintro _ _ ⟨rfl, rfl⟩
  by_cases h0 : σ.rdy x n = 0
  · obtain ⟨hdn, hx0, hn0, hn, hxn⟩ := rdy_zero h0
    have hb : σ.loadB x n = ((nowB σ.ws).drop x.toNat).take n.toNat := by unfold Dv.loadB; rw [if_pos h0]
    rw [h0, hb]
    have hlen : σ.len = 8 * σ.ws.length := rfl
    obtain ⟨i, rfl⟩ : ∃ i : Nat, x = i := ⟨x.toNat, by omega⟩
    obtain ⟨m, rfl⟩ : ∃ m : Nat, n = m := ⟨n.toNat, by omega⟩
    rw [Int.toNat_natCast, Int.toNat_natCast]
    have hN := hD.1.n
    obtain ⟨hO, bw, vp, va, Hq, Ha, h2, h3, rfl⟩ := hD
    have hnl := nowB_len hO.ok
    (repeat' (first | refine W.mv ?_ | refine W.zl ?_ | refine W.fa ?_ | refine W.nl ?_ | refine W.as ?_ | refine W.zb ?_ | refine W.za ?_ | refine W.zi ?_ | refine W.zc ?_ | refine W.zp ?_ | refine W.st ?_ | refine SL.nilB ?_ | refine SL.nil ?_ | refine W.al fun b_ => ?_ | refine W.bx fun b_ => ?_ | refine W.bxa fun b_ => ?_ | refine W.sw ?_ | refine W.sa ?_ | refine W.sk ?_ | refine W.bs0 fun b_ => ?_ | refine W.ma fun b_ => ?_ | refine W.bsl fun b_ => ?_ | refine W.zu ?_ | refine W.zf ?_ | refine W.zd ?_ | refine W.zs ?_ | refine W.zv ?_ | refine W.zx ?_ | refine W.ex ?_ | refine W.mf ?_ | refine W.mk ?_ | refine SW.seq ?_ | refine SW.region ?_ | refine SW.block ?_ | refine SW.cond_t rfl ?_ | refine SW.cond_f rfl ?_ | refine SW.exit ?_ | refine SW.ret ?_ | refine SW.skip ?_))
    refine SW.loopG [0, 1, 9, 21] [b_] (fun k : Nat => [(22, .int .i64 k)]) (fun k => [(b_, cl ((((nowB σ.ws).drop i).take k).map bv ++ List.replicate (m - k) (.int .u8 0)) 5)]) (fun k => m - k) (fun k => k ≤ m) 0 (Nat.zero_le _) ?_ (by simp [zs_one])
    intro k hk
    by_cases hkl : k < m
    · obtain ⟨u, hu⟩ : ∃ u, σ.ws[(i + k) / 8]? = some u := ⟨_, List.getElem?_eq_getElem (by omega)⟩
      have hj : (i + k) % 8 < 8 := Nat.mod_lt _ (by decide)
      have hul := (hO.ok u (List.mem_of_getElem? hu)).1
      obtain ⟨c, hc⟩ : ∃ c, u.now[(i + k) % 8]? = some c := ⟨_, List.getElem?_eq_getElem (by rw [hul.2]; exact hj)⟩
      have hg : (σ.ws.flatMap wc)[(i + k) / 8 * 18 + 8 + (i + k) % 8]? = some (bv c) := by
        rw [Nat.add_assoc, ws_get hO.ok hu (by omega), (wc_byte hul hj).1, hc]; rfl
      have hnb : (nowB σ.ws)[i + k]? = some c := by rw [nowB_get hO.ok hu, hc]
      have hAl : ((((nowB σ.ws).drop i).take k).map bv).length = k := by simp; omega
      have hst : k < (((((nowB σ.ws).drop i).take k).map bv) ++ List.replicate (m - k) (Value.int .u8 0)).length := by rw [List.length_append, hAl]; simp; omega
      (repeat' (first | refine W.mv ?_ | refine W.zl ?_ | refine W.fa ?_ | refine W.nl ?_ | refine W.as ?_ | refine W.zb ?_ | refine W.za ?_ | refine W.zi ?_ | refine W.zc ?_ | refine W.zp ?_ | refine W.st ?_ | refine SL.nilB ?_ | refine SL.nil ?_ | refine W.al fun b_ => ?_ | refine W.bx fun b_ => ?_ | refine W.bxa fun b_ => ?_ | refine W.sw ?_ | refine W.sa ?_ | refine W.sk ?_ | refine W.bs0 fun b_ => ?_ | refine W.ma fun b_ => ?_ | refine W.bsl fun b_ => ?_ | refine W.zu ?_ | refine W.zf ?_ | refine W.zd ?_ | refine W.zs ?_ | refine W.zv ?_ | refine W.zx ?_ | refine W.ex ?_ | refine W.mf ?_ | refine W.mk ?_ | refine SW.seq ?_ | refine SW.region ?_ | refine SW.block ?_ | refine SW.cond_t rfl ?_ | refine SW.cond_f rfl ?_ | refine SW.exit ?_ | refine SW.ret ?_ | refine SW.skip ?_))
      have hf := fill_step ((((nowB σ.ws).drop i).take k).map bv) (m - (k + 1)) (.int .u8 0) (bv c)
      rw [hAl, show m - (k + 1) + 1 = m - k by omega] at hf
      have hf2 : (((nowB σ.ws).drop i).take k).map bv ++ [bv c] = (((nowB σ.ws).drop i).take (k + 1)).map bv := by
        rw [List.take_add_one, List.getElem?_drop, hnb]; simp
      rw [hf, hf2]
      refine HandF.mk (k + 1) ?_
      omega
    · have : k = m := by omega
      subst this
      (repeat' (first | refine W.mv ?_ | refine W.zl ?_ | refine W.fa ?_ | refine W.nl ?_ | refine W.as ?_ | refine W.zb ?_ | refine W.za ?_ | refine W.zi ?_ | refine W.zc ?_ | refine W.zp ?_ | refine W.st ?_ | refine SL.nilB ?_ | refine SL.nil ?_ | refine W.al fun b_ => ?_ | refine W.bx fun b_ => ?_ | refine W.bxa fun b_ => ?_ | refine W.sw ?_ | refine W.sa ?_ | refine W.sk ?_ | refine W.bs0 fun b_ => ?_ | refine W.ma fun b_ => ?_ | refine W.bsl fun b_ => ?_ | refine W.zu ?_ | refine W.zf ?_ | refine W.zd ?_ | refine W.zs ?_ | refine W.zv ?_ | refine W.zx ?_ | refine W.ex ?_ | refine W.mf ?_ | refine W.mk ?_ | refine SW.seq ?_ | refine SW.region ?_ | refine SW.block ?_ | refine SW.cond_t rfl ?_ | refine SW.cond_f rfl ?_ | refine SW.exit ?_ | refine SW.ret ?_ | refine SW.skip ?_))
      refine F.f2 ?_
      refine ⟨_, [(b_, cl ((((nowB σ.ws).drop i).take k).map bv) 5)], rfl,   .inr ⟨b_, k, k, [], rfl, by simp; omega, by simp, Nat.le_refl _, by simp⟩, ?_⟩
      simp
  · have hb : σ.loadB x n = [] := by unfold Dv.loadB; rw [if_neg h0]
    (repeat' (first | refine W.mv ?_ | refine W.zl ?_ | refine W.fa ?_ | refine W.nl ?_ | refine W.as ?_ | refine W.zb ?_ | refine W.za ?_ | refine W.zi ?_ | refine W.zc ?_ | refine W.zp ?_ | refine W.st ?_ | refine SL.nilB ?_ | refine SL.nil ?_ | refine W.al fun b_ => ?_ | refine W.bx fun b_ => ?_ | refine W.bxa fun b_ => ?_ | refine W.sw ?_ | refine W.sa ?_ | refine W.sk ?_ | refine W.bs0 fun b_ => ?_ | refine W.ma fun b_ => ?_ | refine W.bsl fun b_ => ?_ | refine W.zu ?_ | refine W.zf ?_ | refine W.zd ?_ | refine W.zs ?_ | refine W.zv ?_ | refine W.zx ?_ | refine W.ex ?_ | refine W.mf ?_ | refine W.mk ?_ | refine SW.seq ?_ | refine SW.region ?_ | refine SW.block ?_ | refine SW.cond_t rfl ?_ | refine SW.cond_f rfl ?_ | refine SW.exit ?_ | refine SW.ret ?_ | refine SW.skip ?_))
    refine F.f2 ?_
    refine ⟨_, [], rfl, ?_, by simp⟩
    rw [hb]; exact Sl.nil _ _
end Go.Proofs.YtieamijnajbcnaaGreat
