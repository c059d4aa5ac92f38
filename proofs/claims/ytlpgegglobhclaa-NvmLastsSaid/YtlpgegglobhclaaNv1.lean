/- The memory that lasts: its model, and words. -/
import Derived.Test.YtlpgegglobhclaaTy
import Derived.Test.YtlpgegglobhclaaSl9
set_option linter.unusedVariables false
set_option linter.unusedSimpArgs false
namespace Go.Proofs.Ytlpgegglobhclaa
open Go
attribute [local irreducible] SW SL SQ SH SA Pu Fin

/-- A word of the memory. -/
structure Wd where
  lasts : List UInt8
  now : List UInt8
  pend : Bool
  mark : Bool

structure Dv where
  ws : List Wd
  down : Bool
  fuse : Int
  picks : List UInt8
  acts : List (Int × Int × Int)

def bv (b : UInt8) : Value := .int .u8 (b.toNat : Int)
instance (b : UInt8) : One (bv b) := ⟨rfl⟩
def wc (w : Wd) : List Value := w.lasts.map bv ++ (w.now.map bv ++ [.bool w.pend, .bool w.mark])
instance (w : Wd) : OC (wc w) := by unfold wc; infer_instance
def ac (a : Int × Int × Int) : List Value := [.int .i64 a.1, .int .i64 a.2.1, .int .i64 a.2.2]
instance (a : Int × Int × Int) : OC (ac a) := by unfold ac; infer_instance

def Wd.Len (w : Wd) : Prop := w.lasts.length = 8 ∧ w.now.length = 8
def Wd.Ok (w : Wd) : Prop := w.Len ∧ (w.mark = true → w.pend = true)
theorem wc_len {w : Wd} (h : w.Len) : (wc w).length = 18 := by simp [wc, h.1, h.2]

structure Dv.Ok (σ : Dv) : Prop where
  n : σ.ws.length ≤ 8192
  ok : ∀ w ∈ σ.ws, w.Ok
  f0 : 0 ≤ σ.fuse
  f1 : σ.fuse ≤ 9223372036854775807
  a : σ.acts.length ≤ 16384

/-- A device of the program's. -/
def DevP (p : Nat) (σ : Dv) (H : Hp) : Prop :=
  σ.Ok ∧ ∃ bw vp va Hq Ha, Sl 5 1 vp (σ.picks.map bv) Hq ∧ Sl 89 3 va (σ.acts.flatMap ac) Ha ∧
    H = (p, cl [.slice (some ⟨bw, 0, none⟩) σ.ws.length σ.ws.length, .bool σ.down, .int .i64 σ.fuse, vp, va] 81) :: (bw, cl (σ.ws.flatMap wc) 85) :: (Hq ++ Ha)

theorem Sl.one {e n : Nat} {v : Value} {xs : List Value} {H : Hp} (h : Sl e n v xs H) : One v := by
  rcases h with ⟨rfl, _, _⟩ | ⟨b, len, cap, junk, rfl, _⟩ <;> exact ⟨rfl⟩

/-! ### Words -/
def Wd.stored (w : Wd) : Wd := { w with pend := true, mark := false }
def Wd.flushed (w : Wd) : Wd := { w with mark := w.pend }
def Wd.fenced (w : Wd) : Wd := bif w.mark then { lasts := w.now, now := w.now, pend := false, mark := false } else w
theorem Wd.stored_ok {w : Wd} (h : w.Ok) : w.stored.Ok := ⟨h.1, by simp [Wd.stored]⟩
theorem Wd.flushed_ok {w : Wd} (h : w.Ok) : w.flushed.Ok := ⟨h.1, by simp [Wd.flushed]⟩
theorem Wd.fenced_ok {w : Wd} (h : w.Ok) : w.fenced.Ok := by
  unfold Wd.fenced
  cases hm : w.mark
  · exact h
  · exact ⟨⟨h.1.2, h.1.2⟩, by simp⟩

/-- What one of the three does. -/
def WordFn (g : FuncId) (h : Wd → Wd) : Prop := ∀ (b : Nat) (A B : List Value) (u : Wd), u.Ok →
  Tri Try.prog g [.pointer (some ⟨b, A.length, none⟩)] [(b, cl (A ++ (wc u ++ B)) 85)] (fun _ => True) (fun v H' => v = .tuple #[] ∧ H' = [(b, cl (A ++ (wc (h u) ++ B)) 85)])

theorem wc_get (A B : List Value) {u : Wd} (h : u.Len) : (A ++ (wc u ++ B))[A.length + 16]? = some (.bool u.pend) ∧ (A ++ (wc u ++ B))[A.length + 17]? = some (.bool u.mark) := by
  constructor
  · rw [get_mid A _ B 16 _ rfl (by rw [wc_len h]; omega)]; simp [wc, List.getElem?_append, h.1, h.2]
  · rw [get_mid A _ B 17 _ rfl (by rw [wc_len h]; omega)]; simp [wc, List.getElem?_append, h.1, h.2]
theorem wc_set (A B : List Value) {u : Wd} (h : u.Len) (p : Bool) : (A ++ (wc u ++ B)).set (A.length + 16) (.bool p) = A ++ (wc { u with pend := p } ++ B) ∧ (A ++ (wc u ++ B)).set (A.length + 17) (.bool p) = A ++ (wc { u with mark := p } ++ B) := by
  constructor
  · rw [set_mid A _ B 16 _ _ rfl (by rw [wc_len h]; omega)]; simp [wc, List.set_append, h.1, h.2]
  · rw [set_mid A _ B 17 _ _ rfl (by rw [wc_len h]; omega)]; simp [wc, List.set_append, h.1, h.2]

theorem wc_now (A B : List Value) {u : Wd} (h : u.Len) : ((A ++ (wc u ++ B)).drop (A.length + 8)).take 8 = u.now.map bv ∧ ((A ++ (wc u ++ B)).drop (A.length + 0)).take 8 = u.lasts.map bv := by
  constructor
  · rw [take_mid A _ B 8 8 _ rfl (by rw [wc_len h]; omega)]
    simp [wc, List.drop_append, h.1, h.2, List.drop_eq_nil_of_le, List.take_of_length_le]
  · rw [take_mid A _ B 0 8 _ rfl (by rw [wc_len h]; omega)]
    simp [wc, h.1, h.2, List.take_of_length_le]
theorem wc_put (A B : List Value) {u : Wd} (h : u.Len) (r : List UInt8) (hr : r.length = 8) :
    (A ++ (wc u ++ B)).take (A.length + 0) ++ r.map bv ++ (A ++ (wc u ++ B)).drop (A.length + 0 + 8) = A ++ (wc { u with lasts := r } ++ B) ∧
    (A ++ (wc u ++ B)).take (A.length + 8) ++ r.map bv ++ (A ++ (wc u ++ B)).drop (A.length + 8 + 8) = A ++ (wc { u with now := r } ++ B) := by
  have hl : (r.map bv).length = 8 := by simpa using hr
  constructor
  · have := splice_mid A (wc u) B (r.map bv) 0 (A.length + 0) rfl (by rw [wc_len h, hl]; omega)
    rw [hl] at this
    rw [this]
    simp [wc, h.1, h.2, List.drop_append, List.drop_eq_nil_of_le]
  · have := splice_mid A (wc u) B (r.map bv) 8 (A.length + 8) rfl (by rw [wc_len h, hl]; omega)
    rw [hl] at this
    rw [this]
    simp [wc, h.1, h.2, List.take_append, List.drop_append, List.drop_eq_nil_of_le, List.take_of_length_le]

theorem len_wc (A B : List Value) {u : Wd} (h : u.Len) : (A ++ (wc u ++ B)).length = A.length + (18 + B.length) := by simp [wc_len h]

theorem stored_p : WordFn 47 Wd.stored := fun b A B u hu => by
  have hl := len_wc A B hu.1
  have h16 : A.length + 16 < (A ++ (wc u ++ B)).length := by rw [hl]; omega
  have h17 : A.length + 17 < ((A ++ (wc u ++ B)).set (A.length + 16) (.bool true)).length := by rw [List.length_set, hl]; omega
  refine Tri.mk Try.func47 rfl Try.ntmps47 rfl fun w hw => ?_
  (repeat' (first | (refine SL.isGd ?_; refine SL.sk rfl rfl ?_) | (refine SL.isMove ?_; refine SL.pu (p_move rfl rfl) rfl rfl ?_) | (refine SL.isAssign ?_; refine SL.pu (p_assign rfl rfl) rfl rfl ?_) | (refine SL.isNil ?_; refine SL.pu (p_nil rfl rfl) rfl rfl ?_) | (refine SL.isFldA ?_; refine SL.pu (p_fieldAddr rfl rfl rfl) rfl rfl ?_) | (refine SL.isLoad ?_; (first | refine SL.pu (p_load_s rfl rfl rfl) rfl rfl ?_ | refine SL.pu (p_load_s rfl rfl (by assumption)) rfl rfl ?_ | refine SL.pu (p_load_a rfl rfl rfl rfl) rfl rfl ?_ | refine SL.pu (p_load_a rfl rfl (by assumption) (by assumption)) rfl rfl ?_)) | (refine SL.isCallB ?_; (first | refine SL.pu (p_len_slice rfl rfl) rfl rfl ?_ | refine SL.pu (p_len_str rfl rfl) rfl rfl ?_ | refine SL.pu (p_len_arr rfl rfl) rfl rfl ?_ | refine SL.pu (p_cap_slice rfl rfl) rfl rfl ?_ | refine SL.pu (p_max rfl rfl rfl rfl) rfl rfl ?_ | refine SL.pu (p_min rfl rfl rfl rfl) rfl rfl ?_)) | (refine SL.isPick ?_; (first | refine SL.pu (p_pick_t rfl rfl rfl) rfl rfl ?_ | refine SL.pu (p_pick_f rfl rfl rfl) rfl rfl ?_)) | (refine SL.isMkFn ?_; refine SL.pu (p_makeFunc rfl rfl rfl) rfl rfl ?_) | (refine SL.isUn ?_; refine SL.pu (p_not rfl rfl) rfl rfl ?_) | (refine SL.isBuild ?_; (first | refine SL.pu (p_build rfl rfl (by rfl)) rfl rfl ?_ | refine SL.pu (p_build_arr rfl rfl (by rfl)) rfl rfl ?_)) | (refine SL.isFld ?_; (first | refine SL.pu (p_field rfl rfl rfl) rfl rfl ?_ | refine SL.pu (p_field rfl rfl (by assumption)) rfl rfl ?_ | refine SL.pu (p_field_a rfl rfl rfl) rfl rfl ?_)) | (refine SL.b_add ?_; refine SL.pu (p_add rfl rfl rfl (w64 (by omega))) rfl rfl ?_) | (refine SL.b_sub ?_; refine SL.pu (p_sub rfl rfl rfl (w64 (by omega))) rfl rfl ?_) | (refine SL.b_mul ?_; refine SL.pu (p_mul rfl rfl rfl (w64 (by omega))) rfl rfl ?_) | (refine SL.b_quo ?_; refine SL.pu (p_quo rfl rfl rfl (by decide) (w64 (by omega))) rfl rfl ?_) | (refine SL.b_rem ?_; refine SL.pu (p_rem rfl rfl rfl (by decide) rfl) rfl rfl ?_) | (refine SL.b_lss ?_; (first | refine SL.pu (Pu.t (p_lss rfl rfl rfl) (by omega)) rfl rfl ?_ | refine SL.pu (Pu.f (p_lss rfl rfl rfl) (by omega)) rfl rfl ?_)) | (refine SL.b_leq ?_; (first | refine SL.pu (Pu.t (p_leq rfl rfl rfl) (by omega)) rfl rfl ?_ | refine SL.pu (Pu.f (p_leq rfl rfl rfl) (by omega)) rfl rfl ?_)) | (refine SL.b_gtr ?_; (first | refine SL.pu (Pu.t (p_gtr rfl rfl rfl) (by omega)) rfl rfl ?_ | refine SL.pu (Pu.f (p_gtr rfl rfl rfl) (by omega)) rfl rfl ?_)) | (refine SL.b_geq ?_; (first | refine SL.pu (Pu.t (p_geq rfl rfl rfl) (by omega)) rfl rfl ?_ | refine SL.pu (Pu.f (p_geq rfl rfl rfl) (by omega)) rfl rfl ?_)) | (refine SL.b_eql ?_; (first | refine SL.pu (p_eqnil rfl rfl rfl) rfl rfl ?_ | refine SL.pu (p_eqslnil rfl rfl rfl) rfl rfl ?_ | refine SL.pu (Pu.t (p_eql rfl rfl rfl) (by omega)) rfl rfl ?_ | refine SL.pu (Pu.f (p_eql rfl rfl rfl) (by omega)) rfl rfl ?_)) | (refine SL.b_neq ?_; (first | refine SL.pu (p_nenil rfl rfl rfl) rfl rfl ?_ | refine SL.pu (p_neslnil rfl rfl rfl) rfl rfl ?_ | refine SL.pu (Pu.t (p_neq rfl rfl rfl) (by omega)) rfl rfl ?_ | refine SL.pu (Pu.f (p_neq rfl rfl rfl) (by omega)) rfl rfl ?_)) | (refine SL.isBox ?_; (first | refine SL.box rfl rfl rfl rfl (fun b_ => ?_) | refine SL.box_a rfl rfl rfl rfl (fun b_ => ?_))) | (refine SL.isAlloc ?_; refine SL.alloc rfl rfl rfl (fun b_ => ?_)) | (refine SL.isStore ?_; (first | refine SL.store rfl rfl rfl rfl rfl (by first | assumption | exact Nat.le_of_ble_eq_true rfl) ?_ | refine SL.store_w rfl rfl rfl rfl rfl (by first | assumption | rfl) (by rfl) ?_ | refine SL.store_a rfl rfl rfl rfl rfl (by first | rfl | assumption) (by first | assumption | exact Nat.le_of_ble_eq_true rfl) (by first | assumption | rfl) ?_)) | refine SL.nil ?_ | refine SW.seq ?_ | refine SW.region ?_ | refine SW.block ?_ | refine SW.cond_t rfl ?_ | refine SW.cond_f rfl ?_ | refine SW.ret ?_ | refine SW.skip ?_ | refine SW.exit ?_))
  refine Fin.s0 (.inr rfl) rfl ⟨rfl, ?_⟩
  rw [(wc_set A B hu.1 true).1, (wc_set A B (u := { u with pend := true }) hu.1 false).2]
  rfl
theorem flushed_p : WordFn 48 Wd.flushed := fun b A B u hu => by
  have hl := len_wc A B hu.1
  have h17 : A.length + 17 < (A ++ (wc u ++ B)).length := by rw [hl]; omega
  have g16 := (wc_get A B hu.1).1
  refine Tri.mk Try.func48 rfl Try.ntmps48 rfl fun w hw => ?_
  (repeat' (first | (refine SL.isGd ?_; refine SL.sk rfl rfl ?_) | (refine SL.isMove ?_; refine SL.pu (p_move rfl rfl) rfl rfl ?_) | (refine SL.isAssign ?_; refine SL.pu (p_assign rfl rfl) rfl rfl ?_) | (refine SL.isNil ?_; refine SL.pu (p_nil rfl rfl) rfl rfl ?_) | (refine SL.isFldA ?_; refine SL.pu (p_fieldAddr rfl rfl rfl) rfl rfl ?_) | (refine SL.isLoad ?_; (first | refine SL.pu (p_load_s rfl rfl rfl) rfl rfl ?_ | refine SL.pu (p_load_s rfl rfl (by assumption)) rfl rfl ?_ | refine SL.pu (p_load_a rfl rfl rfl rfl) rfl rfl ?_ | refine SL.pu (p_load_a rfl rfl (by assumption) (by assumption)) rfl rfl ?_)) | (refine SL.isCallB ?_; (first | refine SL.pu (p_len_slice rfl rfl) rfl rfl ?_ | refine SL.pu (p_len_str rfl rfl) rfl rfl ?_ | refine SL.pu (p_len_arr rfl rfl) rfl rfl ?_ | refine SL.pu (p_cap_slice rfl rfl) rfl rfl ?_ | refine SL.pu (p_max rfl rfl rfl rfl) rfl rfl ?_ | refine SL.pu (p_min rfl rfl rfl rfl) rfl rfl ?_)) | (refine SL.isPick ?_; (first | refine SL.pu (p_pick_t rfl rfl rfl) rfl rfl ?_ | refine SL.pu (p_pick_f rfl rfl rfl) rfl rfl ?_)) | (refine SL.isMkFn ?_; refine SL.pu (p_makeFunc rfl rfl rfl) rfl rfl ?_) | (refine SL.isUn ?_; refine SL.pu (p_not rfl rfl) rfl rfl ?_) | (refine SL.isBuild ?_; (first | refine SL.pu (p_build rfl rfl (by rfl)) rfl rfl ?_ | refine SL.pu (p_build_arr rfl rfl (by rfl)) rfl rfl ?_)) | (refine SL.isFld ?_; (first | refine SL.pu (p_field rfl rfl rfl) rfl rfl ?_ | refine SL.pu (p_field rfl rfl (by assumption)) rfl rfl ?_ | refine SL.pu (p_field_a rfl rfl rfl) rfl rfl ?_)) | (refine SL.b_add ?_; refine SL.pu (p_add rfl rfl rfl (w64 (by omega))) rfl rfl ?_) | (refine SL.b_sub ?_; refine SL.pu (p_sub rfl rfl rfl (w64 (by omega))) rfl rfl ?_) | (refine SL.b_mul ?_; refine SL.pu (p_mul rfl rfl rfl (w64 (by omega))) rfl rfl ?_) | (refine SL.b_quo ?_; refine SL.pu (p_quo rfl rfl rfl (by decide) (w64 (by omega))) rfl rfl ?_) | (refine SL.b_rem ?_; refine SL.pu (p_rem rfl rfl rfl (by decide) rfl) rfl rfl ?_) | (refine SL.b_lss ?_; (first | refine SL.pu (Pu.t (p_lss rfl rfl rfl) (by omega)) rfl rfl ?_ | refine SL.pu (Pu.f (p_lss rfl rfl rfl) (by omega)) rfl rfl ?_)) | (refine SL.b_leq ?_; (first | refine SL.pu (Pu.t (p_leq rfl rfl rfl) (by omega)) rfl rfl ?_ | refine SL.pu (Pu.f (p_leq rfl rfl rfl) (by omega)) rfl rfl ?_)) | (refine SL.b_gtr ?_; (first | refine SL.pu (Pu.t (p_gtr rfl rfl rfl) (by omega)) rfl rfl ?_ | refine SL.pu (Pu.f (p_gtr rfl rfl rfl) (by omega)) rfl rfl ?_)) | (refine SL.b_geq ?_; (first | refine SL.pu (Pu.t (p_geq rfl rfl rfl) (by omega)) rfl rfl ?_ | refine SL.pu (Pu.f (p_geq rfl rfl rfl) (by omega)) rfl rfl ?_)) | (refine SL.b_eql ?_; (first | refine SL.pu (p_eqnil rfl rfl rfl) rfl rfl ?_ | refine SL.pu (p_eqslnil rfl rfl rfl) rfl rfl ?_ | refine SL.pu (Pu.t (p_eql rfl rfl rfl) (by omega)) rfl rfl ?_ | refine SL.pu (Pu.f (p_eql rfl rfl rfl) (by omega)) rfl rfl ?_)) | (refine SL.b_neq ?_; (first | refine SL.pu (p_nenil rfl rfl rfl) rfl rfl ?_ | refine SL.pu (p_neslnil rfl rfl rfl) rfl rfl ?_ | refine SL.pu (Pu.t (p_neq rfl rfl rfl) (by omega)) rfl rfl ?_ | refine SL.pu (Pu.f (p_neq rfl rfl rfl) (by omega)) rfl rfl ?_)) | (refine SL.isBox ?_; (first | refine SL.box rfl rfl rfl rfl (fun b_ => ?_) | refine SL.box_a rfl rfl rfl rfl (fun b_ => ?_))) | (refine SL.isAlloc ?_; refine SL.alloc rfl rfl rfl (fun b_ => ?_)) | (refine SL.isStore ?_; (first | refine SL.store rfl rfl rfl rfl rfl (by first | assumption | exact Nat.le_of_ble_eq_true rfl) ?_ | refine SL.store_w rfl rfl rfl rfl rfl (by first | assumption | rfl) (by rfl) ?_ | refine SL.store_a rfl rfl rfl rfl rfl (by first | rfl | assumption) (by first | assumption | exact Nat.le_of_ble_eq_true rfl) (by first | assumption | rfl) ?_)) | refine SL.nil ?_ | refine SW.seq ?_ | refine SW.region ?_ | refine SW.block ?_ | refine SW.cond_t rfl ?_ | refine SW.cond_f rfl ?_ | refine SW.ret ?_ | refine SW.skip ?_ | refine SW.exit ?_))
  refine Fin.s0 (.inr rfl) rfl ⟨rfl, ?_⟩
  rw [(wc_set A B hu.1 _).2]
  rfl
theorem fenced_p : WordFn 49 Wd.fenced := fun b A B u hu => by
  have hl := len_wc A B hu.1
  have g17 := (wc_get A B hu.1).2
  have gn := (wc_now A B hu.1).1
  have hn : (u.now.map bv).length = 8 := by simpa using hu.1.2
  have h0 : A.length + 0 + 8 ≤ (A ++ (wc u ++ B)).length := by rw [hl]; omega
  have gp := (wc_put A B hu.1 u.now hu.1.2).1
  have hu2 : ({ u with lasts := u.now } : Wd).Len := ⟨hu.1.2, hu.1.2⟩
  have hl2 := len_wc A B hu2
  have h16 : A.length + 16 < (A ++ (wc { u with lasts := u.now } ++ B)).length := by rw [hl2]; omega
  have h17 : A.length + 17 < ((A ++ (wc { u with lasts := u.now } ++ B)).set (A.length + 16) (.bool false)).length := by rw [List.length_set, hl2]; omega
  refine Tri.mk Try.func49 rfl Try.ntmps49 rfl fun w hw => ?_
  (repeat' (first | (refine SL.isGd ?_; refine SL.sk rfl rfl ?_) | (refine SL.isMove ?_; refine SL.pu (p_move rfl rfl) rfl rfl ?_) | (refine SL.isAssign ?_; refine SL.pu (p_assign rfl rfl) rfl rfl ?_) | (refine SL.isNil ?_; refine SL.pu (p_nil rfl rfl) rfl rfl ?_) | (refine SL.isFldA ?_; refine SL.pu (p_fieldAddr rfl rfl rfl) rfl rfl ?_) | (refine SL.isLoad ?_; (first | refine SL.pu (p_load_s rfl rfl rfl) rfl rfl ?_ | refine SL.pu (p_load_s rfl rfl (by assumption)) rfl rfl ?_ | refine SL.pu (p_load_a rfl rfl rfl rfl) rfl rfl ?_ | refine SL.pu (p_load_a rfl rfl (by assumption) (by assumption)) rfl rfl ?_)) | (refine SL.isCallB ?_; (first | refine SL.pu (p_len_slice rfl rfl) rfl rfl ?_ | refine SL.pu (p_len_str rfl rfl) rfl rfl ?_ | refine SL.pu (p_len_arr rfl rfl) rfl rfl ?_ | refine SL.pu (p_cap_slice rfl rfl) rfl rfl ?_ | refine SL.pu (p_max rfl rfl rfl rfl) rfl rfl ?_ | refine SL.pu (p_min rfl rfl rfl rfl) rfl rfl ?_)) | (refine SL.isPick ?_; (first | refine SL.pu (p_pick_t rfl rfl rfl) rfl rfl ?_ | refine SL.pu (p_pick_f rfl rfl rfl) rfl rfl ?_)) | (refine SL.isMkFn ?_; refine SL.pu (p_makeFunc rfl rfl rfl) rfl rfl ?_) | (refine SL.isUn ?_; refine SL.pu (p_not rfl rfl) rfl rfl ?_) | (refine SL.isBuild ?_; (first | refine SL.pu (p_build rfl rfl (by rfl)) rfl rfl ?_ | refine SL.pu (p_build_arr rfl rfl (by rfl)) rfl rfl ?_)) | (refine SL.isFld ?_; (first | refine SL.pu (p_field rfl rfl rfl) rfl rfl ?_ | refine SL.pu (p_field rfl rfl (by assumption)) rfl rfl ?_ | refine SL.pu (p_field_a rfl rfl rfl) rfl rfl ?_)) | (refine SL.b_add ?_; refine SL.pu (p_add rfl rfl rfl (w64 (by omega))) rfl rfl ?_) | (refine SL.b_sub ?_; refine SL.pu (p_sub rfl rfl rfl (w64 (by omega))) rfl rfl ?_) | (refine SL.b_mul ?_; refine SL.pu (p_mul rfl rfl rfl (w64 (by omega))) rfl rfl ?_) | (refine SL.b_quo ?_; refine SL.pu (p_quo rfl rfl rfl (by decide) (w64 (by omega))) rfl rfl ?_) | (refine SL.b_rem ?_; refine SL.pu (p_rem rfl rfl rfl (by decide) rfl) rfl rfl ?_) | (refine SL.b_lss ?_; (first | refine SL.pu (Pu.t (p_lss rfl rfl rfl) (by omega)) rfl rfl ?_ | refine SL.pu (Pu.f (p_lss rfl rfl rfl) (by omega)) rfl rfl ?_)) | (refine SL.b_leq ?_; (first | refine SL.pu (Pu.t (p_leq rfl rfl rfl) (by omega)) rfl rfl ?_ | refine SL.pu (Pu.f (p_leq rfl rfl rfl) (by omega)) rfl rfl ?_)) | (refine SL.b_gtr ?_; (first | refine SL.pu (Pu.t (p_gtr rfl rfl rfl) (by omega)) rfl rfl ?_ | refine SL.pu (Pu.f (p_gtr rfl rfl rfl) (by omega)) rfl rfl ?_)) | (refine SL.b_geq ?_; (first | refine SL.pu (Pu.t (p_geq rfl rfl rfl) (by omega)) rfl rfl ?_ | refine SL.pu (Pu.f (p_geq rfl rfl rfl) (by omega)) rfl rfl ?_)) | (refine SL.b_eql ?_; (first | refine SL.pu (p_eqnil rfl rfl rfl) rfl rfl ?_ | refine SL.pu (p_eqslnil rfl rfl rfl) rfl rfl ?_ | refine SL.pu (Pu.t (p_eql rfl rfl rfl) (by omega)) rfl rfl ?_ | refine SL.pu (Pu.f (p_eql rfl rfl rfl) (by omega)) rfl rfl ?_)) | (refine SL.b_neq ?_; (first | refine SL.pu (p_nenil rfl rfl rfl) rfl rfl ?_ | refine SL.pu (p_neslnil rfl rfl rfl) rfl rfl ?_ | refine SL.pu (Pu.t (p_neq rfl rfl rfl) (by omega)) rfl rfl ?_ | refine SL.pu (Pu.f (p_neq rfl rfl rfl) (by omega)) rfl rfl ?_)) | (refine SL.isBox ?_; (first | refine SL.box rfl rfl rfl rfl (fun b_ => ?_) | refine SL.box_a rfl rfl rfl rfl (fun b_ => ?_))) | (refine SL.isAlloc ?_; refine SL.alloc rfl rfl rfl (fun b_ => ?_)) | (refine SL.isStore ?_; (first | refine SL.store rfl rfl rfl rfl rfl (by first | assumption | exact Nat.le_of_ble_eq_true rfl) ?_ | refine SL.store_w rfl rfl rfl rfl rfl (by first | assumption | rfl) (by rfl) ?_ | refine SL.store_a rfl rfl rfl rfl rfl (by first | rfl | assumption) (by first | assumption | exact Nat.le_of_ble_eq_true rfl) (by first | assumption | rfl) ?_)) | refine SL.nil ?_ | refine SW.seq ?_ | refine SW.region ?_ | refine SW.block ?_ | refine SW.cond_t rfl ?_ | refine SW.cond_f rfl ?_ | refine SW.ret ?_ | refine SW.skip ?_ | refine SW.exit ?_))
  refine SW.cond_b rfl (fun hm => ?_) (fun hm => ?_)
  · (repeat' (first | (refine SL.isGd ?_; refine SL.sk rfl rfl ?_) | (refine SL.isMove ?_; refine SL.pu (p_move rfl rfl) rfl rfl ?_) | (refine SL.isAssign ?_; refine SL.pu (p_assign rfl rfl) rfl rfl ?_) | (refine SL.isNil ?_; refine SL.pu (p_nil rfl rfl) rfl rfl ?_) | (refine SL.isFldA ?_; refine SL.pu (p_fieldAddr rfl rfl rfl) rfl rfl ?_) | (refine SL.isLoad ?_; (first | refine SL.pu (p_load_s rfl rfl rfl) rfl rfl ?_ | refine SL.pu (p_load_s rfl rfl (by assumption)) rfl rfl ?_ | refine SL.pu (p_load_a rfl rfl rfl rfl) rfl rfl ?_ | refine SL.pu (p_load_a rfl rfl (by assumption) (by assumption)) rfl rfl ?_)) | (refine SL.isCallB ?_; (first | refine SL.pu (p_len_slice rfl rfl) rfl rfl ?_ | refine SL.pu (p_len_str rfl rfl) rfl rfl ?_ | refine SL.pu (p_len_arr rfl rfl) rfl rfl ?_ | refine SL.pu (p_cap_slice rfl rfl) rfl rfl ?_ | refine SL.pu (p_max rfl rfl rfl rfl) rfl rfl ?_ | refine SL.pu (p_min rfl rfl rfl rfl) rfl rfl ?_)) | (refine SL.isPick ?_; (first | refine SL.pu (p_pick_t rfl rfl rfl) rfl rfl ?_ | refine SL.pu (p_pick_f rfl rfl rfl) rfl rfl ?_)) | (refine SL.isMkFn ?_; refine SL.pu (p_makeFunc rfl rfl rfl) rfl rfl ?_) | (refine SL.isUn ?_; refine SL.pu (p_not rfl rfl) rfl rfl ?_) | (refine SL.isBuild ?_; (first | refine SL.pu (p_build rfl rfl (by rfl)) rfl rfl ?_ | refine SL.pu (p_build_arr rfl rfl (by rfl)) rfl rfl ?_)) | (refine SL.isFld ?_; (first | refine SL.pu (p_field rfl rfl rfl) rfl rfl ?_ | refine SL.pu (p_field rfl rfl (by assumption)) rfl rfl ?_ | refine SL.pu (p_field_a rfl rfl rfl) rfl rfl ?_)) | (refine SL.b_add ?_; refine SL.pu (p_add rfl rfl rfl (w64 (by omega))) rfl rfl ?_) | (refine SL.b_sub ?_; refine SL.pu (p_sub rfl rfl rfl (w64 (by omega))) rfl rfl ?_) | (refine SL.b_mul ?_; refine SL.pu (p_mul rfl rfl rfl (w64 (by omega))) rfl rfl ?_) | (refine SL.b_quo ?_; refine SL.pu (p_quo rfl rfl rfl (by decide) (w64 (by omega))) rfl rfl ?_) | (refine SL.b_rem ?_; refine SL.pu (p_rem rfl rfl rfl (by decide) rfl) rfl rfl ?_) | (refine SL.b_lss ?_; (first | refine SL.pu (Pu.t (p_lss rfl rfl rfl) (by omega)) rfl rfl ?_ | refine SL.pu (Pu.f (p_lss rfl rfl rfl) (by omega)) rfl rfl ?_)) | (refine SL.b_leq ?_; (first | refine SL.pu (Pu.t (p_leq rfl rfl rfl) (by omega)) rfl rfl ?_ | refine SL.pu (Pu.f (p_leq rfl rfl rfl) (by omega)) rfl rfl ?_)) | (refine SL.b_gtr ?_; (first | refine SL.pu (Pu.t (p_gtr rfl rfl rfl) (by omega)) rfl rfl ?_ | refine SL.pu (Pu.f (p_gtr rfl rfl rfl) (by omega)) rfl rfl ?_)) | (refine SL.b_geq ?_; (first | refine SL.pu (Pu.t (p_geq rfl rfl rfl) (by omega)) rfl rfl ?_ | refine SL.pu (Pu.f (p_geq rfl rfl rfl) (by omega)) rfl rfl ?_)) | (refine SL.b_eql ?_; (first | refine SL.pu (p_eqnil rfl rfl rfl) rfl rfl ?_ | refine SL.pu (p_eqslnil rfl rfl rfl) rfl rfl ?_ | refine SL.pu (Pu.t (p_eql rfl rfl rfl) (by omega)) rfl rfl ?_ | refine SL.pu (Pu.f (p_eql rfl rfl rfl) (by omega)) rfl rfl ?_)) | (refine SL.b_neq ?_; (first | refine SL.pu (p_nenil rfl rfl rfl) rfl rfl ?_ | refine SL.pu (p_neslnil rfl rfl rfl) rfl rfl ?_ | refine SL.pu (Pu.t (p_neq rfl rfl rfl) (by omega)) rfl rfl ?_ | refine SL.pu (Pu.f (p_neq rfl rfl rfl) (by omega)) rfl rfl ?_)) | (refine SL.isBox ?_; (first | refine SL.box rfl rfl rfl rfl (fun b_ => ?_) | refine SL.box_a rfl rfl rfl rfl (fun b_ => ?_))) | (refine SL.isAlloc ?_; refine SL.alloc rfl rfl rfl (fun b_ => ?_)) | (refine SL.isStore ?_; (first | refine SL.store rfl rfl rfl rfl rfl (by first | assumption | exact Nat.le_of_ble_eq_true rfl) ?_ | refine SL.store_w rfl rfl rfl rfl rfl (by first | assumption | rfl) (by rfl) ?_ | refine SL.store_a rfl rfl rfl rfl rfl (by first | rfl | assumption) (by first | assumption | exact Nat.le_of_ble_eq_true rfl) (by first | assumption | rfl) ?_)) | refine SL.nil ?_ | refine SW.seq ?_ | refine SW.region ?_ | refine SW.block ?_ | refine SW.cond_t rfl ?_ | refine SW.cond_f rfl ?_ | refine SW.ret ?_ | refine SW.skip ?_ | refine SW.exit ?_))
    refine Fin.s0 (.inr rfl) rfl ⟨rfl, ?_⟩
    rw [(wc_set A B hu2 false).1]
    rw [(wc_set A B (u := { u with lasts := u.now, pend := false }) hu2 false).2]
    simp [Wd.fenced, hm]
  · (repeat' (first | (refine SL.isGd ?_; refine SL.sk rfl rfl ?_) | (refine SL.isMove ?_; refine SL.pu (p_move rfl rfl) rfl rfl ?_) | (refine SL.isAssign ?_; refine SL.pu (p_assign rfl rfl) rfl rfl ?_) | (refine SL.isNil ?_; refine SL.pu (p_nil rfl rfl) rfl rfl ?_) | (refine SL.isFldA ?_; refine SL.pu (p_fieldAddr rfl rfl rfl) rfl rfl ?_) | (refine SL.isLoad ?_; (first | refine SL.pu (p_load_s rfl rfl rfl) rfl rfl ?_ | refine SL.pu (p_load_s rfl rfl (by assumption)) rfl rfl ?_ | refine SL.pu (p_load_a rfl rfl rfl rfl) rfl rfl ?_ | refine SL.pu (p_load_a rfl rfl (by assumption) (by assumption)) rfl rfl ?_)) | (refine SL.isCallB ?_; (first | refine SL.pu (p_len_slice rfl rfl) rfl rfl ?_ | refine SL.pu (p_len_str rfl rfl) rfl rfl ?_ | refine SL.pu (p_len_arr rfl rfl) rfl rfl ?_ | refine SL.pu (p_cap_slice rfl rfl) rfl rfl ?_ | refine SL.pu (p_max rfl rfl rfl rfl) rfl rfl ?_ | refine SL.pu (p_min rfl rfl rfl rfl) rfl rfl ?_)) | (refine SL.isPick ?_; (first | refine SL.pu (p_pick_t rfl rfl rfl) rfl rfl ?_ | refine SL.pu (p_pick_f rfl rfl rfl) rfl rfl ?_)) | (refine SL.isMkFn ?_; refine SL.pu (p_makeFunc rfl rfl rfl) rfl rfl ?_) | (refine SL.isUn ?_; refine SL.pu (p_not rfl rfl) rfl rfl ?_) | (refine SL.isBuild ?_; (first | refine SL.pu (p_build rfl rfl (by rfl)) rfl rfl ?_ | refine SL.pu (p_build_arr rfl rfl (by rfl)) rfl rfl ?_)) | (refine SL.isFld ?_; (first | refine SL.pu (p_field rfl rfl rfl) rfl rfl ?_ | refine SL.pu (p_field rfl rfl (by assumption)) rfl rfl ?_ | refine SL.pu (p_field_a rfl rfl rfl) rfl rfl ?_)) | (refine SL.b_add ?_; refine SL.pu (p_add rfl rfl rfl (w64 (by omega))) rfl rfl ?_) | (refine SL.b_sub ?_; refine SL.pu (p_sub rfl rfl rfl (w64 (by omega))) rfl rfl ?_) | (refine SL.b_mul ?_; refine SL.pu (p_mul rfl rfl rfl (w64 (by omega))) rfl rfl ?_) | (refine SL.b_quo ?_; refine SL.pu (p_quo rfl rfl rfl (by decide) (w64 (by omega))) rfl rfl ?_) | (refine SL.b_rem ?_; refine SL.pu (p_rem rfl rfl rfl (by decide) rfl) rfl rfl ?_) | (refine SL.b_lss ?_; (first | refine SL.pu (Pu.t (p_lss rfl rfl rfl) (by omega)) rfl rfl ?_ | refine SL.pu (Pu.f (p_lss rfl rfl rfl) (by omega)) rfl rfl ?_)) | (refine SL.b_leq ?_; (first | refine SL.pu (Pu.t (p_leq rfl rfl rfl) (by omega)) rfl rfl ?_ | refine SL.pu (Pu.f (p_leq rfl rfl rfl) (by omega)) rfl rfl ?_)) | (refine SL.b_gtr ?_; (first | refine SL.pu (Pu.t (p_gtr rfl rfl rfl) (by omega)) rfl rfl ?_ | refine SL.pu (Pu.f (p_gtr rfl rfl rfl) (by omega)) rfl rfl ?_)) | (refine SL.b_geq ?_; (first | refine SL.pu (Pu.t (p_geq rfl rfl rfl) (by omega)) rfl rfl ?_ | refine SL.pu (Pu.f (p_geq rfl rfl rfl) (by omega)) rfl rfl ?_)) | (refine SL.b_eql ?_; (first | refine SL.pu (p_eqnil rfl rfl rfl) rfl rfl ?_ | refine SL.pu (p_eqslnil rfl rfl rfl) rfl rfl ?_ | refine SL.pu (Pu.t (p_eql rfl rfl rfl) (by omega)) rfl rfl ?_ | refine SL.pu (Pu.f (p_eql rfl rfl rfl) (by omega)) rfl rfl ?_)) | (refine SL.b_neq ?_; (first | refine SL.pu (p_nenil rfl rfl rfl) rfl rfl ?_ | refine SL.pu (p_neslnil rfl rfl rfl) rfl rfl ?_ | refine SL.pu (Pu.t (p_neq rfl rfl rfl) (by omega)) rfl rfl ?_ | refine SL.pu (Pu.f (p_neq rfl rfl rfl) (by omega)) rfl rfl ?_)) | (refine SL.isBox ?_; (first | refine SL.box rfl rfl rfl rfl (fun b_ => ?_) | refine SL.box_a rfl rfl rfl rfl (fun b_ => ?_))) | (refine SL.isAlloc ?_; refine SL.alloc rfl rfl rfl (fun b_ => ?_)) | (refine SL.isStore ?_; (first | refine SL.store rfl rfl rfl rfl rfl (by first | assumption | exact Nat.le_of_ble_eq_true rfl) ?_ | refine SL.store_w rfl rfl rfl rfl rfl (by first | assumption | rfl) (by rfl) ?_ | refine SL.store_a rfl rfl rfl rfl rfl (by first | rfl | assumption) (by first | assumption | exact Nat.le_of_ble_eq_true rfl) (by first | assumption | rfl) ?_)) | refine SL.nil ?_ | refine SW.seq ?_ | refine SW.region ?_ | refine SW.block ?_ | refine SW.cond_t rfl ?_ | refine SW.cond_f rfl ?_ | refine SW.ret ?_ | refine SW.skip ?_ | refine SW.exit ?_))
    refine Fin.s0 (.inr rfl) rfl ⟨rfl, ?_⟩
    simp [Wd.fenced, hm]
end Go.Proofs.Ytlpgegglobhclaa
