/- More of what is plain: bools, conversions, indexes, parts of slices, texts. -/
import Derived.Test.YtcmjkihddpppaaaW2
set_option linter.unusedVariables false
set_option linter.unusedSimpArgs false
namespace Go.Proofs.Ytcmjkihddpppaaa
open Go

/-- A conversion of integers that has a name. -/
class Cv (k : IntKind) (m : Int) (r : outParam Int) : Prop where
  ok : k.wrap m = r

section
variable {P : Program} {C : Ctx} {ρ : Fr} {H : Hp} {o : Oper} {t t' e n len cap b j i c : Nat} {x y z : Operand} {k kk : IntKind} {m q r : Int} {p : Option Addr}
theorem eqGuard_bool (op : BinOp) (w : World) (a c : Bool) : (eqGuard op t x y (.bool a) (.bool c)).run P w = .ok () w := by
  cases op <;> simp [eqGuard]
theorem run_eq_bool {t : TypeId} [h : BoolTy P t] (a c : Bool) (w : World) : (Op.equal t (.bool a) (.bool c)).run P w = .ok (a == c) w := by
  unfold Op.equal Op.maxDepth Op.equalIn; simp [run_underlying h.ok]
theorem p_eqb {a c : Bool} [BoolTy P t] (ho : o.op = .binOp .eql t x y t') (hx : ev ρ x = some (.bool a)) (hy : ev ρ y = some (.bool c)) : Pu P C ρ H o (.bool (a == c)) := fun ac w hf _ => by
  unfold execOp; rw [ho]; simp [hf.eval hx, hf.eval hy, eqGuard_bool, binOp, run_eq_bool]
theorem p_neb {a c : Bool} [BoolTy P t] (ho : o.op = .binOp .neq t x y t') (hx : ev ρ x = some (.bool a)) (hy : ev ρ y = some (.bool c)) : Pu P C ρ H o (.bool (a != c)) := fun ac w hf _ => by
  unfold execOp; rw [ho]; simp [hf.eval hx, hf.eval hy, eqGuard_bool, binOp, run_eq_bool, bne]
theorem p_nebf {a c : Bool} [BoolTy P t] (ho : o.op = .binOp .neq t x y t') (hx : ev ρ x = some (.bool a)) (hy : ev ρ y = some (.bool c)) (h : a = c) : Pu P C ρ H o (.bool false) := by
  have := p_neb (P := P) (C := C) (H := H) ho hx hy; subst h; simpa using this
theorem p_cv [h1 : IntTy P t k] [h2 : IntTy P t' kk] [hc : Cv kk m r] (ho : o.op = .convert t t' x) (hx : ev ρ x = some (.int k m)) : Pu P C ρ H o (.int kk r) :=
  p_conv ho hx ⟨_, h1.ok⟩ h2.ok hc.ok
theorem p_cvi [h1 : IntTy P t k] [h2 : IntTy P t' .i64] (ho : o.op = .convert t t' x) (hx : ev ρ x = some (.int k m)) (hm : -9223372036854775808 ≤ m ∧ m ≤ 9223372036854775807) : Pu P C ρ H o (.int .i64 m) :=
  p_conv ho hx ⟨_, h1.ok⟩ h2.ok (w64 hm)
theorem p_ix [SliceTy P t e n] [hi : NatI m i] [ha : AdN j i n c] (ho : o.op = .indexAddr t x y) (hx : ev ρ x = some (.slice (some ⟨b, j, none⟩) len cap)) (hy : ev ρ y = some (.int k m)) (h1 : i < len) : Pu P C ρ H o (.pointer (some ⟨b, c, none⟩)) :=
  p_indexAddr ho hx hy (by rw [hi.ok]; omega) (by rw [hi.ok]; omega) (by rw [hi.ok, Int.toNat_natCast]; exact ha.ok)
theorem p_ixa [ArrTy P t len e n] [hi : NatI m i] [ha : AdN j i n c] (ho : o.op = .indexAddr t x y) (hx : ev ρ x = some (.pointer (some ⟨b, j, none⟩))) (hy : ev ρ y = some (.int k m)) (h1 : i < len) : Pu P C ρ H o (.pointer (some ⟨b, c, none⟩)) :=
  p_indexAddr_arr ho hx hy (by rw [hi.ok]; omega) (by rw [hi.ok]; omega) (by rw [hi.ok, Int.toNat_natCast]; exact ha.ok)

/-! ### Parts of slices -/
theorem sadr_lt {b j cap l n c : Nat} [ha : AdN j l n c] (h : l < cap) : sadr (some ⟨b, j, none⟩) cap l n = some ⟨b, c, none⟩ := by
  unfold sadr
  rw [if_neg (by omega)]
  simp only [Option.map_some, add_mid, ha.ok]
theorem sadr_0 (a : Option Addr) (cap n : Nat) (h : ∀ x, a = some x → x.spot = none) : sadr a cap 0 n = a := by
  unfold sadr
  split
  · rfl
  · cases a with
    | none => rfl
    | some x =>
      obtain ⟨b, o, s⟩ := x
      have := h _ rfl
      simp only at this
      subst this
      simp [add_mid]
theorem p_sl00 [SliceTy P t e n] (ho : o.op = .slice t x none none none) (hx : ev ρ x = some (.slice p len cap)) (hp : ∀ x, p = some x → x.spot = none) (hc : len ≤ cap) : Pu P C ρ H o (.slice p len cap) := by
  have := p_slice (P := P) (C := C) (H := H) (vl := none) (vh := none) ho hx (l := 0) (h := len) (.inl ⟨rfl, rfl⟩) (.inl ⟨rfl, rfl⟩) (Nat.zero_le _) hc
  rwa [sadr_0 p cap n hp] at this
theorem p_sl01 {h : Nat} [SliceTy P t e n] [hi : NatI m h] (ho : o.op = .slice t x none (some y) none) (hx : ev ρ x = some (.slice (some ⟨b, j, none⟩) len cap)) (hy : ev ρ y = some (.int k m)) (hh : h ≤ cap) : Pu P C ρ H o (.slice (some ⟨b, j, none⟩) h cap) := by
  have := p_slice (P := P) (C := C) (H := H) (vl := none) (vh := none) ho hx (l := 0) (h := h) (.inl ⟨rfl, rfl⟩) (.inr ⟨y, k, m, rfl, hy, hi.ok⟩) (Nat.zero_le _) hh
  rwa [sadr_0 _ cap n (by rintro x hx; cases hx; rfl)] at this
theorem p_sl10 {l : Nat} [SliceTy P t e n] [hi : NatI m l] [AdN j l n c] (ho : o.op = .slice t x (some y) none none) (hx : ev ρ x = some (.slice (some ⟨b, j, none⟩) len cap)) (hy : ev ρ y = some (.int k m)) (hh : l ≤ len) (hc : l < cap) (hlc : len ≤ cap) : Pu P C ρ H o (.slice (some ⟨b, c, none⟩) (len - l) (cap - l)) := by
  have := p_slice (P := P) (C := C) (H := H) (vl := none) (vh := none) ho hx (l := l) (h := len) (.inr ⟨y, k, m, rfl, hy, hi.ok⟩) (.inl ⟨rfl, rfl⟩) hh hlc
  rwa [sadr_lt hc] at this
theorem p_sl11 {l h : Nat} [SliceTy P t e n] [hi : NatI m l] [hi2 : NatI q h] [AdN j l n c] (ho : o.op = .slice t x (some y) (some z) none) (hx : ev ρ x = some (.slice (some ⟨b, j, none⟩) len cap)) (hy : ev ρ y = some (.int k m)) (hz : ev ρ z = some (.int kk q)) (hh : l ≤ h ∧ h ≤ cap) (hc : l < cap) : Pu P C ρ H o (.slice (some ⟨b, c, none⟩) (h - l) (cap - l)) := by
  have := p_slice (P := P) (C := C) (H := H) (vl := none) (vh := none) ho hx (l := l) (h := h) (.inr ⟨y, k, m, rfl, hy, hi.ok⟩) (.inr ⟨z, kk, q, rfl, hz, hi2.ok⟩) hh.1 hh.2
  rwa [sadr_lt hc] at this

/-! ### Texts -/
theorem eqGuard_string (op : BinOp) (w : World) (a c : ByteArray) : (eqGuard op t x y (.string a) (.string c)).run P w = .ok () w := by
  cases op <;> simp [eqGuard]
theorem p_eqst {a c : ByteArray} (ho : o.op = .binOp .eql t x y t') (hx : ev ρ x = some (.string a)) (hy : ev ρ y = some (.string c)) : Pu P C ρ H o (.bool (a.toList == c.toList)) := fun ac w hf _ => by
  unfold execOp; rw [ho]; simp [hf.eval hx, hf.eval hy, eqGuard_string, binOp, Op.stringOp]
theorem p_nest {a c : ByteArray} (ho : o.op = .binOp .neq t x y t') (hx : ev ρ x = some (.string a)) (hy : ev ρ y = some (.string c)) : Pu P C ρ H o (.bool !(a.toList == c.toList)) := fun ac w hf _ => by
  unfold execOp; rw [ho]; simp [hf.eval hx, hf.eval hy, eqGuard_string, binOp, Op.stringOp]
end

section
variable {P : Program} {C : Ctx} {Q : Exit → Fr → Hp → Prop} {ρ : Fr} {H H' : Hp} {L rest : List Oper} {d : Option Tmp} {ty : TypeId} {pos : String} {af : Array Edge} {g : Option (Nat × Bool)} {t t' e n len cap b i j off c l h : Nat} {d' : Option Nat} {x y z : Operand} {v u : Value} {k kk : IntKind} {m q r : Int} {p : Option Addr}
theorem W.eb {a c : Bool} [BoolTy P t] (hk : SL P C L Q rest (pt ρ d' (.bool (a == c))) H) (hx : ev ρ x = some (.bool a) := by exact rfl) (hy : ev ρ y = some (.bool c) := by exact rfl) (hg : gd L ρ ⟨d, .binOp .eql t x y t', ty, pos, af, g⟩ = some true := by exact rfl) (hd : dk C.n d = some d' := by exact rfl) : SL P C L Q (⟨d, .binOp .eql t x y t', ty, pos, af, g⟩ :: rest) ρ H := SL.pu (p_eqb rfl hx hy) hg hd hk
theorem W.nb {a c : Bool} [BoolTy P t] (hk : SL P C L Q rest (pt ρ d' (.bool (a != c))) H) (hx : ev ρ x = some (.bool a) := by exact rfl) (hy : ev ρ y = some (.bool c) := by exact rfl) (hg : gd L ρ ⟨d, .binOp .neq t x y t', ty, pos, af, g⟩ = some true := by exact rfl) (hd : dk C.n d = some d' := by exact rfl) : SL P C L Q (⟨d, .binOp .neq t x y t', ty, pos, af, g⟩ :: rest) ρ H := SL.pu (p_neb rfl hx hy) hg hd hk
theorem W.cv [IntTy P t k] [IntTy P t' kk] (hk : SL P C L Q rest (pt ρ d' (.int kk r)) H) (hx : ev ρ x = some (.int k m) := by exact rfl) (i0 : Cv kk m r := by infer_instance) (hg : gd L ρ ⟨d, .convert t t' x, ty, pos, af, g⟩ = some true := by exact rfl) (hd : dk C.n d = some d' := by exact rfl) : SL P C L Q (⟨d, .convert t t' x, ty, pos, af, g⟩ :: rest) ρ H := SL.pu (p_cv rfl hx) hg hd hk
theorem W.ci [IntTy P t k] [IntTy P t' .i64] (hk : SL P C L Q rest (pt ρ d' (.int .i64 m)) H) (hx : ev ρ x = some (.int k m) := by exact rfl) (hm : -9223372036854775808 ≤ m ∧ m ≤ 9223372036854775807 := by omega) (hg : gd L ρ ⟨d, .convert t t' x, ty, pos, af, g⟩ = some true := by exact rfl) (hd : dk C.n d = some d' := by exact rfl) : SL P C L Q (⟨d, .convert t t' x, ty, pos, af, g⟩ :: rest) ρ H := SL.pu (p_cvi rfl hx hm) hg hd hk
theorem W.s01 [SliceTy P t e n] (hk : SL P C L Q rest (pt ρ d' (.slice (some ⟨b, j, none⟩) h cap)) H) (hx : ev ρ x = some (.slice (some ⟨b, j, none⟩) len cap) := by exact rfl) (hy : ev ρ y = some (.int k m) := by exact rfl) (i0 : NatI m h := by infer_instance) (hh : h ≤ cap := by omega) (hg : gd L ρ ⟨d, .slice t x none (some y) none, ty, pos, af, g⟩ = some true := by exact rfl) (hd : dk C.n d = some d' := by exact rfl) : SL P C L Q (⟨d, .slice t x none (some y) none, ty, pos, af, g⟩ :: rest) ρ H := SL.pu (p_sl01 rfl hx hy hh) hg hd hk
theorem W.s10 [SliceTy P t e n] (hk : SL P C L Q rest (pt ρ d' (.slice (some ⟨b, c, none⟩) (len - l) (cap - l))) H) (hx : ev ρ x = some (.slice (some ⟨b, j, none⟩) len cap) := by exact rfl) (hy : ev ρ y = some (.int k m) := by exact rfl) (i0 : NatI m l := by infer_instance) (i37 : AdN j l n c := by infer_instance) (hh : l ≤ len := by omega) (hc : l < cap := by omega) (hlc : len ≤ cap := by omega) (hg : gd L ρ ⟨d, .slice t x (some y) none none, ty, pos, af, g⟩ = some true := by exact rfl) (hd : dk C.n d = some d' := by exact rfl) : SL P C L Q (⟨d, .slice t x (some y) none none, ty, pos, af, g⟩ :: rest) ρ H := SL.pu (p_sl10 rfl hx hy hh hc hlc) hg hd hk
theorem W.s11 [SliceTy P t e n] (hk : SL P C L Q rest (pt ρ d' (.slice (some ⟨b, c, none⟩) (h - l) (cap - l))) H) (hx : ev ρ x = some (.slice (some ⟨b, j, none⟩) len cap) := by exact rfl) (hy : ev ρ y = some (.int k m) := by exact rfl) (hz : ev ρ z = some (.int kk q) := by exact rfl) (i0 : NatI m l := by infer_instance) (i37 : NatI q h := by infer_instance) (i75 : AdN j l n c := by infer_instance) (hh : l ≤ h ∧ h ≤ cap := by omega) (hc : l < cap := by omega) (hg : gd L ρ ⟨d, .slice t x (some y) (some z) none, ty, pos, af, g⟩ = some true := by exact rfl) (hd : dk C.n d = some d' := by exact rfl) : SL P C L Q (⟨d, .slice t x (some y) (some z) none, ty, pos, af, g⟩ :: rest) ρ H := SL.pu (p_sl11 rfl hx hy hz hh hc) hg hd hk
end
end Go.Proofs.Ytcmjkihddpppaaa
