/- Bytes that become texts, in regions that draw their order. -/
import Derived.Test.YtcmjkihddpppaaaW5
set_option linter.unusedVariables false
set_option linter.unusedSimpArgs false
namespace Go.Proofs.Ytcmjkihddpppaaa
open Go
instance Keep.app (H A R r : Hp) [h1 : Part H A r] [h2 : Keep R H] : Keep (A ++ R) H := ⟨fun x hx => by
  rcases List.mem_append.1 hx with hx | hx
  · exact h1.perm.mem_iff.2 (List.mem_append_left _ hx)
  · exact h2.ok x hx⟩
/-- The bytes' cells. -/
abbrev cbs (bs : List UInt8) : List Value := bs.map fun b => .int .u8 (b.toNat : Int)
section
variable {P : Program} {C : Ctx} {ρ : Fr} {H : Hp} {o : Oper} {t t' e n len cap b j i c : Nat} {x y z : Operand}
theorem p_nestf {a c : ByteArray} (ho : o.op = .binOp .neq t x y t') (hx : ev ρ x = some (.string a)) (hy : ev ρ y = some (.string c)) (h : a = c) : Pu P C ρ H o (.bool false) := by
  have := p_nest (P := P) (C := C) (H := H) ho hx hy; subst h; simpa using this
theorem p_eqstt {a c : ByteArray} (ho : o.op = .binOp .eql t x y t') (hx : ev ρ x = some (.string a)) (hy : ev ρ y = some (.string c)) (h : a = c) : Pu P C ρ H o (.bool true) := by
  have := p_eqst (P := P) (C := C) (H := H) ho hx hy; subst h; simpa using this
theorem p_eqbt {a c : Bool} [BoolTy P t] (ho : o.op = .binOp .eql t x y t') (hx : ev ρ x = some (.bool a)) (hy : ev ρ y = some (.bool c)) (h : a = c) : Pu P C ρ H o (.bool true) := by
  have := p_eqb (P := P) (C := C) (H := H) ho hx hy; subst h; simpa using this
theorem run_cvst {w : World} {a : Option Addr} {m : Nat} {bs : List UInt8} [h1 : SliceTy P t e n] [h2 : IntTy P e .u8] [h3 : StrTy P t'] (hs : SrcOf P w (.slice a len cap) 1 m (cbs bs)) : (convert t t' (.slice a len cap)).run P w = .ok (.string (strV bs)) w := by
  have key := run_loadCells_of hs
  have hc := run_convert_bytes_string (P := P) w t t' e a len cap h1.ok h2.ok h3.ok
  rw [hc]
  rcases key.2 with ⟨rfl, h⟩ | ⟨ad, rfl, h⟩
  · have : bs = [] := by simpa using h
    subst this
    simp [Conv.bytesToString]; rfl
  · have := run_bytesToString (P := P) w ad len cap (bs.map fun b => (b.toNat : Int)) (by rw [h]; simp)
    rw [this, foldl_bytes]; rfl
end
section
variable {P : Program} {C : Ctx} {Q : Exit → Fr → Hp → Prop} {ρ : Fr} {H H' : Hp} {L l rest : List Oper} {o : Oper} {B : List Nat} {R R' : Hp} {fuel : Nat} {listed : Array Bool}
theorem SS.cstS {t t' e n : Nat} {x : Operand} {v : Value} {bs : List UInt8} {Hs rr : Hp} (hv : Sl e 1 v (cbs bs) Hs) [hp : Part H Hs rr] (i : Nat) (Ws : List Nat) (hi : L[i]? = some o) {d' : Option Nat} (hk : SS P C L Q B (Hs ++ R) fuel (listed.setIfInBounds i true) (pt ρ d' (.string (strV bs))) H) (hok : canL L B listed i Ws = true := by kernel_rfl) (ho : o.op = .convert t t' x := by exact rfl) (h1 : SliceTy P t e n := by infer_instance) (h2 : IntTy P e .u8 := by infer_instance) (h3 : StrTy P t' := by infer_instance) (hx : ev ρ x = some v := by exact rfl) (hg : gd L ρ o = some true := by exact rfl) (hd : dk C.n o.dst = some d' := by exact rfl) (hQ : ∀ c ρ H, Q (.panic c) ρ H → False := by exact fun _ _ _ h => Fin.np h) : SS P C L Q B R (fuel + 1) listed ρ H :=
  SS.putL (R' := Hs ++ R) i Ws hi hok hQ (fun x hx => List.mem_append_right _ hx) (fun x hx => (List.mem_append.1 hx).elim (fun h => .inr (hp.perm.mem_iff.2 (List.mem_append_left _ h))) .inl) (fun a hf => .inl ⟨gd_wanted hf hg, fun w hr => by
    unfold execOp; rw [ho]
    rcases hv with ⟨rfl, hb, rfl⟩ | ⟨b, len, cap, junk, rfl, hl, hj, hlc, rfl⟩
    · have : bs = [] := by simpa using hb
      subst this
      simp [hf.eval hx, run_cvst (P := P) (t := t) (t' := t') (e := e) (n := n) (m := 0) (bs := []) (SrcOf.empty w none 0 1)]
    · have hb : w.heap[b]? = some (cl (cbs bs ++ junk) e) := hr.2 (b, cl (cbs bs ++ junk) e) (by simp)
      have hs : SrcOf P w (.slice (some ⟨b, 0, none⟩) len cap) 1 len (cbs bs) := SrcOf.block hb (by rw [List.drop_zero, ← hl, List.take_left']; rfl) hl
      simp [hf.eval hx, run_cvst (P := P) (t := t) (t' := t') (e := e) (n := n) hs]⟩) hd hk
theorem SS.cstB {t t' e n b j len cap : Nat} {x : Operand} {lv : List Value} {T : TypeId} {bs : List UInt8} (i : Nat) (Ws : List Nat) (hi : L[i]? = some o) {d' : Option Nat} (hy : (lv.drop j).take len = cbs bs) (hl : bs.length = len) (hk : SS P C L Q B R' fuel (listed.setIfInBounds i true) (pt ρ d' (.string (strV bs))) H) (hok : canL L B listed i Ws = true := by kernel_rfl) (ho : o.op = .convert t t' x := by exact rfl) (h1 : SliceTy P t e n := by infer_instance) (h2 : IntTy P e .u8 := by infer_instance) (h3 : StrTy P t' := by infer_instance) (hx : ev ρ x = some (.slice (some ⟨b, j, none⟩) len cap) := by exact rfl) (hat : At H b (cl lv T) := by infer_instance) (hin : Ins R b (cl lv T) R' := by infer_instance) (hg : gd L ρ o = some true := by exact rfl) (hd : dk C.n o.dst = some d' := by exact rfl) (hQ : ∀ c ρ H, Q (.panic c) ρ H → False := by exact fun _ _ _ h => Fin.np h) : SS P C L Q B R (fuel + 1) listed ρ H :=
  SS.putL i Ws hi hok hQ hin.ok.2.1 (fun x hx => (hin.ok.2.2 x hx).elim (fun e => .inr (e ▸ hat.mem)) .inl) (fun a hf => .inl ⟨gd_wanted hf hg, fun w hr => by
    have hb := hr.2 _ hin.ok.1
    have hs : SrcOf P w (.slice (some ⟨b, j, none⟩) len cap) 1 len (cbs bs) := SrcOf.block hb (by rw [Nat.mul_one]; exact hy) (by simpa using hl)
    unfold execOp; rw [ho]; simp [hf.eval hx, run_cvst (P := P) (t := t) (t' := t') (e := e) (n := n) hs]⟩) hd hk
end
section
variable {P : Program} {C : Ctx} {Q : Exit → Fr → Hp → Prop} {ρ : Fr} {H H' : Hp} {L rest : List Oper} {d d2 : Option Tmp} {ty ty2 : TypeId} {pos pos2 : String} {af af2 : Array Edge} {g g2 : Option (Nat × Bool)} {t t' e n : Nat} {d' : Option Nat} {x : Operand} {v : Value}
theorem W.cstS {bs : List UInt8} {Hs rr : Hp} [SliceTy P t e n] [IntTy P e .u8] [StrTy P t'] (hv : Sl e 1 v (cbs bs) Hs) [hp : Part H Hs rr] (h : SL P C L Q rest (pt ρ d' (.string (strV bs))) H) (hx : ev ρ x = some v := by exact rfl) (hg : gd L ρ ⟨d, .convert t t' x, ty, pos, af, g⟩ = some true := by exact rfl) (hd : dk C.n d = some d' := by exact rfl) : SL P C L Q (⟨d, .convert t t' x, ty, pos, af, g⟩ :: rest) ρ H := by
  obtain ⟨a, len, cap, rfl, hl⟩ := hv.form
  exact W.cst (mm := len) (fun w hs => hv.srcAt hs hp) h hx hg hd
end
section
variable {P : Program} {C : Ctx} {Q : Exit → Fr → Hp → Prop} {ρ : Fr} {H H' : Hp} {L rest : List Oper} {d : Option Tmp} {ty : TypeId} {pos : String} {af : Array Edge} {g : Option (Nat × Bool)} {t t' e n : Nat} {d' : Option Nat} {x y : Operand}
theorem W.ett {a c : ByteArray} (hk : SL P C L Q rest (pt ρ d' (.bool true)) H) (hx : ev ρ x = some (.string a) := by exact rfl) (hy : ev ρ y = some (.string c) := by exact rfl) (h : a = c := by exact rfl) (hg : gd L ρ ⟨d, .binOp .eql t x y t', ty, pos, af, g⟩ = some true := by exact rfl) (hd : dk C.n d = some d' := by exact rfl) : SL P C L Q (⟨d, .binOp .eql t x y t', ty, pos, af, g⟩ :: rest) ρ H := SL.pu (p_eqstt rfl hx hy h) hg hd hk
end
/-- A slice of what the caller owns, in none of the callee's blocks. -/
theorem Rd.atH {K : List Nat} {w0 w : World} {H Hc r : Hp} {b o n len cap : Nat} {l ys : List Value} {T : TypeId} {fz : Nat × Nat} (hs : St K w0 H w) (hp : Part H (Hc ++ [(b, .cells l.toArray T fz)]) r) (hy : (l.drop o).take (len * n) = ys) (hl : ys.length = len * n) (hc : len ≤ cap) : Rd (Hc.map Prod.fst) w n (.slice (some ⟨b, o, none⟩) len cap) ys := by
  have hs2 := hs.perm hp.perm
  refine ⟨_, len, cap, rfl, hl, hc, .inr ⟨b, o, l, T, fz, rfl, hs2.own b _ (by simp), fun hb => ?_, hy⟩⟩
  have hn := hs2.nodup
  simp only [List.map_append, List.append_assoc] at hn
  exact (List.nodup_append.1 hn).2.2 b hb b (by simp) rfl
end Go.Proofs.Ytcmjkihddpppaaa
