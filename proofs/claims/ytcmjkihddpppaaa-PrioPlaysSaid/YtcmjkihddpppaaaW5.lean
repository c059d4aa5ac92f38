/- Tuples, bytes as texts, and constants that are bytes. -/
import Derived.Test.YtcmjkihddpppaaaW4
import Derived.Laws.BytesString
import Derived.Lib.SlBytesConst
set_option linter.unusedVariables false
set_option linter.unusedSimpArgs false
namespace Go.Proofs.Ytcmjkihddpppaaa
open Go

/-- A byte's value. -/
def u8 (b : UInt8) : Value := .int .u8 (b.toNat : Int)
/-- A text of bytes. -/
def strV (bs : List UInt8) : ByteArray := ⟨bs.toArray⟩
theorem strV_eq (a b : List UInt8) : ((strV a).toList == (strV b).toList) = decide (a = b) := by
  rw [ByteArray.toList_eq, ByteArray.toList_eq]
  by_cases h : a = b <;> simp [strV, h]
theorem foldl_bytes : ∀ (bs : List UInt8) (s : ByteArray), (bs.map fun b => (b.toNat : Int)).foldl (fun r n => r.push (UInt8.ofNat n.toNat)) s = ⟨(s.data.toList ++ bs).toArray⟩
  | [], s => by obtain ⟨⟨l⟩⟩ := s; simp
  | b :: bs, s => by
    simp only [List.map_cons, List.foldl_cons, Int.toNat_natCast]
    rw [foldl_bytes bs, UInt8.ofNat_toNat]
    congr 1
    obtain ⟨⟨l⟩⟩ := s
    simp [ByteArray.push]

section
variable {P : Program} {C : Ctx} {ρ : Fr} {H : Hp} {o : Oper} {t t' e n len cap b j i c : Nat} {x y z : Operand} {k kk : IntKind} {m q r : Int} {p : Option Addr} {v : Value}
theorem p_ext {vs : List Value} (ho : o.op = .extract x i) (hx : ev ρ x = some (.tuple vs.toArray)) (hv : vs[i]? = some v) : Pu P C ρ H o v := fun a w hf _ => by
  unfold execOp; rw [ho]; simp [hf.eval hx, Instr.extract, hv]
theorem run_loadCells_of {w : World} {P : Program} {a : Option Addr} {len cap m : Nat} {ys : List Value} (hs : SrcOf P w (.slice a len cap) 1 m ys) : m = len ∧ (a = none ∧ ys = [] ∨ ∃ ad, a = some ad ∧ (loadCells ad len).run P w = .ok ys.toArray w) := by
  obtain ⟨h1, h2⟩ := hs w rfl
  have hm : m = len := by
    simp [Builtin.lenOf] at h1
    exact h1.symm
  subst hm
  refine ⟨rfl, ?_⟩
  cases a with
  | none => left; simp [Builtin.firstCells] at h2; exact ⟨rfl, by simpa using h2.symm⟩
  | some ad => right; refine ⟨ad, rfl, ?_⟩; simpa [Builtin.firstCells] using h2
theorem p_cvst {a : Option Addr} {bs : List UInt8} [h1 : SliceTy P t e n] [h2 : IntTy P e .u8] [h3 : StrTy P t'] (ho : o.op = .convert t t' x) (hx : ev ρ x = some (.slice a len cap)) (hsrc : ∀ w, St C.K C.w0 H w → SrcOf P w (.slice a len cap) 1 m.toNat (bs.map fun b => .int .u8 (b.toNat : Int))) : Pu P C ρ H o (.string (strV bs)) := fun ac w hf hs => by
  have key := run_loadCells_of (hsrc w hs)
  unfold execOp; rw [ho]
  have hc := run_convert_bytes_string (P := P) w t t' e a len cap h1.ok h2.ok h3.ok
  have hb : (Conv.bytesToString (.slice a len cap)).run P w = .ok (.string (strV bs)) w := by
    rcases key.2 with ⟨rfl, h⟩ | ⟨ad, rfl, h⟩
    · have : bs = [] := by simpa using h
      subst this
      simp [Conv.bytesToString]; rfl
    · have := run_bytesToString (P := P) w ad len cap (bs.map fun b => (b.toNat : Int)) (by rw [h]; simp)
      rw [this, foldl_bytes]; rfl
  rw [hb] at hc
  simp [hf.eval hx, hc]
end
section
variable {P : Program} {C : Ctx} {Q : Exit → Fr → Hp → Prop} {ρ : Fr} {H H' : Hp} {L rest : List Oper} {d d2 : Option Tmp} {ty ty2 : TypeId} {pos pos2 : String} {af af2 : Array Edge} {g g2 : Option (Nat × Bool)} {t t' e n len cap b i j off c : Nat} {d' d2' : Option Nat} {x y z : Operand} {v u : Value} {k kk : IntKind} {m q r : Int} {l l' : List Value} {T : TypeId}
theorem W.ex {vs : List Value} (h : SL P C L Q rest (pt ρ d' v) H) (hx : ev ρ x = some (.tuple vs.toArray) := by exact rfl) (hv : vs[i]? = some v := by exact rfl) (hg : gd L ρ ⟨d, .extract x i, ty, pos, af, g⟩ = some true := by exact rfl) (hd : dk C.n d = some d' := by exact rfl) : SL P C L Q (⟨d, .extract x i, ty, pos, af, g⟩ :: rest) ρ H := SL.pu (p_ext rfl hx hv) hg hd h
theorem W.cst {a : Option Addr} {mm : Nat} {bs : List UInt8} [SliceTy P t e n] [IntTy P e .u8] [StrTy P t'] (hsrc : ∀ w, St C.K C.w0 H w → SrcOf P w (.slice a len cap) 1 mm (bs.map fun b => .int .u8 (b.toNat : Int))) (h : SL P C L Q rest (pt ρ d' (.string (strV bs))) H) (hx : ev ρ x = some (.slice a len cap) := by exact rfl) (hg : gd L ρ ⟨d, .convert t t' x, ty, pos, af, g⟩ = some true := by exact rfl) (hd : dk C.n d = some d' := by exact rfl) : SL P C L Q (⟨d, .convert t t' x, ty, pos, af, g⟩ :: rest) ρ H :=
  SL.pu (p_cvst (m := (mm : Int)) rfl hx (by simpa using hsrc)) hg hd h
theorem W.est {a c : ByteArray} (hk : SL P C L Q rest (pt ρ d' (.bool (a.toList == c.toList))) H) (hx : ev ρ x = some (.string a) := by exact rfl) (hy : ev ρ y = some (.string c) := by exact rfl) (hg : gd L ρ ⟨d, .binOp .eql t x y t', ty, pos, af, g⟩ = some true := by exact rfl) (hd : dk C.n d = some d' := by exact rfl) : SL P C L Q (⟨d, .binOp .eql t x y t', ty, pos, af, g⟩ :: rest) ρ H := SL.pu (p_eqst rfl hx hy) hg hd hk
theorem W.nst {a c : ByteArray} (hk : SL P C L Q rest (pt ρ d' (.bool !(a.toList == c.toList))) H) (hx : ev ρ x = some (.string a) := by exact rfl) (hy : ev ρ y = some (.string c) := by exact rfl) (hg : gd L ρ ⟨d, .binOp .neq t x y t', ty, pos, af, g⟩ = some true := by exact rfl) (hd : dk C.n d = some d' := by exact rfl) : SL P C L Q (⟨d, .binOp .neq t x y t', ty, pos, af, g⟩ :: rest) ρ H := SL.pu (p_nest rfl hx hy) hg hd hk
/-- A constant's bytes: the mark behind the literal. -/
theorem run_mark {w : World} {b o n c : Nat} {l : List Value} {T : TypeId} [ht : SliceTy P t e 1] [he : IntTy P e .u8] (hb : w.heap[b]? = some (cl l T)) :
    (convert t t (.slice (some ⟨b, o, none⟩) n c)).run P w = .ok (.slice (some ⟨b, o, none⟩) n c) (w.freeze ⟨b, l.length, none⟩ 1) := by
  have hsh : w.shape? b = some (T, l.length) := by unfold World.shape?; rw [hb]; simp
  simp [convert, run_underlying ht.ok, run_underlying he.ok, markStringish, hsh]
theorem freeze_heap (w : World) (b k i : Nat) (l : List Value) (T : TypeId) (hb : w.heap[b]? = some (cl l T)) : (w.freeze ⟨b, k, none⟩ 1).heap[i]? = if i = b then some (.cells l.toArray T (k, k + 1)) else w.heap[i]? := by
  unfold World.freeze
  rw [if_neg (by decide)]
  show (w.heap.modify b _)[i]? = _
  rw [Array.getElem?_modify]
  by_cases h : b = i
  · subst h; simp [hb]
  · simp [h, Ne.symm h]
theorem W.mk [ht : SliceTy P t e 1] [he : IntTy P e .u8] (hk : SL P C L Q rest (pt ρ d' (.slice (some ⟨b, j, none⟩) n c)) H') (hx : ev ρ x = some (.slice (some ⟨b, j, none⟩) n c) := by exact rfl) (hat : At H b (cl l T) := by infer_instance) (hup : Upd H b (.cells l.toArray T (l.length, l.length + 1)) H' := by infer_instance) (hg : gd L ρ ⟨d, .convert t t x, ty, pos, af, g⟩ = some true := by exact rfl) (hd : dk C.n d = some d' := by exact rfl) : SL P C L Q (⟨d, .convert t t x, ty, pos, af, g⟩ :: rest) ρ H :=
  SL.eff hg hd fun a w hf hs => ⟨_, w.freeze ⟨b, l.length, none⟩ 1, H', .inl (by unfold execOp; simp [hf.eval hx, run_mark (P := P) (t := t) hs.at]),
    hs.set (b := b) (o' := .cells l.toArray T (l.length, l.length + 1)) (by unfold World.freeze; simp) (by rw [freeze_heap w b _ b l T hs.at, if_pos rfl]) (fun k hk => by rw [freeze_heap w b _ k l T hs.at, if_neg hk]) rfl rfl rfl, hk⟩
/-- A slice of what the caller owns, however it is marked. -/
theorem Rd.at {K : List Nat} {w0 w : World} {H : Hp} {b o n len cap : Nat} {l ys : List Value} {T : TypeId} {fz : Nat × Nat} (bs : List Nat) {Hc r : Hp} (hs : St K w0 H w) [hp : Sel H bs Hc r] [ha : At r b (.cells l.toArray T fz)] (hy : (l.drop o).take (len * n) = ys) (hl : ys.length = len * n) (hc : len ≤ cap) : Rd bs w n (.slice (some ⟨b, o, none⟩) len cap) ys := by
  have hs2 := hs.perm hp.perm
  have hm := ha.mem
  refine ⟨_, len, cap, rfl, hl, hc, .inr ⟨b, o, l, T, fz, rfl, hs2.own b _ (List.mem_append_right _ hm), fun hb => ?_, hy⟩⟩
  have hn := hs2.nodup
  rw [List.map_append] at hn
  rw [← hp.keys] at hb
  exact (List.nodup_append.1 hn).2.2 b hb b (List.mem_map.2 ⟨_, hm, rfl⟩) rfl
end
/-- A struct is the result; no block is handed back. -/
theorem F.c0 {P : Program} {C : Ctx} {ρ : Fr} {H : Hp} {fn : Func} {R : Value → Hp → Prop} {e : Exit} {t ty n b : Nat} {l : List Value} {T : TypeId} (l2 : List Value) (hR : R (.agg l2.toArray) []) (he : e = .ret ∨ e = .normal := by first | exact .inl rfl | exact .inr rfl) (hrs : fn.results = #[.cell t ty] := by exact rfl) (ht : lk ρ t = some (.pointer (some ⟨b, 0, none⟩)) := by exact rfl) (hat : At H b (cl l T) := by infer_instance) (hl : l = l2 := by first | assumption | exact rfl) (iR : RowTy P ty n := by infer_instance) (hn : l2.length = n := by first | assumption | exact rfl) : Fin P C fn R e ρ H := by
  subst hl
  exact Fin.c1 (Hc := []) he hrs ht hn hR
end Go.Proofs.Ytcmjkihddpppaaa
