/- What is asked of a translation's types and functions. -/
import Derived.WalkKit
import Derived.Deep.MidRow
import Derived.ProofKit
set_option linter.unusedVariables false
set_option linter.unusedSimpArgs false
set_option linter.unusedSectionVars false
namespace Go.Proofs.YtnhnpjokpelkbaaGreat
abbrev aA:=@List.getElem?_eq_getElem
abbrev aB:=@List.length_append
abbrev aC:=@List.getD_eq_getElem?_getD
abbrev aD:=@List.length_map
abbrev aE:=@List.getElem?_eq_some_iff
abbrev aG:=@List.length_take
abbrev aH:=@List.append_nil
abbrev aJ:=@List.getElem?_map
abbrev aK:=@List.take_of_length_le
abbrev aL:=@List.getElem?_append_left
abbrev aM:=@List.append_assoc
abbrev aN:=@List.mem_append_right
abbrev aO:=@List.mem_append_left
abbrev aP:=@Int.toNat_natCast
abbrev aS:=@List.length_replicate
abbrev aT:=@List.mem_of_getElem?
abbrev aV:=@List.map_append
abbrev aW:=@UInt64.toNat_ofNat'
abbrev aX:=@List.length_cons
abbrev aY:=@List.getElem?_append_right
abbrev aZ:=@List.take_add_one
abbrev bB:=@List.getElem?_eq_none
abbrev bE:=@List.getElem?_take
abbrev bG:=@List.length_drop
abbrev bH:=@List.mem_map
abbrev bI:=@List.getElem?_drop
abbrev bJ:=@List.eq_nil_of_length_eq_zero
abbrev bK:=@List.mem_append
abbrev bL:=@List.drop_eq_getElem_cons
abbrev bM:=@Bool.and_eq_true
abbrev bN:=@List.take_length
abbrev bR:=@List.drop_zero
abbrev bS:=@List.length_set
abbrev bU:=@List.mem_singleton
abbrev bV:=@List.range_succ
abbrev bW:=@List.take_append_of_le_length
abbrev bY:=@List.set_append_right
abbrev bZ:=@List.mem_cons
abbrev cB:=@List.ext_getElem?
abbrev cC:=@List.mem_iff_getElem?
abbrev cD:=@List.perm_append_comm
abbrev cE:=@List.getElem_mem
abbrev cJ:=@List.drop_drop
abbrev cM:=@List.drop_append_of_le_length
abbrev cO:=@List.length_singleton
abbrev cP:=@List.drop_eq_nil_of_le
abbrev cR:=@Nat.min_eq_left
abbrev cT:=@List.take_zero
abbrev cU:=@List.flatMap_append
abbrev cV:=@Option.some.injEq
abbrev cW:=@List.take_left'
abbrev cX:=@List.mem_cons_of_mem
abbrev cY:=@UInt8.toNat_ofNat'
abbrev dA:=@Nat.add_sub_cancel_left
abbrev dC:=@List.getElem?_mapIdx
abbrev dD:=@Nat.mul_le_mul_right
abbrev dE:=@Nat.pow_le_pow_right
abbrev dF:=@List.flatMap_cons
abbrev dG:=@List.take_append_drop
abbrev dJ:=@Option.toList_some
abbrev dK:=@List.flatten_cons
abbrev dN:=@List.not_mem_nil
abbrev dO:=@Nat.mod_eq_of_lt
abbrev dP:=@List.map_cons
abbrev dS:=@List.foldl_cons
abbrev dT:=@List.getElem?_set
abbrev dU:=@List.mem_of_mem_take
abbrev dW:=@Nat.sub_self
abbrev dY:=@List.length_range
abbrev eE:=@List.cons_append
abbrev eH:=@List.map_congr_left
abbrev eK:=@List.getElem?_zipWith
abbrev eL:=@List.map_replicate
abbrev eN:=@List.getElem?_range
abbrev eP:=@List.mem_range
abbrev eW:=@List.drop_left'
abbrev eY:=@List.mem_or_eq_of_mem_set
abbrev eZ:=@Nat.shiftRight_eq_div_pow
abbrev fE:=@Nat.pow_succ
abbrev fF:=@List.set_cons_zero
abbrev fK:=@Nat.le_of_ble_eq_true
abbrev fL:=@List.length_zipWith
abbrev fM:=@List.replicate_succ
abbrev fN:=@Nat.le_trans
abbrev fP:=@List.take_take
abbrev fS:=@List.nodup_append
abbrev fW:=@Nat.eq_zero_or_pos
abbrev fX:=@Nat.zero_add
abbrev gA:=@Bool.false_and
abbrev gC:=@List.set_eq_take_append_cons_drop
abbrev gD:=@List.drop_append
abbrev gE:=@List.map_set
abbrev gF:=@Nat.succ_mul
abbrev gJ:=@List.replicate_append_replicate
abbrev gK:=@Array.getElem?_eq_some_iff
abbrev gL:=@List.set_append_left
abbrev gO:=@List.drop_of_length_le
abbrev gP:=@List.flatMap_def
abbrev gQ:=@List.map_map
abbrev gR:=@List.perm_middle
abbrev gS:=@Nat.div_div_eq_div_mul
abbrev gT:=@UInt64.toNat_add
abbrev gW:=@Array.length_toList
abbrev gX:=@List.foldl_append
abbrev iB:=@List.map_take
abbrev iC:=@Array.getElem?_setIfInBounds
abbrev iD:=@List.mem_cons_self
abbrev iG:=@List.take_append
abbrev iH:=@UInt8.toNat_toUInt32
abbrev iJ:=@List.map_drop
abbrev iL:=@Int.fdiv_eq_ediv_of_nonneg
abbrev iN:=@Nat.min_self
abbrev iP:=@Nat.mul_le_mul_left
abbrev iQ:=@UInt8.xor_assoc
abbrev iU:=@BitVec.toNat_ofInt
abbrev iV:=@Bool.false_eq_true
abbrev iY:=@Bool.true_and
abbrev iZ:=@Nat.sub_zero
abbrev jF:=@Nat.mul_le_mul
abbrev jJ:=@List.getElem?_cons_zero
abbrev jO:=@Array.getD_eq_getD_getElem?
abbrev jP:=@List.getElem?_set_self
abbrev jQ:=@Nat.add_zero
abbrev jR:=@Nat.zero_mul
abbrev jT:=@Nat.shiftLeft_eq
abbrev jW:=@List.drop_take
abbrev kC:=@Nat.eq_of_beq_eq_true
abbrev kI:=@List.cons.injEq
abbrev kJ:=@List.nodup_cons
abbrev kK:=@Nat.div_le_self
abbrev kL:=@UInt8.toNat_inj
abbrev kM:=@List.getElem?_set_ne
abbrev kN:=@List.mem_of_mem_drop
abbrev lA:=@UInt32.toNat_add
abbrev lB:=@UInt32.toNat_mul
abbrev lL:=@List.length_mapIdx
abbrev lM:=@Nat.mul_comm
abbrev lS:=@Nat.not_lt_zero
abbrev mA:=@Nat.add_assoc
abbrev mC:=@BitVec.eq_of_toNat_eq
abbrev mD:=@List.singleton_append
abbrev mH:=@Bool.not_eq_true'
abbrev mJ:=@UInt8.ofNat_toNat
abbrev mM:=@Int.tdiv_eq_ediv_of_nonneg
abbrev mN:=@List.getElem?_modify
abbrev mX:=@List.map_nil
abbrev mY:=@Nat.lt_or_ge
abbrev nD:=@List.mem_of_find?_eq_some
abbrev nG:=@List.flatten_append
abbrev nI:=@UInt32.toNat_ofNat'
abbrev nJ:=@Array.setIfInBounds_comm
abbrev nK:=@List.eq_of_mem_replicate
abbrev nR:=@Nat.xor_lt_two_pow
abbrev nZ:=@List.getElem?_replicate
abbrev oJ:=@List.length_pos_of_mem
abbrev oK:=@List.nodup_nil
abbrev pM:=@UInt64.toNat_mul
abbrev pR:=@Nat.mul_assoc
abbrev pS:=@Nat.xor_assoc
abbrev pY:=@List.mem_iff_getElem
abbrev pZ:=@List.replicate_succ'
abbrev qB:=@UInt8.toNat_toUInt64
abbrev qQ:=@Int.natCast_mul
abbrev qR:=@Nat.mul_eq_zero
abbrev qY:=@List.take_succ_cons
abbrev rN:=@List.find?_map
abbrev rO:=@List.mapIdx_concat
abbrev rP:=@List.set_cons_succ
abbrev rQ:=@Nat.and_one_is_mod
abbrev sL:=@List.size_toArray
abbrev sM:=@Nat.lt_trichotomy
abbrev sN:=@Option.map_eq_map
abbrev tF:=@BitVec.toNat_and
abbrev tG:=@Int.ediv_le_self
abbrev tH:=@List.all_eq_true
abbrev tI:=@List.drop_length
abbrev tJ:=@Nat.div_eq_of_lt
abbrev tL:=@UInt64.toNat_inj
abbrev uM:=@Nat.pow_zero
abbrev vJ:=@Int.ediv_nonneg
abbrev vK:=@List.append_inj
abbrev vL:=@List.mem_mapIdx
abbrev vZ:=@Int.ofNat_tmod
abbrev wB:=@UInt8.xor_comm
abbrev yC:=@List.cons.inj
abbrev zM:=@Int.lt_or_le
abbrev zN:=@Int.ofNat_le
abbrev zO:=@Nat.beq_refl
open Go
theorem oQ{p:Prop}(h:p:=by omega):p:=h
theorem kQ{p:Prop}(h:p:=by kernel_rfl):p:=h
theorem dQ{p:Prop}(h:p:=by decide):p:=h
class cG(P:Program)(t:TypeId):Prop where
 ok:∃ d,P.underlying t=some d∧d.isRow=false
class fC(P:Program)(t:TypeId)(n:outParam Nat):Prop where
 ok:∃ d,P.underlying t=some d∧d.isRow=true
 size:(P.info? t).map (·.size)=some n
class aU(P:Program)(s:TypeId)(i:Nat)(t:outParam TypeId)(off:outParam Nat):Prop where
 ok:∃ fs f,P.underlying s=some (.struct fs)∧fs[i]?=some f∧f.offset=off∧f.type=t
 nz:∃ m,(P.info? t).map (·.size)=some m∧m≠0
theorem fdT{P:Program}{s t:TypeId}{i off:Nat}{fs:Array Field}{f:Field}(h:P.underlying s=some (.struct fs))(a:fs[i]?=some f)(b:f.offset=off)(c:f.type=t)(d:(P.info? t).map (·.size)=some 1:=by kernel_rfl):aU P s i t off:=⟨⟨_,_,h,a,b,c⟩,⟨1,d,by decide⟩⟩
class cI(P:Program)(t:TypeId)(e:outParam TypeId)(n:outParam Nat):Prop where
 ok:P.underlying t=some (.slice e)
 size:(P.info? e).map (·.size)=some n
class kZ(P:Program)(t:TypeId)(len:outParam Nat)(e:outParam TypeId)(n:outParam Nat):Prop where
 ok:P.underlying t=some (.array len e)
 size:(P.info? e).map (·.size)=some n
class cN(P:Program)(t:TypeId)(z:outParam (List Value)):Prop where
 ok:∃ v,((P.info? t).map fun i=>i.zero)=some (some v)∧v.cells=z.toArray
class qA(P:Program)(t:TypeId):Prop where
 ok:∃ e,P.underlying t=some (.pointer e)
class jX(P:Program)(t:TypeId):Prop where
 size:(P.info? t).map (·.size)=some 1
class bD(P:Program)(f:FuncId):Prop where
 ok : ∃ fn, P.funcs[f]? = some fn ∧ (fn.name == "runtime.NumGoroutine") = false ∧ fn.body.isNone = false
theorem isF{P:Program}{f:FuncId}{fn:Func}(h:P.funcs[f]?=some fn)(a:(fn.name== "runtime.NumGoroutine")=false:=by kernel_rfl)(b:fn.body.isNone=false:=by kernel_rfl):bD P f:=⟨⟨_,h,a,b⟩⟩
class dR(P:Program)(t:TypeId)(pl:outParam (List (Nat×Nat))):Prop where
 ok:∃ fs,P.underlying t=some (.struct fs)∧fs.toList.map (fun f=>((P.info? f.type).map (·.size)).map fun n=>(f.offset,n))=pl.map some
class pJ(P:Program)(t:TypeId):Prop where
 ok:(∃ e,P.underlying t=some (.slice e))∨P.underlying t=some .string
class fV(P:Program)(t:TypeId)(n:outParam Nat):Prop where
 ok:(P.info? t).map (·.bytes)=some n
class zV(P:Program)(t:TypeId):Prop where
 ok:P.underlying t=some .string
class aBS(P:Program)(t:TypeId):Prop where
 ok:P.underlying t=some .bool
class mI(P:Program)(t:TypeId)(k:outParam IntKind):Prop where
 ok:P.underlying t=some (.int k)
theorem aJJ{P:Program}{f:FuncId}{fn:Func}{s:ChangeSpec}{c:OpenClaim}(h0:c.wf (OpenSpec.ofChange s)=true)(h1:laidOutB P=true)(h2:mapsRowed P=true)
  (h3:(fn.params.all (P.readableRec ·)&&namedTie P c.named s.vars&&(c.stops == [])&&(P.stops == [])&&(c.knobs == [])&&(P.stopKnobs == []))=true)
  (h4:(c.inPlace == P.inPlace f)=true) (h5:(c.unfollowed == P.unfollowed f)=true) (h6:(c.recurses == P.recurses f)=true) (h7:(c.named == P.varsNamed f)=true)
  (h8:((c.maps == (fn.params.toList++s.plain.varTypes P).any (P.mapsRec ·))&&(c.ifaces == (fn.params.toList++s.plain.varTypes P).any (P.ifacesRec ·))&&(c.mapsOut == P.mapsAmong fn.resultTypes.toList) &&
   (c.loops == (fn.params.toList++s.plain.varTypes P).any (P.loopsFrom ·))&&(c.wideKeys == (fn.params.toList++s.plain.varTypes P++fn.resultTypes.toList).any (P.wideKeysFrom ·)) &&
   s.vars.all (P.varReadable ·)&&fn.resultTypes.all (fun t=>P.readableRec t&&decide (t<P.types.size))&&(c.ifacesOut == fn.resultTypes.toList.any (P.ifacesRec ·))&&(c.loopsOut == fn.resultTypes.toList.any (P.loopsFrom ·)))=true)
  (h9:(c.plainKeys == P.plainKeys)=true) (h10:(c.shortTexts.isNone&&P.stopsHeard&&P.mayEnter)=true) (h11:(c.lifted == P.liftsFinal)=true) (h12:(P.make == some c.make)=true)
  (h13:((c.kinds == (if c.domain.isEmpty then [] else fn.params.toList.map fun t=>match P.underlying t with|some (.int k)=>some k|_=>none))&&(c.pinned == c.pinnedBy) &&
   (c.veiled == (fn.params.toList++s.plain.varTypes P++fn.resultTypes.toList).any (P.veiledRec ·))&&c.veiledFits P fn.params.toList (fn.params.toList++s.plain.varTypes P++fn.resultTypes.toList))=true):joinedFacts P f fn s c=true:=by
 unfold joinedFacts
 simp only [bM] at h3 h8 h10 h13 ⊢
 obtain⟨⟨⟨⟨⟨a1,a2⟩,a3⟩,a4⟩,a5⟩,a6⟩:=h3
 obtain⟨⟨⟨⟨⟨⟨⟨⟨b1,b2⟩,b3⟩,b4⟩,b5⟩,b6⟩,b7⟩,b8⟩,b9⟩:=h8
 obtain⟨⟨c1,c2⟩,c3⟩:=h10
 obtain⟨⟨⟨d1,d2⟩,d3⟩,d4⟩:=h13
 exact⟨⟨⟨⟨⟨⟨⟨⟨⟨⟨⟨⟨⟨⟨⟨⟨⟨⟨⟨⟨⟨⟨⟨⟨⟨⟨⟨⟨⟨⟨⟨h0,h1⟩,h2⟩,a1⟩,a2⟩,a3⟩,a4⟩,a5⟩,a6⟩,h4⟩,h5⟩,h6⟩,h7⟩,b1⟩,b2⟩,b3⟩,b4⟩,b5⟩,b6⟩,b7⟩,b8⟩,b9⟩,h9⟩,c1⟩,c2⟩,c3⟩,h11⟩,h12⟩,d1⟩,d2⟩,d3⟩,d4⟩
end Go.Proofs.YtnhnpjokpelkbaaGreat
