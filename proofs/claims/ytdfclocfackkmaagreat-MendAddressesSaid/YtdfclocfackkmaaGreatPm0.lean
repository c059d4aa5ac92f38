/- What is asked of a translation's types and functions. -/
import Derived.WalkKit
import Derived.Deep.MidRow
import Derived.ProofKit
set_option linter.unusedVariables false
set_option linter.unusedSimpArgs false
set_option linter.unusedSectionVars false
namespace Go.Proofs.YtdfclocfackkmaaGreat
abbrev LB:=List UInt8
abbrev LL:=List (List UInt8)
abbrev LV:=List Go.Value
abbrev NT{J:Sort _}:J->Prop:=fun _=>True
abbrev aA:=@List.getElem?_eq_getElem
abbrev aB:=@List.length_append
abbrev aC:=@List.length_map
abbrev aD:=@List.getElem?_eq_some_iff
abbrev aE:=@List.getD_eq_getElem?_getD
abbrev aG:=@List.append_nil
abbrev aH:=@List.length_take
abbrev aJ:=@List.getElem?_append_left
abbrev aK:=@List.take_of_length_le
abbrev aL:=@List.getElem?_map
abbrev aM:=@List.mem_append_right
abbrev aO:=@List.mem_append_left
abbrev aP:=@List.mem_of_getElem?
abbrev aS:=@Int.toNat_natCast
abbrev aT:=@List.append_assoc
abbrev aU:=@UInt64.toNat_ofNat'
abbrev aV:=@List.getElem?_append_right
abbrev aW:=@List.length_cons
abbrev aY:=@List.take_add_one
abbrev aZ:=@List.map_append
abbrev bA:=@List.length_replicate
abbrev bD:=@List.getElem?_take
abbrev bF:=@List.getElem?_eq_none
abbrev bG:=@List.length_drop
abbrev bH:=@List.getElem?_drop
abbrev bI:=@List.eq_nil_of_length_eq_zero
abbrev bJ:=@List.mem_append
abbrev bK:=@List.drop_eq_getElem_cons
abbrev bM:=@List.mem_map
abbrev bO:=@List.take_length
abbrev bQ:=@List.drop_zero
abbrev bR:=@Bool.and_eq_true
abbrev bT:=@List.range_succ
abbrev bU:=@List.take_append_of_le_length
abbrev bW:=@List.mem_singleton
abbrev bY:=@List.set_append_right
abbrev cA:=@List.perm_append_comm
abbrev cD:=@List.mem_cons
abbrev cE:=@List.length_set
abbrev cG:=@List.drop_drop
abbrev cJ:=@List.drop_append_of_le_length
abbrev cM:=@List.ext_getElem?
abbrev cN:=@List.length_singleton
abbrev cO:=@Nat.min_eq_left
abbrev cP:=@List.flatMap_append
abbrev cQ:=@List.drop_eq_nil_of_le
abbrev cR:=@Option.some.injEq
abbrev cT:=@List.take_left'
abbrev cU:=@List.take_zero
abbrev cV:=@List.mem_cons_of_mem
abbrev cW:=@List.mem_iff_getElem?
abbrev cX:=@UInt8.toNat_ofNat'
abbrev cZ:=@Nat.le_trans
abbrev dB:=@Nat.add_sub_cancel_left
abbrev dC:=@Nat.mul_le_mul_right
abbrev dD:=@Nat.pow_le_pow_right
abbrev dE:=@List.flatMap_cons
abbrev dF:=@List.take_append_drop
abbrev dG:=@List.getElem_mem
abbrev dI:=@Option.toList_some
abbrev dJ:=@List.not_mem_nil
abbrev dK:=@Nat.mod_eq_of_lt
abbrev dM:=@List.mem_of_mem_take
abbrev dO:=@Nat.sub_self
abbrev dR:=@List.length_range
abbrev dW:=@List.getElem?_set
abbrev dX:=@List.cons_append
abbrev eE:=@List.map_cons
abbrev eG:=@List.map_replicate
abbrev eI:=@List.getElem?_range
abbrev eJ:=@List.map_congr_left
abbrev eK:=@List.mem_range
abbrev eR:=@List.drop_left'
abbrev eU:=@List.flatten_cons
abbrev eV:=@List.getElem?_zipWith
abbrev eZ:=@Nat.shiftRight_eq_div_pow
abbrev fC:=@List.foldl_cons
abbrev fD:=@List.getElem?_mapIdx
abbrev fE:=@Nat.pow_succ
abbrev fH:=@Nat.le_of_ble_eq_true
abbrev fI:=@List.replicate_succ
abbrev fK:=@List.take_take
abbrev fO:=@List.nodup_append
abbrev fR:=@List.set_cons_zero
abbrev fS:=@Nat.eq_zero_or_pos
abbrev fT:=@Nat.zero_add
abbrev fX:=@Bool.false_and
abbrev fY:=@List.set_eq_take_append_cons_drop
abbrev fZ:=@List.length_zipWith
abbrev gC:=@List.map_set
abbrev gD:=@Nat.succ_mul
abbrev gG:=@List.replicate_append_replicate
abbrev gH:=@Array.getElem?_eq_some_iff
abbrev gI:=@List.set_append_left
abbrev gM:=@List.drop_append
abbrev gN:=@List.drop_of_length_le
abbrev gO:=@List.flatMap_def
abbrev gP:=@List.perm_middle
abbrev gQ:=@Nat.div_div_eq_div_mul
abbrev gR:=@UInt64.toNat_add
abbrev gT:=@List.mem_or_eq_of_mem_set
abbrev gU:=@Array.length_toList
abbrev gX:=@List.map_take
abbrev gY:=@Array.getElem?_setIfInBounds
abbrev gZ:=@List.mem_cons_self
abbrev iA:=@UInt8.toNat_toUInt32
abbrev iD:=@List.map_drop
abbrev iG:=@Int.fdiv_eq_ediv_of_nonneg
abbrev iH:=@List.foldl_append
abbrev iK:=@Nat.mul_le_mul_left
abbrev iN:=@BitVec.toNat_ofInt
abbrev iO:=@List.take_append
abbrev iS:=@Nat.min_self
abbrev iU:=@Nat.sub_zero
abbrev jA:=@Nat.mul_le_mul
abbrev jF:=@List.getElem?_cons_zero
abbrev jH:=@UInt8.xor_assoc
abbrev jK:=@Array.getD_eq_getD_getElem?
abbrev jL:=@Nat.add_zero
abbrev jM:=@Nat.zero_mul
abbrev jO:=@Bool.true_and
abbrev jP:=@Nat.le_add_right
abbrev jQ:=@Nat.shiftLeft_eq
abbrev jT:=@List.drop_take
abbrev jY:=@Nat.eq_of_beq_eq_true
abbrev kE:=@List.nodup_cons
abbrev kF:=@Nat.div_le_self
abbrev kG:=@UInt8.toNat_inj
abbrev kH:=@List.mem_of_mem_drop
abbrev kR:=@UInt32.toNat_add
abbrev kS:=@UInt32.toNat_mul
abbrev lE:=@Bool.false_eq_true
abbrev lF:=@Nat.mul_comm
abbrev lK:=@Nat.not_lt_zero
abbrev lQ:=@Nat.add_assoc
abbrev lV:=@BitVec.eq_of_toNat_eq
abbrev lW:=@List.singleton_append
abbrev mA:=@Bool.not_eq_true'
abbrev mC:=@UInt8.ofNat_toNat
abbrev mF:=@Int.tdiv_eq_ediv_of_nonneg
abbrev mG:=@List.getElem?_modify
abbrev mO:=@List.map_nil
abbrev mP:=@Nat.lt_or_ge
abbrev mU:=@List.mem_of_find?_eq_some
abbrev mX:=@List.flatten_append
abbrev mZ:=@UInt32.toNat_ofNat'
abbrev nB:=@Array.setIfInBounds_comm
abbrev nI:=@List.length_mapIdx
abbrev nJ:=@Nat.xor_lt_two_pow
abbrev nP:=@List.getElem?_replicate
abbrev nU:=@List.getElem?_set_self
abbrev nV:=@List.length_pos_of_mem
abbrev nW:=@List.nodup_nil
abbrev pD:=@UInt64.toNat_mul
abbrev pM:=@Nat.mul_assoc
abbrev pN:=@Nat.xor_assoc
abbrev pU:=@List.mem_iff_getElem
abbrev pV:=@List.replicate_succ'
abbrev pX:=@UInt8.toNat_toUInt64
abbrev qO:=@Int.natCast_mul
abbrev qP:=@List.cons.injEq
abbrev qQ:=@Nat.mul_eq_zero
abbrev qV:=@List.take_succ_cons
abbrev qY:=@List.map_map
abbrev rF:=@List.find?_map
abbrev rG:=@List.mapIdx_concat
abbrev rH:=@Nat.and_one_is_mod
abbrev rX:=@List.size_toArray
abbrev rY:=@Nat.lt_trichotomy
abbrev rZ:=@Option.map_eq_map
abbrev sQ:=@BitVec.toNat_and
abbrev sS:=@Int.ediv_le_self
abbrev sU:=@List.all_eq_true
abbrev sV:=@List.drop_length
abbrev sW:=@Nat.div_eq_of_lt
abbrev sY:=@UInt64.toNat_inj
abbrev uA:=@Nat.pow_zero
abbrev vB:=@Int.ediv_nonneg
abbrev vC:=@List.append_inj
abbrev vT:=@Int.ofNat_tmod
abbrev vV:=@UInt8.xor_comm
abbrev yC:=@List.cons.inj
abbrev zO:=@Int.lt_or_le
abbrev zP:=@Int.ofNat_le
abbrev zQ:=@Nat.beq_refl
open Go
theorem oQ{p:Prop}(h:p:=by omega):p:=h
theorem kQ{p:Prop}(h:p:=by kernel_rfl):p:=h
theorem dQ{p:Prop}(h:p:=by decide):p:=h
class cB(P:Program)(t:TypeId):Prop where
 ok:∃ d,P.underlying t=some d/\d.isRow=false
class fB(P:Program)(t:TypeId)(n:outParam Nat):Prop where
 ok:∃ d,P.underlying t=some d/\d.isRow=true
 size:(P.info? t).map (·.size)=some n
class aQ(P:Program)(s:TypeId)(i:Nat)(t:outParam TypeId)(off:outParam Nat):Prop where
 ok:∃ fs f,P.underlying s=some (.struct fs)/\fs[i]?=some f/\f.offset=off/\f.type=t
 nz:∃ m,(P.info? t).map (·.size)=some m/\m≠0
theorem fdT{P:Program}{s t:TypeId}{i off:Nat}{fs:Array Field}{f:Field}(h:P.underlying s=some (.struct fs))(a:fs[i]?=some f)(b:f.offset=off)(c:f.type=t)(d:(P.info? t).map (·.size)=some 1:=by kernel_rfl):aQ P s i t off:=⟨⟨_,_,h,a,b,c⟩,⟨1,d,by decide⟩⟩
class cC(P:Program)(t:TypeId)(e:outParam TypeId)(n:outParam Nat):Prop where
 ok:P.underlying t=some (.slice e)
 size:(P.info? e).map (·.size)=some n
class kP(P:Program)(t:TypeId)(len:outParam Nat)(e:outParam TypeId)(n:outParam Nat):Prop where
 ok:P.underlying t=some (.array len e)
 size:(P.info? e).map (·.size)=some n
class cK(P:Program)(t:TypeId)(z:outParam LV):Prop where
 ok:∃ v,((P.info? t).map fun i=>i.zero)=some (some v)/\v.cells=z.toArray
class pW(P:Program)(t:TypeId):Prop where
 ok:∃ e,P.underlying t=some (.pointer e)
class jU(P:Program)(t:TypeId):Prop where
 size:(P.info? t).map (·.size)=some 1
class bC(P:Program)(f:FuncId):Prop where
 ok : ∃ fn, P.funcs[f]? = some fn /\ (fn.name == "runtime.NumGoroutine") = false /\ fn.body.isNone = false
theorem isF{P:Program}{f:FuncId}{fn:Func}(h:P.funcs[f]?=some fn)(a:(fn.name== "runtime.NumGoroutine")=false:=by kernel_rfl)(b:fn.body.isNone=false:=by kernel_rfl):bC P f:=⟨⟨_,h,a,b⟩⟩
class dL(P:Program)(t:TypeId)(pl:outParam (List (Nat×Nat))):Prop where
 ok:∃ fs,P.underlying t=some (.struct fs)/\fs.toList.map (fun f=>((P.info? f.type).map (·.size)).map fun n=>(f.offset,n))=pl.map some
class pA(P:Program)(t:TypeId):Prop where
 ok:(∃ e,P.underlying t=some (.slice e))\/P.underlying t=some .string
class fQ(P:Program)(t:TypeId)(n:outParam Nat):Prop where
 ok:(P.info? t).map (·.bytes)=some n
class zX(P:Program)(t:TypeId):Prop where
 ok:P.underlying t=some .string
class aB6(P:Program)(t:TypeId):Prop where
 ok:P.underlying t=some .bool
class mB(P:Program)(t:TypeId)(k:outParam IntKind):Prop where
 ok:P.underlying t=some (.int k)
theorem aCu{P:Program}{f:FuncId}{fn:Func}{s:ChangeSpec}{c:OpenClaim}(h0:c.wf (OpenSpec.ofChange s)=true)(h1:laidOutB P=true)(h2:mapsRowed P=true) (h3:(fn.params.all (P.readableRec ·)&&namedTie P c.named s.vars&&(c.stops == [])&&(P.stops == [])&&(c.knobs == [])&&(P.stopKnobs == []))=true) (h4:(c.inPlace == P.inPlace f)=true) (h5:(c.unfollowed == P.unfollowed f)=true) (h6:(c.recurses == P.recurses f)=true) (h7:(c.named == P.varsNamed f)=true) (h8:((c.maps == (fn.params.toList++s.plain.varTypes P).any (P.mapsRec ·))&&(c.ifaces == (fn.params.toList++s.plain.varTypes P).any (P.ifacesRec ·))&&(c.mapsOut == P.mapsAmong fn.resultTypes.toList) && (c.loops == (fn.params.toList++s.plain.varTypes P).any (P.loopsFrom ·))&&(c.wideKeys == (fn.params.toList++s.plain.varTypes P++fn.resultTypes.toList).any (P.wideKeysFrom ·)) && s.vars.all (P.varReadable ·)&&fn.resultTypes.all (fun t=>P.readableRec t&&decide (t<P.types.size))&&(c.ifacesOut == fn.resultTypes.toList.any (P.ifacesRec ·))&&(c.loopsOut == fn.resultTypes.toList.any (P.loopsFrom ·)))=true) (h9:(c.plainKeys == P.plainKeys)=true) (h10:(c.shortTexts.isNone&&P.stopsHeard&&P.mayEnter)=true) (h11:(c.lifted == P.liftsFinal)=true) (h12:(P.make == some c.make)=true) (h13:((c.kinds == (if c.domain.isEmpty then [] else fn.params.toList.map fun t=>match P.underlying t with|some (.int k)=>some k|_=>none))&&(c.pinned == c.pinnedBy) && (c.veiled == (fn.params.toList++s.plain.varTypes P++fn.resultTypes.toList).any (P.veiledRec ·))&&c.veiledFits P fn.params.toList (fn.params.toList++s.plain.varTypes P++fn.resultTypes.toList))=true):joinedFacts P f fn s c=true:=by unfold joinedFacts;simp only [bR] at h3 h8 h10 h13 |-;obtain⟨⟨⟨⟨⟨a1,a2⟩,a3⟩,a4⟩,a5⟩,a6⟩:=h3;obtain⟨⟨⟨⟨⟨⟨⟨⟨b1,b2⟩,b3⟩,b4⟩,b5⟩,b6⟩,b7⟩,b8⟩,b9⟩:=h8;obtain⟨⟨c1,c2⟩,c3⟩:=h10;obtain⟨⟨⟨d1,d2⟩,d3⟩,d4⟩:=h13;exact⟨⟨⟨⟨⟨⟨⟨⟨⟨⟨⟨⟨⟨⟨⟨⟨⟨⟨⟨⟨⟨⟨⟨⟨⟨⟨⟨⟨⟨⟨⟨h0,h1⟩,h2⟩,a1⟩,a2⟩,a3⟩,a4⟩,a5⟩,a6⟩,h4⟩,h5⟩,h6⟩,h7⟩,b1⟩,b2⟩,b3⟩,b4⟩,b5⟩,b6⟩,b7⟩,b8⟩,b9⟩,h9⟩,c1⟩,c2⟩,c3⟩,h11⟩,h12⟩,d1⟩,d2⟩,d3⟩,d4⟩
end Go.Proofs.YtdfclocfackkmaaGreat
