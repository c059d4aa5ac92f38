/- Maps whose keys are numbers. -/
import Derived.Test.YtnigolgkkjidiaaGreatPq5
set_option linter.unusedVariables false
set_option linter.unusedSimpArgs false
set_option linter.unusedSectionVars false
namespace Go.Proofs.YtnigolgkkjidiaaGreat
open Go
structure Ei where
 k:Int
 v:Value
 n:Nat
 bs:List UInt8
def Ei.e(x:Ei):MapEntry:=⟨.int .i64 x.k,x.v,x.n⟩
abbrev moI(l:List Ei)(c:Nat):Obj:=.map (l.map Ei.e).toArray c
def atI(l:List Ei)(k:Int):Option Ei:=l.find? fun x=>decide (k=x.k)
def idI:List Ei→Int→Nat→Option (Nat×Value)
 | [],_,_=>none
 | x::r,k,i=>if k=x.k then some (i,x.v) else idI r k (i+1)
def setI:List Ei→Ei→List Ei
 | [],y=>[y]
 | x::r,y=>if y.k=x.k then { y with n:=x.n }::r else x::setI r y
theorem idI_at:∀ (l:List Ei) (k:Int) (i:Nat),(idI l k i).map Prod.snd=(atI l k).map Ei.v
 | [],k,i=>rfl
 | x::r,k,i=>by
  unfold idI atI
  by_cases h:k=x.k
  ·rw [if_pos h,List.find?_cons_of_pos (by simpa using h)];rfl
  ·rw [if_neg h,List.find?_cons_of_neg (by simpa using h)];exact idI_at r k (i+1)
theorem idI_none{l:List Ei}{k:Int}{i:Nat}(h:idI l k i=none)(y:Ei)(hy:y.k=k):setI l y=l++[y]:=by
 induction l generalizing i with
 | nil=>rfl
 | cons x r ih=>
  unfold idI at h
  by_cases hk:k=x.k
  ·rw [if_pos hk] at h;cases h
  ·rw [if_neg hk] at h
   unfold setI
   rw [if_neg (by rw [hy];exact hk),ih h];rfl
theorem idI_some{l:List Ei}{k:Int}{j i:Nat}{v:Value}(h:idI l k i=some (j,v))(y:Ei)(hy:y.k=k):i≤j∧((l.map Ei.e)[j-i]?).map MapEntry.key=some (.int .i64 k)∧(setI l y).map Ei.e=(l.map Ei.e).modify (j-i) fun e=>{ e with key:=.int .i64 k,val:=y.v }:=by
 induction l generalizing i with
 | nil=>cases h
 | cons x r ih=>
  unfold idI at h
  by_cases hk:k=x.k
  ·rw [if_pos hk] at h
   injection h with h;injection h with h1 h2
   subst h1
   refine⟨Nat.le_refl _,by rw [Nat.sub_self,hk];rfl,?_⟩
   unfold setI
   rw [if_pos (by rw [hy];exact hk),Nat.sub_self]
   show _=({ (Ei.e x) with key:=Value.int .i64 k,val:=y.v }:MapEntry)::r.map Ei.e
   rw [← hy];rfl
  ·rw [if_neg hk] at h
   obtain⟨h1,h2,h3⟩:=ih h
   have e:j-i=(j-(i+1))+1:=by omega
   refine⟨by omega,by rw [e];exact h2,?_⟩
   unfold setI
   rw [if_neg (by rw [hy];exact hk),e,List.map_cons,h3];rfl
section
variable {P:Program}
theorem findNow_I(k:Int):∀ (l:List Ei) (i:Nat),Instr.findNow (.int .i64) (.int .i64 k) (l.map Ei.e) i=some (idI l k i)
 | [],i=>rfl
 | x::r,i=>by
  unfold idI
  have hs:Instr.sameNow (.int .i64) (.int .i64 k) (Ei.e x).key=some (k == x.k):=by simp [Instr.sameNow,Ei.e]
  rw [List.map_cons,Instr.findNow,hs]
  by_cases h:k=x.k
  ·rw [if_pos h,show (k == x.k)=true by simpa using h];rfl
  ·rw [if_neg h,show (k == x.k)=false by simpa using h];exact findNow_I k r (i+1)
class MapI(P:Program)(t:TypeId)(z:outParam Value):Prop where
 ok:∃ k e,P.underlying t=some (.map k e)∧P.underlying k=some (.int .i64)∧((P.info? e).map fun i=>i.zero)=some (some z)
theorem run_lookupI{t r c:Nat}{z:Value} [h:MapI P t z]{w:World}{l:List Ei}(k:Int)(hr:w.heap[r]?=some (moI l c)) :
  (Instr.lookup t (.map (some r)) (.int .i64 k) true).run P w=.ok (.tuple #[((atI l k).map Ei.v).getD z,.bool (atI l k).isSome]) w:=by
 obtain⟨kt,e,hu,hE,hz⟩:=h.ok
 have hc:=fun em=>MapKept.run_checkKey (P:=P) (w:=w) (k:=.int .i64 k) hE (by simp [MapKept.IsKey]) em 9999
 have hf:=MapKept.run_findKey (P:=P) (w:=w) hE (findNow_I k l 0)
 have hg:=MapKept.run_getObj_map (P:=P) hr
 have hi:=idI_at l k 0
 generalize idI l k 0=q at *
 have hi2:(atI l k).isSome=q.isSome:=by have:=congrArg Option.isSome hi;simpa using this.symm
 rw [hi2,← hi]
 cases q with
 | none=>simp [Instr.lookup,run_underlying hu,hg,hc,hf,run_zeroValue hz]
 | some x=>obtain⟨i,v⟩:=x;simp [Instr.lookup,run_underlying hu,hg,hc,hf]
theorem run_updI{t r c:Nat}{z:Value} [h:MapI P t z]{w:World}{l:List Ei}(k:Int)(v:Value)(bs:List UInt8)(hr:w.heap[r]?=some (moI l c)) :
  (Instr.mapUpdate t (.map (some r)) (.int .i64 k) v).run P w=.ok () { w with heap:=w.heap.setIfInBounds r (moI (setI l ⟨k,v,c,bs⟩) (if (atI l k).isSome then c else c+1)) }:=by
 obtain⟨kt,e,hu,hE,hz⟩:=h.ok
 have hc:=fun em=>MapKept.run_checkKey (P:=P) (w:=w) (k:=.int .i64 k) hE (by simp [MapKept.IsKey]) em 9999
 have hf:=MapKept.run_findKey (P:=P) (w:=w) hE (findNow_I k l 0)
 have hg:=MapKept.run_getObj_map (P:=P) hr
 have hi:=idI_at l k 0
 have hs:=fun o=>MapKept.run_setObj_map (P:=P) o hr
 cases hq:idI l k 0 with
 | none=>
  rw [hq] at hf hi
  have hn:atI l k=none:=by cases h':atI l k with|none=>rfl|some _=>rw [h'] at hi;cases hi
  have he:=idI_none hq ⟨k,v,c,bs⟩ rfl
  rw [hn,he]
  simp [Instr.mapUpdate,run_underlying hu,hg,hc,hf,hs,Ei.e,moI]
 | some x=>
  obtain⟨j,v0⟩:=x
  rw [hq] at hf hi
  have hn:(atI l k).isSome=true:=by cases h':atI l k with|none=>rw [h'] at hi;cases hi|some _=>rfl
  obtain⟨-,h2,h3⟩:=idI_some hq ⟨k,v,c,bs⟩ rfl
  rw [Nat.sub_zero] at h2 h3
  have hk:=MapKept.run_keyThatStays (P:=P) (w:=w) (d:=.int .i64) (k:=.int .i64 k) (by simp [MapKept.IsKey])
  have hm:(l.map Ei.e).toArray.modify j (fun e=>{ e with key:=Value.int .i64 k,val:=v })=((setI l ⟨k,v,c,bs⟩).map Ei.e).toArray:=by rw [h3];apply Array.ext';simp [Array.toList_modify]
  rw [hn,if_pos rfl]
  unfold moI
  rw [← hm]
  have h2':(Option.map (fun x:MapEntry=>x.key) (l.map Ei.e).toArray[j]?).getD (.int .i64 k)=.int .i64 k:=by rw [List.getElem?_toArray];rw [h2];rfl
  simp only [Instr.mapUpdate,Sem.run_bind,run_underlying hu,Result.andThen_ok,hg,hc,hf,h2',hk,hs]
end
section
variable {P:Program}{C:Ctx}{Q:Exit→Fr→Hp→Prop}{ρ:Fr}{H H':Hp}{L rest:List Oper}{d:Option Tmp}{ty:TypeId}{pos:String}{af:Array Edge}{g:Option (Nat×Bool)}{t r c:Nat}{d':Option Nat}{x y u:Operand}{k:Int}{o:Oper}{z v:Value}{l:List Ei}
theorem p_lookI [h:MapI P t z](ho:o.op=.lookup t x y true)(hx:ev ρ x=some (.map (some r)))(hy:ev ρ y=some (.int .i64 k))(hat:At H r (moI l c)):Pu P C ρ H o (.tuple #[((atI l k).map Ei.v).getD z,.bool (atI l k).isSome]):=fun a w hf hs=>by
 unfold execOp;rw [ho];simp [hf.eval hx,hf.eval hy,run_lookupI k hs.at]
theorem W.lkI [h:MapI P t z](hk:SL P C L Q rest (pt ρ d' (.tuple #[((atI l k).map Ei.v).getD z,.bool (atI l k).isSome])) H)(hx:ev ρ x=some (.map (some r)):=by exact rfl)(hy:ev ρ y=some (.int .i64 k):=by exact rfl)(hat:At H r (moI l c):=by infer_instance)(hg:gd L ρ ⟨d,.lookup t x y true,ty,pos,af,g⟩=some true:=by exact rfl)(hd:dk C.n d=some d':=by exact rfl):SL P C L Q (⟨d,.lookup t x y true,ty,pos,af,g⟩::rest) ρ H:=
 SL.pu (p_lookI rfl hx hy hat) hg hd hk
theorem p_lenI [h:MapI P t z](ho:o.op=.call { callee:=.builtin .len,args:=#[x],argTypes:=#[t] })(hx:ev ρ x=some (.map (some r)))(hat:At H r (moI l c)):Pu P C ρ H o (.int .i64 (l.length:Int)):=fun a w hf hs=>by
 obtain⟨k,e,hu,-⟩:=h.ok
 unfold execOp;rw [ho];simp [resolve,invoke,builtin,hf.eval hx,Builtin.len_,run_underlying hu,MapKept.run_getObj_map (hs.at (b:=r)),goInt]
theorem W.lnI [h:MapI P t z](hk:SL P C L Q rest (pt ρ d' (.int .i64 (l.length:Int))) H)(hx:ev ρ x=some (.map (some r)):=by exact rfl)(hat:At H r (moI l c):=by infer_instance)(hg:gd L ρ ⟨d,.call { callee:=.builtin .len,args:=#[x],argTypes:=#[t] },ty,pos,af,g⟩=some true:=by exact rfl)(hd:dk C.n d=some d':=by exact rfl):SL P C L Q (⟨d,.call { callee:=.builtin .len,args:=#[x],argTypes:=#[t] },ty,pos,af,g⟩::rest) ρ H:=
 SL.pu (p_lenI rfl hx hat) hg hd hk
theorem W.mupI [h:MapI P t z](bs:List UInt8)(hk:SL P C L Q rest (pt ρ d' undef) H')(hx:ev ρ x=some (.map (some r)):=by exact rfl)(hy:ev ρ y=some (.int .i64 k):=by exact rfl)(hu:ev ρ u=some v:=by exact rfl)(hat:At H r (moI l c):=by infer_instance)(hup:Upd H r (moI (setI l ⟨k,v,c,bs⟩) (if (atI l k).isSome then c else c+1)) H':=by infer_instance)(hg:gd L ρ ⟨d,.mapUpdate t x y u,ty,pos,af,g⟩=some true:=by exact rfl)(hd:dk C.n d=some d':=by exact rfl):SL P C L Q (⟨d,.mapUpdate t x y u,ty,pos,af,g⟩::rest) ρ H:=
 SL.eff hg hd fun a w hf hs=>by
  have hat2:=hs.at (b:=r)
  have hlt:r<w.heap.size:=(Array.getElem?_eq_some_iff.1 hat2).1
  refine⟨undef,{ w with heap:=w.heap.setIfInBounds r (moI (setI l ⟨k,v,c,bs⟩) (if (atI l k).isSome then c else c+1)) },H',.inr ⟨?_,rfl⟩,?_,hk⟩
  ·unfold execOp;simp [hf.eval hx,hf.eval hy,hf.eval hu,run_updI k v bs hat2]
  ·refine hs.set (b:=r) (o':=moI (setI l ⟨k,v,c,bs⟩) (if (atI l k).isSome then c else c+1)) (by simp) ?_ ?_ rfl rfl rfl
   ·simp [hlt]
   ·intro k hk;simp [Array.getElem?_setIfInBounds,Ne.symm hk]
theorem W.clI [h:MapI P t z](hk:SL P C L Q rest (pt ρ d' (.tuple #[])) H')(hx:ev ρ x=some (.map (some r)):=by exact rfl)(hat:At H r (moI l c):=by infer_instance)(hup:Upd H r (moI [] c) H':=by infer_instance)(hg:gd L ρ ⟨d,.call { callee:=.builtin .clear,args:=#[x],argTypes:=#[t] },ty,pos,af,g⟩=some true:=by exact rfl)(hd:dk C.n d=some d':=by exact rfl):SL P C L Q (⟨d,.call { callee:=.builtin .clear,args:=#[x],argTypes:=#[t] },ty,pos,af,g⟩::rest) ρ H:=
 SL.eff hg hd fun a w hf hs=>by
  have hat2:=hs.at (b:=r)
  obtain⟨k,e,hu,-⟩:=h.ok
  have hlt:r<w.heap.size:=(Array.getElem?_eq_some_iff.1 hat2).1
  refine⟨.tuple #[],{ w with heap:=w.heap.setIfInBounds r (moI [] c) },H',.inl ?_,?_,hk⟩
  ·unfold execOp;simp [resolve,invoke,builtin,hf.eval hx,Builtin.clear_,run_underlying hu,MapKept.run_getObj_map hat2,MapKept.run_setObj_map _ hat2,moI]
  ·refine hs.set (b:=r) (o':=moI [] c) (by simp) ?_ ?_ rfl rfl rfl
   ·simp [hlt]
   ·intro k hk;simp [Array.getElem?_setIfInBounds,Ne.symm hk]
end
end Go.Proofs.YtnigolgkkjidiaaGreat
