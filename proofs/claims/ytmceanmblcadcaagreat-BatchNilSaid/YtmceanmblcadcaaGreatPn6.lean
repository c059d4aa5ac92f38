/- When two values of a struct are the same. From a contract that says 'true' to a row that says so. Slices of structs that are handed in. Arguments that are handed in: numbers, bytes. Slices within what is handed in. Bytes that are handed in. Slices that are read: parts of them. Noughts are appended. Appending where the old slice is still read; slices of byte slices. Arrays of bytes are compared. Maps whose keys are arrays of bytes. -/
import Derived.Test.YtmceanmblcadcaaGreatPn1
import Derived.ChangeKeysEq
import Derived.Laws.StructEq
import Derived.ProofKit
import Derived.Test.YtmceanmblcadcaaGreatPn2
import Derived.OpenShut
import Derived.MapKept
import Derived.Test.YtmceanmblcadcaaGreatPn0
set_option linter.unusedVariables false
set_option linter.unusedSimpArgs false
set_option linter.unusedSectionVars false
namespace Go.Proofs.YtmceanmblcadcaaGreat
open Go Go.Proofs.Tryz
section
variable {P:Program}
def vof(agg:Bool)(l:List Value):Value:=bif agg then .agg l.toArray else l.headD undef
structure zE(P:Program)(t:TypeId)(agg:Bool)(n D:Nat)(p:List Value→Prop):Prop where
 part:∀ (xs:List Value) (off:Nat) (w:World),off+n≤xs.length→(Go.part t xs.toArray off).run P w=.ok (vof agg ((xs.drop off).take n)) w
 eq:∀ (d:Nat) (w:World) (xs ys:List Value),p xs→p ys→∃ b,(Op.equalIn (d+D) t (vof agg xs) (vof agg ys)).run P w=.ok b w∧(b=true↔xs=ys)
theorem aBI{t:TypeId} [bO P t](xs:List Value)(off:Nat)(w:World)(h:off+1≤xs.length):(Go.part t xs.toArray off).run P w=.ok (vof false ((xs.drop off).take 1)) w:=by
 have hx:xs[off]?=some (xs[off]'oQ):=aA _
 have:(xs.drop off).take 1=[xs[off]'oQ]:=by
  rw [bS oQ];rfl
 rw [this]
 simp [Go.part,pO,hx,vof]
theorem aJY{t n:Nat} [hr:eV P t n](xs:List Value)(off:Nat)(w:World):(Go.part t xs.toArray off).run P w=.ok (vof true ((xs.drop off).take n)) w:=by
 simp [Go.part,yG,dM hr.size,vof,List.take_drop]
theorem zE.int{t:TypeId}{k:IntKind} [bO P t](hu:P.underlying t=some (.int k)):zE P t false 1 1 (fun l=>∃ n,l=[.int k n]) where
 part:=aBI
 eq:=fun d w xs ys ⟨m,hx⟩ ⟨n,hy⟩=>by
  subst hx hy
  refine⟨m == n,by simp [vof,Op.equalIn,run_underlying hu],by simp⟩
theorem zY{e:TypeId}{agg:Bool}{n D:Nat}{p:List Value→Prop}(h:zE P e agg n D p)(d:Nat)(w:World)(xs ys:List Value)(hx:∀ i,(i+1)*n≤xs.length→p ((xs.drop (i*n)).take n))(hy:∀ i,(i+1)*n≤ys.length→p ((ys.drop (i*n)).take n)) :
  ∀ (is:List Nat),(∀ i∈is,(i+1)*n≤xs.length∧(i+1)*n≤ys.length)→∃ b,(Op.eqItems (d+D) e n xs.toArray ys.toArray is).run P w=.ok b w∧(b=true↔∀ i∈is,(xs.drop (i*n)).take n=(ys.drop (i*n)).take n)
 | [],_=>⟨true,by simp [Op.eqItems],by simp⟩
 | i::is,hi=>by
  obtain⟨h1,h2⟩:=hi i (by simp)
  obtain⟨b,hb,hbi⟩:=h.eq d w _ _ (hx i h1) (hy i h2)
  obtain⟨b2,hb2,hbi2⟩:=zY h d w xs ys hx hy is (fun j hj=>hi j (by simp [hj]))
  have e1:=h.part xs (i*n) w (by rw [Nat.add_mul] at h1;omega)
  have e2:=h.part ys (i*n) w (by rw [Nat.add_mul] at h2;omega)
  unfold Op.eqItems
  cases b
  ·refine⟨false,by simp [e1,e2,hb],?_⟩
   simp only [jS,false_iff] at hbi ⊢
   exact fun hall=>hbi (hall i (by simp))
  ·refine⟨b2,by simp [e1,e2,hb,hb2],?_⟩
   rw [hbi2]
   have:=hbi.1 rfl
   constructor
   ·intro ha j hj
    rcases cB.1 hj with rfl|hj
    ·exact this
    ·exact ha j hj
   ·exact fun ha j hj=>ha j (by simp [hj])
theorem aAZ(n:Nat):∀ (len:Nat) (xs ys:List Value),xs.length=len*n→ys.length=len*n→(∀ i∈List.range len,(xs.drop (i*n)).take n=(ys.drop (i*n)).take n)→xs=ys
 | 0,xs,ys,hx,hy,_=>by
  rw [cE (by omega:xs.length=0),cE (by omega:ys.length=0)]
 | len+1,xs,ys,hx,hy,h=>by
  rw [← dE n xs,← dE n ys]
  have h0:=h 0 (by simp)
  simp only [mD,bN] at h0
  rw [Nat.add_mul] at hx hy
  congr 1
  refine aAZ n len _ _ (by rw [aW];omega) (by rw [aW];omega) fun i hi=>?_
  have:=h (i+1) (by simp only [eG] at hi ⊢;omega)
  rw [cG,cG]
  have e:n+i*n=(i+1)*n:=by rw [Nat.add_mul];omega
  rw [e];exact this
theorem zE.array{t e:TypeId}{len n D:Nat}{agg:Bool}{p:List Value→Prop}{m:Nat} [hr:eV P t m](hu:P.underlying t=some (.array len e))(he:(P.info? e).map (·.size)=some n)(hm:m=len*n)(h:zE P e agg n D p) :
  zE P t true m (D+1) (fun l=>l.length=m∧∀ i,(i+1)*n≤l.length→p ((l.drop (i*n)).take n)) where
 part:=fun xs off w _=>aJY xs off w
 eq:=fun d w xs ys ⟨hx,px⟩ ⟨hy,py⟩=>by
  subst hm
  have hc:P.cellsOf e=n:=by
   unfold Program.cellsOf
   cases hi:P.info? e with
   | none=>rw [hi] at he;simp at he
   | some i=>rw [hi] at he;simpa using he
  obtain⟨i,hi⟩:∃ i,P.info? e=some i:=by
   cases hi:P.info? e with
   | none=>rw [hi] at he;simp at he
   | some i=>exact⟨i,rfl⟩
  obtain⟨b,hb,hbi⟩:=zY h d w xs ys px py (List.range len) (fun i hi=>by
   have:(i+1)*n≤len*n:=cR n (eG.1 hi)
   omega)
  refine⟨b,?_,hbi.trans ⟨fun ha=>aAZ n len xs ys hx hy ha,fun e i _=>by rw [e]⟩⟩
  have:=run_equalIn_array (P:=P) (w:=w) (d+D) (t:=t) xs.toArray ys.toArray hu hi
  rw [hc] at this
  exact this.trans hb
inductive Cov(P:Program)(D:Nat):List Field→Nat→Nat→(List Value→Prop)→Prop
 | nil (n:Nat):Cov P D [] n n (fun l=>l.length=n)
 | cons {f : Field} {fs : List Field} {off n total D' : Nat} {agg : Bool} {p q : List Value → Prop} (h1 : f.name ≠ "_") (h2 : f.offset = off) (h3 : zE P f.type agg n D' p) (h4 : D' ≤ D) (h5 : Cov P D fs (off + n) total q) :
   Cov P D (f::fs) off total (fun l=>p ((l.drop off).take n)∧q l)
theorem Cov.len{D:Nat}{fs:List Field}{off total:Nat}{q:List Value→Prop}(h:Cov P D fs off total q):off≤total∧∀ l,q l→l.length=total:=by
 induction h with
 | nil n=>exact⟨Nat.le_refl _,fun l h=>h⟩
 | cons h1 h2 h3 h4 h5 ih=>exact⟨by omega,fun l h=>ih.2 l h.2⟩
theorem Cov.eq{D:Nat}{fs:List Field}{off total:Nat}{q:List Value→Prop}(h:Cov P D fs off total q)(d:Nat)(w:World)(xs ys:List Value):q xs→q ys →
  ∃ b,(Op.eqFields (d+D) xs.toArray ys.toArray fs).run P w=.ok b w∧(b=true↔xs.drop off=ys.drop off):=by
 induction h with
 | nil n=>
  intro hx hy
  refine⟨true,by simp [Op.eqFields],?_⟩
  rw [cD oQ,cD oQ];simp
 | @cons f fs off n total D' agg p q h1 h2 h3 h4 h5 ih=>
  intro hx hy
  obtain⟨b2,hb2,hi2⟩:=ih hx.2 hy.2
  have hl:=h5.len
  have hlx:=hl.2 _ hx.2
  have hly:=hl.2 _ hy.2
  have e1:=h3.part xs off w oQ
  have e2:=h3.part ys off w oQ
  obtain⟨b,hb,hi⟩:=h3.eq (d+(D-D')) w _ _ hx.1 hy.1
  have hd:d+(D-D')+D'=d+D:=oQ
  rw [hd] at hb
  subst h2
  unfold Op.eqFields
  have key:xs.drop f.offset=ys.drop f.offset↔(xs.drop f.offset).take n=(ys.drop f.offset).take n∧xs.drop (f.offset+n)=ys.drop (f.offset+n):=by
   constructor
   ·intro h;exact⟨by rw [h],by rw [← cG,← cG,h]⟩
   ·rintro⟨ha,hb⟩
    rw [← dE n (xs.drop f.offset),← dE n (ys.drop f.offset),ha,cG,cG,hb]
  cases b
  ·refine⟨false,by simp [h1,e1,e2,hb],?_⟩
   rw [key,← hi];simp
  ·refine⟨b2,by simp [h1,e1,e2,hb,hb2],?_⟩
   rw [key,← hi,← hi2];simp
class EqS(P:Program)(t:TypeId)(q:outParam (List Value→Prop)):Prop where
 under:P.underlying t=some (.struct (P.fieldsOf t))
 held:P.stoodInHeld t=false
 guard:P.eqGuardType P.depth t=false
 cov:∃ fs D total,P.underlying t=some (.struct fs)∧D≤9000∧Cov P D fs.toList 0 total q
theorem EqS.eq{t:TypeId}{q:List Value→Prop} [h:EqS P t q](w:World)(xs ys:List Value)(hx:q xs)(hy:q ys):∃ b,(Op.equal t (.agg xs.toArray) (.agg ys.toArray)).run P w=.ok b w∧(b=true↔xs=ys):=by
 obtain⟨fs,D,total,hu,hD,hc⟩:=h.cov
 have hfs:P.fieldsOf t=fs:=by have:=h.under;rw [hu] at this;injection this with this;injection this with this;exact this.symm
 rw [← hfs] at hc
 obtain⟨b,hb,hi⟩:=hc.eq (9999-D) w xs ys hx hy
 refine⟨b,?_,by simpa using hi⟩
 have:9999-D+D=9999:=oQ
 rw [this] at hb
 exact (run_equalIn_agg w 9999 t _ _ h.under h.held).trans hb
variable {C:Ctx}{ρ:Fr}{H:Hp}{o:Oper}{t t':TypeId}{x y:Operand}{l l':List Value}{q:List Value→Prop}
end
section
open Go.ChangeShapes Go.WideShapes Go.ChangeAt Go.RowKit
section
variable {H:Type}{enc:TypeId×Value→H}{P:Program}
theorem uT(hl:laidOutB P=true){W W':World}(hb:Below W.heap.size W W'){sp:Nat→Bool}:∀ (ts:List TypeId) (vs:List Value) (ds:List (DataW H)) (ps:List MemPlace),
  (∀ t∈ts,P.readableRec t=true∧t<P.types.size)→(∀ p∈ps,p.block<W.heap.size)→(∀ p∈ps,sp p.block=true) →
  DataW.TrodAll enc P W 0 (fun _=>true) true ts vs ds ps→DataW.TrodAll enc P W' 0 sp true ts vs ds ps
 | [],[],[],ps,_,_,_,h=>h
 | t::ts,v::vs,d::ds,ps,ht,hlt,hs,⟨p,q,h1,h2,h3⟩=>by
  subst h3
  have:=ht t (by simp)
  refine⟨p,q,?_,?_,rfl⟩
  ·exact WideElems.Trod_stays hl this.1 this.2 h1 (fun x hx=>hb.same (hlt x (aT _ hx))) (fun x hx=>hs x (aT _ hx))
  ·exact uT hl hb ts vs ds q (fun t' h'=>ht t' (by simp [h'])) (fun x hx=>hlt x (aN _ hx)) (fun x hx=>hs x (aN _ hx)) h2
theorem St.below{w0 w:World}{Hh:Hp}(h:St [] w0 Hh w):Below w0.heap.size w0 w:=⟨h.os,h.tape,h.out,h.size,fun k hk=>h.keep k hk (by simp)⟩
theorem aAL{f:Func}{s:ChangeSpec}{apart fresh handsOn again:Bool}{W W':World}{args:Array Value}{v:Value}{ds gs:List (DataW H)}{before pa pv:List MemPlace}
  (hW:DataW.Whole enc P f.params.toList s.vars apart W args.toList ds gs before)
  (hres:∀ (b:Nat) (sp:Nat→Bool) (hd:Bool),DataW.TrodAll enc P W' b sp hd f.resultTypes.toList (v.resultList f.resultTypes.size) (s.fn H (ds++gs)).results [])
  (hargs:∀ sp:Nat→Bool,(∀ p∈before,sp p.block=true)→DataW.TrodAll enc P W' 0 sp true f.params.toList args.toList (s.fn H (ds++gs)).args pa)
  (hvars:∀ sp:Nat→Bool,(∀ p∈before,sp p.block=true)→DataW.TrodVars enc P W' sp s.vars (s.fn H (ds++gs)).vars pv)
  (hps:before=pa++pv) (hk:W.keptBut W' (·∈before)) (hfz:∀ a,a.block<W.heap.size→W'.frozen? a=W.frozen? a)
  (hok:∀ (j:Nat) (t:TypeId) (r:Value),f.resultTypes[j]?=some t→(v.resultList f.resultTypes.size)[j]?=some r→Value.okWide P W' .any 0 t r) :
  s.post enc P f apart fresh handsOn again W args v W':=by
 have hold:∀ p∈before,(fun b=>decide (b<W.heap.size)) p.block=true:=fun p hp=>by simpa using hW.lt p hp
 have hlt:∀ p∈before,p.block<W.heap.size:=fun p hp=>hW.lt p hp
 refine⟨ds,gs,before,[],pa,pv,hW,hres _ _ _,hargs _ hold,hvars _ hold,World.keptBut_mono (fun p hp=>⟨hp,?_⟩) hk,fun _=>?_⟩
 ·rw [hps,bQ] at hp
  exact Or.inr hp
 ·obtain⟨_,_,_,_,_,hz,hn⟩:=hW
  refine⟨hok,_,_,([]++pa)++pv,⟨[]++pa,pv,trodAll_append (hargs _ (fun _ _=>rfl)) (hres _ _ _),hvars _ (fun _ _=>rfl),rfl,?_,?_⟩,?_⟩
  ·intro b off hp
   rw [List.nil_append,← hps] at hp
   rw [hfz _ (hlt _ hp)]
   exact hz b off hp
  ·intro ha
   have:=hn ha
   rw [hps] at this
   simpa using this
  ·intro p hp _
   rw [hps]
   simpa using hp
theorem aF0{f:Func}{s:ChangeSpec}{apart fresh handsOn again:Bool}{W W':World}{args:Array Value}{ds gs:List (DataW H)}{before:List MemPlace}{tb:TypeId}
  (hl:laidOutB P=true) (hts:∀ t∈f.params.toList,P.readableRec t=true∧t<P.types.size) (hv:s.vars=[]) (hW:DataW.Whole enc P f.params.toList s.vars apart W args.toList ds gs before)
  (hr:f.resultTypes=#[tb]) (htb:P.underlying tb=some .bool) (hfn:s.fn H ds={ results:=[.lit (.bool true)],args:=ds }) (hb:Below W.heap.size W W') (hfz:∀ a,a.block<W.heap.size→W'.frozen? a=W.frozen? a) :
  s.post enc P f apart fresh handsOn again W args (.bool true) W':=by
 have hlt:∀ p∈before,p.block<W.heap.size:=fun p hp=>hW.lt p hp
 obtain⟨p,q,hA,hV,hps,hz,hn⟩:=id hW
 rw [hv] at hV
 obtain⟨rfl,rfl⟩:=trodVars_none hV
 rw [aE] at hps
 subst hps
 have hfn':s.fn H (ds++[])={ results:=[.lit (.bool true)],args:=ds }:=by rw [aE];exact hfn
 refine aAL (pa:=before) (pv:=[]) hW (fun b sp hd=>?_) (fun sp hsp=>?_) (fun sp _=>?_) (by simp) (hb.frame _) hfz (ok_one hr rfl (okWide_bool_mk htb true))
 ·rw [hfn',hr];exact trodAll_mk1 (shut_bool htb true)
 ·rw [hfn'];exact uT hl hb _ _ _ _ hts hlt hsp hA
 ·rw [hfn',hv];rfl
theorem aEH{fid:FuncId}{f:Func}{s:ChangeSpec}{apart fresh handsOn again:Bool}{W:World}{vs:List Value}{ds gs:List (DataW H)}{before:List MemPlace}{tb:TypeId}{Pre:World→Prop}
  (hT:Tri P fid vs [] Pre (fun v _=>v=.bool true)) (hp:Pre W)
  (hl:laidOutB P=true) (hts:∀ t∈f.params.toList,P.readableRec t=true∧t<P.types.size) (hv:s.vars=[]) (hW:DataW.Whole enc P f.params.toList s.vars apart W vs ds gs before)
  (hr:f.resultTypes=#[tb]) (htb:P.underlying tb=some .bool) (hfn:s.fn H ds={ results:=[.lit (.bool true)],args:=ds }) :
  Calls P fid vs.toArray W fun e W'=>∃ v,e=.returned v∧s.post enc P f apart fresh handsOn again W vs.toArray v W':=
 (hT W (Own.nil W) hp).mono fun e W' ⟨v,H',he,hst,hR⟩=>by
  subst he hR
  exact⟨_,rfl,aF0 hl hts hv (by simpa using hW) hr htb hfn hst.below (fun a ha=>aEN (hst.keep a.block ha (by simp)))⟩
end
section
variable {H:Type}{enc:TypeId×Value→H}{P:Program}
end
theorem aEG{P:Program}{w:World}{r:Reach}{b t:Nat}{k:IntKind}{v:Value}(ht:P.underlying t=some (.int k))(h:Cell.okWide P w r b t v):∃ n,v=.int k n∧k.has n:=by
 unfold Cell.okWide at h
 rw [ht] at h
 cases v <;> simp [Cell.ok,ht] at h
 obtain⟨rfl,h⟩:=h
 exact⟨_,rfl,h⟩
theorem aGp{P:Program}{w:World}{r:Reach}{b t:Nat}{k:IntKind}{v:Value}(ht:P.underlying t=some (.int k))(h:Value.okWide P w r b t v):∃ n,v=.int k n∧k.min≤n∧n≤k.max:=by
 unfold Value.okWide at h
 rw [ht] at h
 obtain⟨n,hv,hn⟩:=aEG ht h
 exact⟨n,hv,hn.1,hn.2⟩
section
variable {H:Type}{enc:TypeId×Value→H}{P:Program}{w:World}{b:Nat}{sp:Nat→Bool}{hd:Bool}
end
section
variable {H:Type}{enc:TypeId×Value→H}{P:Program}
end
section
variable {H:Type}{enc:TypeId×Value→H}{P:Program}
end
end
theorem Sl.isOne{e n:Nat}{v:Value}{xs:List Value}{H:Hp}(h:Sl e n v xs H):One v:=by
 rcases h with ⟨rfl,_,_⟩|⟨b,len,cap,junk,rfl,_⟩ <;> exact⟨rfl⟩
theorem Rd.isOne{K:List Nat}{w:World}{n:Nat}{v:Value}{ys:List Value}(h:Rd K w n v ys):One v:=by
 obtain⟨a,len,cap,rfl,_⟩:=h
 exact⟨rfl⟩
theorem Rd.len1{K:List Nat}{w:World}{a:Option Addr}{len cap:Nat}{bs:List UInt8}(h:Rd K w 1 (.slice a len cap) (cbs bs)):bs.length=len∧len≤cap:=by
 obtain⟨a',len',cap',he,h1,h2,_⟩:=h
 cases he
 simp at h1
 exact⟨h1,h2⟩
theorem Rd.sub{K:List Nat}{w:World}{b o len cap:Nat}{bs:List UInt8}(i j:Nat)(cap':Nat)(h:Rd K w 1 (.slice (some ⟨b,o,none⟩) len cap) (cbs bs))(hij:i≤j)(hj:j≤len)(hc:j-i≤cap') :
  Rd K w 1 (.slice (some ⟨b,o+i,none⟩) (j-i) cap') (cbs ((bs.drop i).take (j-i))):=by
 obtain⟨hl,-⟩:=h.len1
 obtain⟨a',len',cap'',he,h1,h2,h3⟩:=h
 cases he
 refine⟨_,_,_,rfl,by simp;omega,hc,?_⟩
 rcases h3 with h3|⟨b',o',l,T,fz,e',hb,hk,hy⟩
 ·left;omega
 ·cases e'
  right
  refine⟨b,o+i,l,T,fz,rfl,hb,hk,?_⟩
  have:(l.drop (o+i)).take ((j-i)*1)=((((l.drop o).take (len*1)).drop i).take (j-i)):=by
   rw [kO,fR,cG,cU oQ,Nat.mul_one]
  rw [this,hy]
  simp [jH,iG]
theorem Rd.pre{K:List Nat}{w:World}{a:Option Addr}{len cap:Nat}{bs:List UInt8}(m:Nat)(h:Rd K w 1 (.slice a len cap) (cbs bs)):Rd K w 1 (.slice a (min m len) cap) (cbs (bs.take m)):=by
 obtain⟨hl,-⟩:=h.len1
 obtain⟨a',len',cap',he,h1,h2,h3⟩:=h
 cases he
 refine⟨_,_,_,rfl,by simp;omega,by omega,?_⟩
 rcases h3 with h3|⟨b,o,l,T,fz,rfl,hb,hk,hy⟩
 ·left;omega
 ·right
  refine⟨b,o,l,T,fz,rfl,hb,hk,?_⟩
  have e:(l.drop o).take (min m len*1)=((l.drop o).take (len*1)).take m:=by
   rw [fR,Nat.mul_one,Nat.mul_one]
  rw [e,hy]
  simp [iG]
theorem Rd.atB{K:List Nat}{w0 w:World}{H Hc r:Hp}{b len cap:Nat}{T:TypeId}{fz:Nat×Nat}(bs:List UInt8)(hs:St K w0 H w) [hp:eY H (Hc++[(b,.cells (cbs bs).toArray T fz)]) r](hl:bs.length=len)(hc:len≤cap):Rd (Hc.map Prod.fst) w 1 (.slice (some ⟨b,0,none⟩) len cap) (cbs bs):=
 Rd.atH hs hp (by subst hl;rw [bN,Nat.mul_one,aG (by simp)]) (by subst hl;simp) hc
section
variable {P:Program}{C:Ctx}{Q:Exit→Fr→Hp→Prop}{ρ:Fr}{H:Hp}{L rest:List Oper}{d:Option Tmp}{ty:TypeId}{pos:String}{af:Array Edge}{g:Option (Nat×Bool)}{t t' e n len:Nat}{d':Option Nat}{x y:Operand}{k kk:IntKind}{m q r:Int}{l:List Value}{v:Value}{i:Nat}
end
theorem aDQ{P:Program}{C:Ctx}{Q:Exit→Fr→Hp→Prop}{ρ ρk:Fr}{H:Hp}{c:Code}(ts:List Nat)(h:SW P C c Q ρk H)(hk:uC ρ ts=some ρk:=by exact rfl):SW P C c Q ρ H:=
 wY (s:=[]) (uC.sub hk) ⟨by simp⟩ h
section
variable {P:Program}{C:Ctx}{Q:Exit→Fr→Hp→Prop}{ρ:Fr}{H H':Hp}{L rest:List Oper}{o:Oper}
def zc(z:List Value)(m:Nat):List Value:=(Builtin.zeroCells z.toArray m).toList
theorem aG6(z:List Value)(m:Nat):(zc z m).length=m*z.length:=by simp [zc,Builtin.zeroCells]
theorem aG7(v:Value)(m:Nat):zc [v] m=List.replicate m v:=by
 unfold zc Builtin.zeroCells
 apply cJ
 intro i
 by_cases hi:i<m
 ·simp [dY,lU,hi,Nat.mod_one]
 ·rw [bE (by simp;omega),bE (by simp;omega)]
theorem aAH{m:Nat}(h:m≤9223372036854775807):IntKind.i64.wrap (m:Int)=(m:Int):=w64 oQ
theorem aLc{n m:Nat}{z:List Value}(hn:0<n)(hz:z.length=n)(w:World):(if m*n=0 then pure #[] else do pure (Builtin.zeroCells z.toArray m):Sem (Array Value)).run P w=.ok (zc z m).toArray w:=by
 by_cases h:m*n=0
 ·have hm:m=0:=by
   rcases nP.1 h with h|h
   ·exact h
   ·omega
  subst hm
  simp [zc,Builtin.zeroCells]
 ·simp [h,zc]
theorem sA{w:World}{t t2:TypeId}{ty e m sLen sCap:Nat}{base:Option Addr}{zv:Value}{xs z:List Value}{i:TypeInfo}(ht:P.underlying t=some (.slice e))(hi:P.info? e=some i)(hz:i.zero=some zv)(hzc:zv.cells=z.toArray)(hzn:z.length=i.size)(hn:0<i.size)(h2:kN P t2 .i64)
  (hf1:(Builtin.firstCells i.size sLen (.slice base sLen sCap)).run P w.drew=.ok xs.toArray w.drew)
  (hg:sCap<sLen+m) (hbytes:(sLen+m)*i.bytes≤140737488355328) (h63:sLen+m≤9223372036854775807) :
  (Builtin.append_ #[t,t2] ty #[.slice base sLen sCap,.int .i64 (m:Int)]).run P w=.ok (.slice (some ⟨w.heap.size,0,none⟩) (sLen+m) (grownCap w (sLen+m) sCap e))
   (w.drew.alloc (cl (xs++zc z m++(Builtin.zeroCells zv.cells (grownCap w (sLen+m) sCap e-(sLen+m))).toList) e)):=by
 have hn':¬ (sLen+m≤sCap):=oQ
 have h63':¬ (9223372036854775807<((sLen:Int)+(m:Int))):=oQ
 have h48':¬ (281474976710656<Builtin.nextslicecap (sLen+m) sCap*i.bytes):=by have:=growslice_fits hg hbytes;omega
 have hw:=aAH (show m≤9223372036854775807 by omega)
 have hneg:¬ ((m:Int)<0):=oQ
 have hb0:m*i.bytes≤(sLen+m)*i.bytes:=cR _ oQ
 have hb:¬ (281474976710656<(m:Int)*(i.bytes:Int)):=by
  have:=vM.2 (gS hb0 hbytes)
  rw [nM] at this
  omega
 have hzi:=aLc (P:=P) (m:=m) hn hzn w.drew
 rw [← hzc] at hzi
 simp [Builtin.append_,run_underlying ht,run_underlying h2.ok,sizeOf,typeInfo,zeroValue,hi,hz,hn',h63',h48',Question.forced,hf1,newRow,grownCap,asInt,asIntOf,hw,hneg,hb]
 by_cases h0:m*i.size=0
 ·have:m=0:=by
   rcases nP.1 h0 with h|h
   ·exact h
   ·omega
  subst this
  simp [zc,Builtin.zeroCells]
  congr 2
  apply Array.ext'
  simp
 ·have hm:¬ (m=0∨i.size=0):=fun h=>h0 (nP.2 h)
  simp only [if_neg h0]
  simp [hm,hzc,zc,h0]
  congr 2
  apply Array.ext'
  simp
theorem aAx{w:World}{t t2:TypeId}{ty e m sLen sCap b:Nat}{l z:List Value}{zv:Value}{i:TypeInfo}{T:TypeId}(ht:P.underlying t=some (.slice e))(hi:P.info? e=some i)(hz:i.zero=some zv)(hzc:zv.cells=z.toArray)(hzn:z.length=i.size)(hn:0<i.size)(h2:kN P t2 .i64)
  (hoc:OC (zc z m)) (h63:m≤9223372036854775807) (hbytes:m*i.bytes≤281474976710656)
  (hb:w.heap[b]?=some (cl l T)) (hg:sLen+m≤sCap) (hfit:sLen*i.size+m*i.size≤l.length) :
  (Builtin.append_ #[t,t2] ty #[.slice (some ⟨b,0,none⟩) sLen sCap,.int .i64 (m:Int)]).run P w=.ok (.slice (some ⟨b,0,none⟩) (sLen+m) sCap)
   (w.setRow b (l.take (sLen*i.size)++zc z m++l.drop (sLen*i.size+m*i.size)).toArray):=by
 have hlen:(zc z m).length=m*i.size:=by rw [aG6,hzn]
 have hst:=run_storeCells_at P b (sLen*i.size) T (zc z m) 0 l.toArray w hb (by rw [hlen];simpa using hfit) hoc.ok
 simp only [jD,hlen] at hst
 have hw:=aAH h63
 have hneg:¬ ((m:Int)<0):=oQ
 have hb':¬ (281474976710656<(m:Int)*(i.bytes:Int)):=by
  have:=vM.2 hbytes
  rw [nM] at this
  omega
 by_cases h0:m*i.size=0
 ·have:m=0:=by
   rcases nP.1 h0 with h|h
   ·exact h
   ·omega
  subst this
  have e0:zc z 0=[]:=by simp [zc,Builtin.zeroCells]
  rw [e0] at hst ⊢
  have w0:IntKind.i64.wrap 0=0:=rfl
  have hg':sLen≤sCap:=oQ
  simp [w0,hg',Builtin.append_,run_underlying ht,run_underlying h2.ok,sizeOf,typeInfo,zeroValue,hi,hz,asInt,asIntOf,hw,hg,jW] at hst ⊢
  first|done|exact fun hc=>absurd hg oQ|simp [hst]
 ·have hm:¬ (m=0∨i.size=0):=fun h=>h0 (nP.2 h)
  have ez:(Builtin.zeroCells z.toArray m).toList=zc z m:=rfl
  simp [Builtin.append_,run_underlying ht,run_underlying h2.ok,sizeOf,typeInfo,zeroValue,hi,hz,asInt,asIntOf,hw,hneg,hb',hg,jW,hm,h0,hzc,ez,hst]
theorem aCS{w:World}{K:List Nat}{w0:World}{t t2 e n bytes m:Nat}{ty:TypeId}{v:Value}{xs z:List Value}{Hs r:Hp} [ht:bR P t e n] [hb:fC P e bytes] [hz:bV P e z] [h2:kN P t2 .i64]
  (hzn:z.length=n) (hv:Sl e n v xs Hs) (hs:St K w0 (Hs++r) w) (hoc:OC (zc z m)) (hn:0<n) (hbytes:(xs.length+m*n)*bytes≤140737488355328*n) (hb1:1≤bytes) :
  ∃ v' w' Hs',(Builtin.append_ #[t,t2] ty #[v,.int .i64 (m:Int)]).run P w=.ok v' w'∧Sl e n v' (xs++zc z m) Hs'∧St K w0 (Hs'++r) w':=by
 obtain⟨i,hi,hisz⟩:=qK ht.size
 have hby:i.bytes=bytes:=by have:=hb.ok;simpa [hi] using this
 obtain⟨zv,hzv,hzc⟩:=hz.ok
 have hzi:i.zero=some zv:=by simpa [hi] using hzv
 have hzl:zv.cells.size=n:=by rw [hzc];simpa using hzn
 have hlen:(zc z m).length=m*n:=by rw [aG6,hzn]
 subst hisz hby
 have hmb0:m*i.size*i.bytes≤140737488355328*i.size:=gS (cR _ (Nat.le_add_left _ _)) hbytes
 have hmb:m*i.bytes≤140737488355328:=tV hn hmb0
 have hm63:m≤9223372036854775807:=by
  have:m*1≤m*i.bytes:=gI _ hb1
  omega
 rcases hv with ⟨rfl,rfl,rfl⟩|⟨b,len,cap,junk,rfl,hx,hj,hlc,rfl⟩
 ·by_cases hm:m=0
  ·subst hm
   refine⟨.slice none 0 0,w,[],?_,.inl ⟨rfl,by simp [zc,Builtin.zeroCells],rfl⟩,hs⟩
   have hw:=aAH (show 0≤9223372036854775807 by omega)
   simp [Builtin.append_,run_underlying ht.ok,run_underlying h2.ok,sizeOf,typeInfo,hi,asInt,asIntOf,hw]
   simp at hw
   simp [hw]
  ·have hrun:=sA (P:=P) (w:=w) (ty:=ty) (m:=m) (sLen:=0) (sCap:=0) (base:=none) (xs:=[]) ht.ok hi hzi hzc hzn hn h2 (by simp [Builtin.firstCells]) oQ (by simpa using hmb) oQ
   refine⟨_,_,[(w.heap.size,_)],hrun,?_,hs.drew.alloc _⟩
   have hge:=grownCap_ge w (0+m) 0 e
   exact .inr ⟨w.heap.size,0+m,grownCap w (0+m) 0 e,(Builtin.zeroCells zv.cells (grownCap w (0+m) 0 e-(0+m))).toList,rfl,by simpa using hlen,by rw [iD,size_zeroCells,hzl,← Nat.add_mul];congr 1;omega,hge,rfl⟩
 ·have hbe:w.heap[b]?=some (cl (xs++junk) e):=hs.own b _ (by simp)
  have hle:len*i.size≤cap*i.size:=cR _ hlc
  by_cases hg:len+m≤cap
  ·have hfit:len*i.size+m*i.size≤(xs++junk).length:=by
    have:(len+m)*i.size≤cap*i.size:=cR _ hg
    rw [Nat.add_mul] at this
    rw [aB,hx];omega
   have hrun:=aAx (P:=P) (w:=w) (ty:=ty) (sLen:=len) (sCap:=cap) (b:=b) (m:=m) ht.ok hi hzi hzc hzn hn h2 hoc hm63 oQ hbe hg hfit
   have hyj:(zc z m).length≤junk.length:=by rw [hlen];rw [aB,hx] at hfit;omega
   rw [← hlen,← hx,sZ xs (zc z m) junk hyj] at hrun
   refine⟨_,_,[(b,cl (xs++zc z m++junk.drop (zc z m).length) e)],hrun,.inr ⟨b,len+m,cap,junk.drop (zc z m).length,rfl,by rw [aB,hx,hlen,Nat.add_mul],?_,hg,rfl⟩,?_⟩
   ·rw [aW,Nat.add_mul,hlen];rw [hlen] at hyj;omega
   ·exact hs.setRow (l:=xs++junk) (T:=e)
  ·have hbb:(len+m)*i.bytes≤140737488355328:=by
    refine tV hn ?_
    rw [hx,← Nat.add_mul] at hbytes
    exact hbytes
   have hm63:len+m≤9223372036854775807:=by
    have:(len+m)*1≤(len+m)*i.bytes:=gI _ hb1
    omega
   have hold:(Builtin.firstCells i.size len (.slice (some ⟨b,0,none⟩) len cap)).run P w.drew=.ok xs.toArray w.drew:=by
    refine ((eJ.block (P:=P) (w:=w.drew) (i:=0) (m:=len) (c:=cap) (size:=i.size) (ys:=xs) hbe ?_ hx) w.drew rfl).2
    rw [bN,← hx,dG];rfl
   have hrun:=sA (P:=P) (w:=w) (ty:=ty) (m:=m) (sLen:=len) (sCap:=cap) (base:=some ⟨b,0,none⟩) (xs:=xs) ht.ok hi hzi hzc hzn hn h2 hold oQ hbb hm63
   refine⟨_,_,[(w.heap.size,cl (xs++zc z m++(Builtin.zeroCells zv.cells (grownCap w (len+m) cap e-(len+m))).toList) e)],hrun,?_,?_⟩
   ·have hge:=grownCap_ge w (len+m) cap e
    exact .inr ⟨w.heap.size,len+m,grownCap w (len+m) cap e,(Builtin.zeroCells zv.cells (grownCap w (len+m) cap e-(len+m))).toList,rfl,by rw [aB,hx,hlen,Nat.add_mul],by rw [iD,size_zeroCells,hzl,← Nat.add_mul];congr 1;omega,hge,rfl⟩
   ·have hs2:St K w0 r w:=(hs.perm (H':=r++[(b,cl (xs++junk) e)]) (bT (l₁:=[(b,cl (xs++junk) e)]))).drop
    exact hs2.drew.alloc _
instance(v:Value)(m:Nat) [One v]:OC (zc [v] m):=by rw [aG7];infer_instance
end
section
variable {P:Program}{C:Ctx}{Q:Exit→Fr→Hp→Prop}{ρ:Fr}{H:Hp}{L rest:List Oper}{d:Option Tmp}{ty:TypeId}{pos:String}{af:Array Edge}{g:Option (Nat×Bool)}{t t' t2 e n len:Nat}{d':Option Nat}{x y:Operand}{k kk:IntKind}{m:Nat}{v:Value}
theorem aIy{bytes:Nat}{xs:List Value}{zv:Value}{Hs rr:Hp}{mi:Int} [ht:bR P t e n] [fC P e bytes] [bV P e [zv]] [kN P t2 .i64](hv:Sl e n v xs Hs) [hp:eY H Hs rr](hk:∀ v' Hs',Sl e n v' (xs++List.replicate m zv) Hs'→SL P C L Q rest (pt ρ d' v') (Hs'++rr))(hx:ev ρ x=some v:=by exact rfl)(hy:ev ρ y=some (.int .i64 mi):=by exact rfl)(i0:dK mi m:=by infer_instance)(i1:One zv:=by infer_instance)(hn:n=1:=by exact rfl)(hb1:1≤bytes:=by decide)(hbytes:(xs.length+m)*bytes≤140737488355328:=by omega)(hg:gd L ρ ⟨d,.call { callee:=.builtin .append,args:=#[x,y],argTypes:=#[t,t2] },ty,pos,af,g⟩=some true:=by exact rfl)(hd:dk C.n d=some d':=by exact rfl) :
  SL P C L Q (⟨d,.call { callee:=.builtin .append,args:=#[x,y],argTypes:=#[t,t2] },ty,pos,af,g⟩::rest) ρ H:=by
 subst hn
 have hm:=i0.ok
 subst hm
 exact kD hg hd fun a w hf hs=>by
  obtain⟨v',w',Hs',hrun,hv',hst⟩:=aCS (P:=P) (t:=t) (t2:=t2) (ty:=ty) (z:=[zv]) (m:=m) (n:=1) rfl hv (hs.perm hp.perm) inferInstance dQ (by simpa using hbytes) hb1
  rw [aG7] at hv'
  exact⟨v',w',Hs'++rr,.inl (by unfold execOp;simp [resolve,invoke,builtin,hf.eval hx,hf.eval hy,hrun]),hst,hk v' Hs' hv'⟩
end
section
variable {P:Program}
theorem aCR{w:World}{K:List Nat}{w0:World}{t t2 e n bytes m:Nat}{ty:TypeId}{v sv:Value}{xs ys z:List Value}{Hs r:Hp} [ht:bR P t e n] [hb:fC P e bytes] [hz:bV P e z] [h2:nO P t2]
  (hzn:z.length=n) (hv:Sl e n v xs Hs) (hs:St K w0 (Hs++r) w) (hsrc:eJ P w sv n m ys) (hys:ys.length=m*n) (hoc:OC ys) (hn:0<n) (hbytes:(xs.length+ys.length)*bytes≤140737488355328*n) (hb1:1≤bytes) :
  ∃ v' w' Hv Hf Hr Ho,(Builtin.append_ #[t,t2] ty #[v,sv]).run P w=.ok v' w'∧Sl e n v' (xs++ys) Hv∧St K w0 ((Hv++Hf)++r) w'∧Sl e n v xs Hr∧(Hv++Hf).Perm (Hr++Ho):=by
 obtain⟨i,hi,hisz⟩:=qK ht.size
 have hby:i.bytes=bytes:=by have:=hb.ok;simpa [hi] using this
 obtain⟨zv,hzv,hzc⟩:=hz.ok
 have hzi:i.zero=some zv:=by simpa [hi] using hzv
 have hzl:zv.cells.size=n:=by rw [hzc];simpa using hzn
 have hl1:=(hsrc w rfl).1
 subst hisz hby
 rcases hv with ⟨rfl,rfl,rfl⟩|⟨b,len,cap,junk,rfl,hx,hj,hlc,rfl⟩
 ·obtain⟨v',w',Hs',h1,h2,h3⟩:=aAw (P:=P) (t:=t) (t2:=t2) (ty:=ty) hzn (Sl.nil e i.size) hs hsrc hys hoc hn hbytes hb1
  refine⟨v',w',Hs',[],[],Hs',h1,h2,by simpa using h3,Sl.nil _ _,by simp⟩
 ·have hbe:w.heap[b]?=some (cl (xs++junk) e):=hs.own b _ (by simp)
  have hle:len*i.size≤cap*i.size:=cR _ hlc
  by_cases hg:len+m≤cap
  ·have hfit:len*i.size+ys.length≤(xs++junk).length:=by
    have:(len+m)*i.size≤cap*i.size:=cR _ hg
    rw [Nat.add_mul] at this
    rw [aB,hx,hys];omega
   have hrun:=uQ (P:=P) (w:=w) (ty:=ty) (sLen:=len) (sCap:=cap) (b:=b) ht.ok hi h2 hl1 (hsrc w rfl).2 hys hoc hbe hg hfit
   have hyj:ys.length≤junk.length:=by rw [aB,hx] at hfit;omega
   rw [← hx,sZ xs ys junk hyj] at hrun
   refine⟨_,_,[(b,cl (xs++ys++junk.drop ys.length) e)],[],[(b,cl (xs++(ys++junk.drop ys.length)) e)],[],hrun,.inr ⟨b,len+m,cap,junk.drop ys.length,rfl,by rw [aB,hx,hys,Nat.add_mul],?_,hg,rfl⟩,?_,.inr ⟨b,len,cap,ys++junk.drop ys.length,rfl,hx,?_,hlc,rfl⟩,?_⟩
   ·rw [aW,Nat.add_mul,hys];rw [hys] at hyj;omega
   ·exact hs.setRow (l:=xs++junk) (T:=e)
   ·rw [aB,aW];omega
   ·rw [bF]
  ·have hbb:(len+m)*i.bytes≤140737488355328:=by
    refine tV hn ?_
    rw [hx,hys,← Nat.add_mul] at hbytes
    exact hbytes
   have hm63:len+m≤9223372036854775807:=by
    have:(len+m)*1≤(len+m)*i.bytes:=gI _ hb1
    omega
   have hold:(Builtin.firstCells i.size len (.slice (some ⟨b,0,none⟩) len cap)).run P w.drew=.ok xs.toArray w.drew:=by
    refine ((eJ.block (P:=P) (w:=w.drew) (i:=0) (m:=len) (c:=cap) (size:=i.size) (ys:=xs) hbe ?_ hx) w.drew rfl).2
    rw [bN,← hx,dG];rfl
   have hrun:=mM (P:=P) (w:=w) (ty:=ty) (sLen:=len) (sCap:=cap) (base:=some ⟨b,0,none⟩) (xs:=xs) ht.ok hi hzi h2 hl1 hold (hsrc w.drew rfl).2 oQ hbb hm63
   refine⟨_,_,[(w.heap.size,cl (xs++ys++(Builtin.zeroCells zv.cells (grownCap w (len+m) cap e-(len+m))).toList) e)],[(b,cl (xs++junk) e)],[(b,cl (xs++junk) e)],[(w.heap.size,cl (xs++ys++(Builtin.zeroCells zv.cells (grownCap w (len+m) cap e-(len+m))).toList) e)],hrun,?_,?_,.inr ⟨b,len,cap,junk,rfl,hx,hj,hlc,rfl⟩,bT⟩
   ·have hge:=grownCap_ge w (len+m) cap e
    exact .inr ⟨w.heap.size,len+m,grownCap w (len+m) cap e,(Builtin.zeroCells zv.cells (grownCap w (len+m) cap e-(len+m))).toList,rfl,by rw [aB,hx,hys,Nat.add_mul],by rw [iD,size_zeroCells,hzl,← Nat.add_mul];congr 1;omega,hge,rfl⟩
   ·exact hs.drew.alloc _
end
section
variable {P:Program}{C:Ctx}{Q:Exit→Fr→Hp→Prop}{ρ:Fr}{H:Hp}{L rest:List Oper}{d:Option Tmp}{ty:TypeId}{pos:String}{af:Array Edge}{g:Option (Nat×Bool)}{t t' t2 e n len:Nat}{d':Option Nat}{x y:Operand}{k kk:IntKind}{m:Int}{v sv:Value}
theorem aKB{bytes mm:Nat}{xs ys zv:List Value}{Hs rr:Hp} [ht:bR P t e n] [fC P e bytes] [bV P e zv] [nO P t2](hv:Sl e n v xs Hs) [hp:eY H Hs rr](hsrc:∀ w,St C.K C.w0 H w→eJ P w sv n mm ys)(hk:∀ v' Hv Hf Hr Ho,Sl e n v' (xs++ys) Hv→Sl e n v xs Hr→(Hv++Hf).Perm (Hr++Ho)→SL P C L Q rest (pt ρ d' v') ((Hv++Hf)++rr))(hx:ev ρ x=some v:=by exact rfl)(hy:ev ρ y=some sv:=by exact rfl)(hys:ys.length=mm*n:=by first|assumption|(simp;done)|omega)(hoc:OC ys:=by infer_instance)(hzn:zv.length=n:=by exact rfl)(hn:0<n:=by decide)(hb1:1≤bytes:=by decide)(hbytes:(xs.length+ys.length)*bytes≤140737488355328*n:=by omega)(hg:gd L ρ ⟨d,.call { callee:=.builtin .append,args:=#[x,y],argTypes:=#[t,t2] },ty,pos,af,g⟩=some true:=by exact rfl)(hd:dk C.n d=some d':=by exact rfl) :
  SL P C L Q (⟨d,.call { callee:=.builtin .append,args:=#[x,y],argTypes:=#[t,t2] },ty,pos,af,g⟩::rest) ρ H:=
 kD hg hd fun a w hf hs=>by
  obtain⟨v',w',Hv,Hf,Hr,Ho,hrun,hv',hst,hr,hperm⟩:=aCR (P:=P) (t:=t) (t2:=t2) (ty:=ty) hzn hv (hs.perm hp.perm) (hsrc w hs) hys hoc hn hbytes hb1
  exact⟨v',w',(Hv++Hf)++rr,.inl (by unfold execOp;simp [resolve,invoke,builtin,hf.eval hx,hf.eval hy,hrun]),hst,hk v' Hv Hf Hr Ho hv' hr hperm⟩
theorem aKI{p:Option Addr}{cap l:Nat} [bR P t e n](hk:SL P C L Q rest (pt ρ d' (.slice (jX p cap l n) (len-l) (cap-l))) H)(hlc:len≤cap)(hx:ev ρ x=some (.slice p len cap):=by exact rfl)(hy:ev ρ y=some (.int k m):=by exact rfl)(hi:dK m l:=by infer_instance)(hh:l≤len:=by omega)(hg:gd L ρ ⟨d,.slice t x (some y) none none,ty,pos,af,g⟩=some true:=by exact rfl)(hd:dk C.n d=some d':=by exact rfl):SL P C L Q (⟨d,.slice t x (some y) none none,ty,pos,af,g⟩::rest) ρ H:=
 bD (mK (vl:=none) (vh:=none) rfl hx (l:=l) (h:=len) (.inr ⟨y,k,m,rfl,hy,hi.ok⟩) (.inl ⟨rfl,rfl⟩) hh hlc) hg hd hk
end
section
variable {P:Program}{C:Ctx}{ρ:Fr}{H:Hp}{o:Oper}
theorem aH3{t e n len l b j c:Nat}{x y:Operand}{k:IntKind}{m:Int}(ho:o.op=.slice t x (some y) none none)(hx:ev ρ x=some (.pointer (some ⟨b,j,none⟩)))(hy:ev ρ y=some (.int k m))(hl:l<len) [hi:dK m l] [ha:AdN j l n c] [ht:jJ P t len e n]:Pu P C ρ H o (.slice (some ⟨b,c,none⟩) (len-l) (len-l)):=by
 have h:=pN (P:=P) (C:=C) (ρ:=ρ) (H:=H) (l:=l) (h:=len) ho hx (.inr ⟨y,k,m,rfl,hy,hi.ok⟩) (.inl ⟨rfl,rfl⟩) oQ (Nat.le_refl _)
 rw [if_neg oQ,ha.ok] at h
 exact h
end
theorem Sl.srcFrom{P:Program}{K:List Nat}{w0 w:World}{H Hs r:Hp}{e:Nat}{a:Option Addr}{len cap l:Nat}{ys:List Value}(hv:Sl e 1 (.slice a len cap) ys Hs)(hl:l≤len)(hs:St K w0 H w)(hp:eY H Hs r):eJ P w (.slice (jX a cap l 1) (len-l) (cap-l)) 1 (len-l) (ys.drop l):=by
 have hs2:=(hs.perm hp.perm)
 rcases hv with ⟨he,rfl,rfl⟩|⟨b,len',cap',junk,he,hx,hj,hlc,rfl⟩
 ·cases he
  have:l=0:=oQ
  subst this
  exact eJ.empty _ _ _ _
 ·cases he
  unfold jX
  by_cases hc:cap=l
  ·have h0:len-l=0:=oQ
   rw [h0,cD oQ]
   exact eJ.empty _ _ _ _
  ·rw [if_neg hc]
   have e1:Option.map (fun x:Addr=>x.add (l*1)) (some ⟨b,0,none⟩)=some ⟨b,l,none⟩:=by
    simp only [Option.map_some,jW,Nat.mul_one,eX]
   rw [e1]
   refine eJ.block (hs2.own b (cl (ys++junk) e) (by simp)) ?_ (by rw [aW];omega)
   rw [bW oQ,dG]
   rw [aW];omega
theorem Sl.lens{e:Nat}{a:Option Addr}{len cap:Nat}{ys:List Value}{Hs:Hp}(hv:Sl e 1 (.slice a len cap) ys Hs):ys.length=len∧len≤cap∧(len=0∨∃ b,a=some ⟨b,0,none⟩):=by
 rcases hv with ⟨he,rfl,rfl⟩|⟨b,len',cap',junk,he,hx,hj,hlc,rfl⟩
 ·cases he;exact⟨rfl,Nat.le_refl _,.inl rfl⟩
 ·cases he;exact⟨by omega,hlc,.inr ⟨b,rfl⟩⟩
def RdS(K:List Nat)(w:World)(v:Value)(bss:List (List UInt8)):Prop:=
 ∃ vs,Rd K w 1 v vs∧vs.length=bss.length∧∀ (i:Nat) (bs:List UInt8),bss[i]?=some bs→∃ (a:Option Addr) (len cap:Nat),vs[i]?=some (Value.slice a len cap)∧Rd K w 1 (.slice a len cap) (cbs bs)
theorem RdS.at{K:List Nat}{w0 w:World}{H Hc r:Hp}{b len cap:Nat}{vs:List Value}{T:TypeId}{fz:Nat×Nat}{bss:List (List UInt8)}(hs:St K w0 H w) [hp:eY H (Hc++[(b,.cells vs.toArray T fz)]) r](hl:vs.length=len)(hc:len≤cap)(hn:vs.length=bss.length)
  (hr:∀ (i:Nat) (bs:List UInt8),bss[i]?=some bs→∃ (a:Option Addr) (len cap:Nat),vs[i]?=some (Value.slice a len cap)∧Rd (Hc.map Prod.fst) w 1 (.slice a len cap) (cbs bs)):RdS (Hc.map Prod.fst) w (.slice (some ⟨b,0,none⟩) len cap) bss:=
 ⟨vs,Rd.atH hs hp (by subst hl;rw [bN,Nat.mul_one,cK]) (by subst hl;simp) hc,hn,hr⟩
theorem RdS.ro{K:List Nat}{w0 w:World}{H Hc r:Hp}{v:Value}{bss:List (List UInt8)}(h:RdS K w0 v bss)(hs:St K w0 H w) [hp:eY H Hc r]:RdS (Hc.map Prod.fst) w v bss:=by
 obtain⟨vs,h1,h2,h3⟩:=h
 exact⟨vs,h1.ro hs,h2,fun i bs hi=>by
  obtain⟨a,len,cap,h4,h5⟩:=h3 i bs hi
  exact⟨a,len,cap,h4,h5.ro hs⟩⟩
theorem RdS.one{K:List Nat}{w:World}{v:Value}{bss:List (List UInt8)}(h:RdS K w v bss):One v:=by
 obtain⟨vs,h1,-⟩:=h
 exact h1.isOne
theorem gU(a b:List UInt8):cbs (a++b)=cbs a++cbs b:=bC ..
theorem aF(a:List UInt8):(cbs a).length=a.length:=aJ ..
theorem zS(a:List UInt8)(n:Nat):(cbs a).drop n=cbs (a.drop n):=jH.symm
class EqB(P:Program)(t:TypeId)(len:outParam Nat):Prop where
 guard:P.eqGuardType P.depth t=false
 row:eV P t len
 ok:∃ e,P.underlying t=some (.array len e)∧P.underlying e=some (.int .u8)∧(P.info? e).map (·.size)=some 1∧bO P e
theorem EqB.eq{P:Program}{t:TypeId}{len:Nat} [h:EqB P t len](w:World)(a b:List UInt8)(ha:a.length=len)(hb:b.length=len):(Op.equal t (.agg (cbs a).toArray) (.agg (cbs b).toArray)).run P w=.ok (decide (a=b)) w:=by
 obtain⟨e,hu,he,hs,hsc⟩:=h.ok
 have hr:=h.row
 have hq:∀ c:List UInt8,c.length=len→((cbs c).length=len∧∀ i,(i+1)*1≤(cbs c).length→∃ n,((cbs c).drop (i*1)).take 1=[.int .u8 n]):=fun c hc=>⟨by rw [aF,hc],fun i hi=>by
  rw [aF] at hi
  refine⟨((c[i]'oQ).toNat:Int),?_⟩
  rw [Nat.mul_one,zS,bS oQ];rfl⟩
 obtain⟨r,hr1,hr2⟩:=(zE.array (P:=P) (t:=t) (hr:=hr) hu hs oQ (zE.int (t:=e) he)).eq (9998) w (cbs a) (cbs b) (hq a ha) (hq b hb)
 have:r=decide (a=b):=by
  rw [Bool.eq_iff_iff,hr2,decide_eq_true_iff]
  constructor
  ·intro h
   refine List.map_inj_right (f:=fun b:UInt8=>Value.int .u8 (b.toNat:Int)) ?_ |>.1 h
   intro x y hxy
   injection hxy with _ hxy
   exact iY.1 oQ
  ·intro h;rw [h]
 subst this
 exact hr1
section
variable {P:Program}{C:Ctx}{Q:Exit→Fr→Hp→Prop}{ρ:Fr}{H:Hp}{L rest:List Oper}{d:Option Tmp}{ty:TypeId}{pos:String}{af:Array Edge}{g:Option (Nat×Bool)}{t t' len:Nat}{d':Option Nat}{x y:Operand}{a b:List UInt8}{o:Oper}
theorem aIG(ho:o.op=.binOp .eql t x y t')(hx:ev ρ x=some (.agg (cbs a).toArray))(hy:ev ρ y=some (.agg (cbs b).toArray)) [h:EqB P t len](h1:a.length=len)(h2:b.length=len):Pu P C ρ H o (.bool (decide (a=b))):=fun ac w hf _=>by
 unfold execOp;rw [ho];simp [hf.eval hx,hf.eval hy,run_eqGuard_agg _ _ _ _ _ _ _ h.guard,binOp,EqB.eq w a b h1 h2]
theorem aHV(ho:o.op=.binOp .eql t x y t')(hx:ev ρ x=some (.agg (cbs a).toArray))(hy:ev ρ y=some (.agg (cbs b).toArray)) [h:EqB P t len](h1:a.length=len)(he:a=b):Pu P C ρ H o (.bool true):=by
 subst he
 have:=aIG (P:=P) (C:=C) (H:=H) ho hx hy h1 h1
 simpa using this
theorem aEb(ho:o.op=.binOp .neq t x y t')(hx:ev ρ x=some (.agg (cbs a).toArray))(hy:ev ρ y=some (.agg (cbs b).toArray)) [h:EqB P t len](h1:a.length=len)(he:a=b):Pu P C ρ H o (.bool false):=fun ac w hf _=>by
 subst he
 unfold execOp;rw [ho];simp [hf.eval hx,hf.eval hy,run_eqGuard_agg _ _ _ _ _ _ _ h.guard,binOp,EqB.eq w a a h1 h1]
end
section
variable {P:Program}
theorem uR{k len:Nat} [h:EqB P k len](em:Bool)(b:List UInt8)(hb:b.length=len)(w:World):(Instr.checkKey em 10000 k (.agg (cbs b).toArray)).run P w=.ok () w:=by
 obtain⟨e,hu,he,hs,hsc⟩:=h.ok
 rw [show 10000=9999+1 from rfl,Instr.checkKey]
 simp only [Sem.run_bind,run_underlying hu,Result.andThen_ok]
 simp only [Std.Legacy.Range.forIn_eq_forIn_range',Std.Legacy.Range.size,jE,Nat.add_one_sub_one,Nat.div_one]
 have each:∀ i∈List.range' 0 len,i<len:=fun i hi=>by have:=List.mem_range'.1 hi;omega
 generalize List.range' 0 len=is at each
 induction is with
 | nil=>simp
 | cons j is ih=>
  have hj:=each j (by simp)
  have hp:=aBI (P:=P) (t:=e) (cbs b) j w (by rw [aF];omega)
  have hx:((cbs b).drop j).take 1=[.int .u8 ((b[j]'oQ).toNat:Int)]:=by
   rw [zS,bS oQ];rfl
  rw [hx] at hp
  have hv:vof false [Value.int .u8 ((b[j]'oQ).toNat:Int)]=.int .u8 ((b[j]'oQ).toNat:Int):=rfl
  rw [hv] at hp
  have hc:(Instr.checkKey em 9999 e (.int .u8 ((b[j]'oQ).toNat:Int))).run P w=.ok () w:=by
   rw [show 9999=9998+1 from rfl,Instr.checkKey]
   simp [run_underlying he]
  simp only [List.forIn_cons,Sem.run_bind,dM hs,Result.andThen_ok,Nat.mul_one,hp,hc,Sem.run_pure]
  exact ih (fun i hi=>each i (by simp [hi]))
def sO:Nat→List (List UInt8×Value)→List MapEntry
 | _,[]=>[]
 | i,(k,v)::r=>⟨.agg (cbs k).toArray,v,i⟩::sO (i+1) r
theorem aCs:∀ (i:Nat) (l:List (List UInt8×Value)),(sO i l).length=l.length
 | _,[]=>rfl
 | i,(k,v)::r=>by simp [sO,aCs (i+1) r]
theorem aCr:∀ (i:Nat) (l:List (List UInt8×Value)) (k:List UInt8) (v:Value),sO i (l++[(k,v)])=sO i l++[⟨.agg (cbs k).toArray,v,i+l.length⟩]
 | i,[],k,v=>rfl
 | i,(k',v')::r,k,v=>by
  rw [eD,sO,aCr (i+1) r k v,sO,eD,aY]
  congr 3
  simp;omega
def atK(l:List (List UInt8×Value))(k:List UInt8):Option Value:=(l.find? fun x=>decide (k=x.1)).map Prod.snd
theorem tI{k len:Nat} [h:EqB P k len](b:List UInt8)(hb:b.length=len)(w:World):∀ (l:List (List UInt8×Value)) (i j:Nat),(∀ x∈l,x.1.length=len) →
  ∃ r,(Instr.findAsking k (.agg (cbs b).toArray) (sO i l) j).run P w=.ok r w∧r.map Prod.snd=atK l b
 | [],i,j,_=>⟨none,by simp [sO,Instr.findAsking],rfl⟩
 | (k',v')::r,i,j,hl=>by
  have heq:=EqB.eq (P:=P) (t:=k) w b k' hb (hl (k',v') (by simp))
  by_cases hk:b=k'
  ·subst hk
   have heq':(Op.equal k (.agg (cbs b).toArray) (.agg (cbs b).toArray)).run P w=.ok true w:=by rw [heq];simp
   refine⟨some (j,v'),?_,?_⟩
   ·simp only [sO,Instr.findAsking,Sem.run_bind,heq',Result.andThen_ok,if_true,Sem.run_pure]
   ·simp [atK,List.find?]
  ·obtain⟨r',h1,h2⟩:=tI (k:=k) b hb w r (i+1) (j+1) (fun x hx=>hl x (by simp [hx]))
   refine⟨r',?_,?_⟩
   ·have heq':(Op.equal k (.agg (cbs b).toArray) (.agg (cbs k').toArray)).run P w=.ok false w:=by rw [heq,decide_eq_false hk]
    simp only [sO,Instr.findAsking,Sem.run_bind,heq',Result.andThen_ok]
    exact h1
   ·rw [h2];simp [atK,List.find?,hk]
theorem wK{k len:Nat} [h:EqB P k len](b:List UInt8)(hb:b.length=len)(w:World)(l:List (List UInt8×Value))(hl:∀ x∈l,x.1.length=len) :
  ∃ r,(Instr.findKey k (.agg (cbs b).toArray) (sO 0 l)).run P w=.ok r w∧r.map Prod.snd=atK l b:=by
 obtain⟨e,hu,-⟩:=h.ok
 cases l with
 | nil=>exact⟨none,by simp [Instr.findKey,run_underlying hu,sO,Instr.findNow],rfl⟩
 | cons x r=>
  obtain⟨k',v'⟩:=x
  obtain⟨r',h1,h2⟩:=tI (P:=P) (k:=k) b hb w ((k',v')::r) 0 0 hl
  refine⟨r',?_,h2⟩
  have hn:Instr.findNow (.array len e) (.agg (cbs b).toArray) (sO 0 ((k',v')::r)) 0=none:=by
   simp [sO,Instr.findNow,Instr.sameNow]
  simp only [Instr.findKey,Sem.run_bind,run_underlying hu,Result.andThen_ok,hn]
  exact h1
class aC3(P:Program)(t:TypeId)(len:outParam Nat)(z:outParam Value):Prop where
 ok:∃ k e,P.underlying t=some (.map k e)∧EqB P k len∧((P.info? e).map fun i=>i.zero)=some (some z)
abbrev mo(l:List (List UInt8×Value)):Obj:=.map (sO 0 l).toArray l.length
theorem aCT{t len r:Nat}{z:Value} [h:aC3 P t len z]{w:World}{l:List (List UInt8×Value)}(b:List UInt8)(hb:b.length=len)(hl:∀ x∈l,x.1.length=len)(hr:w.heap[r]?=some (mo l)) :
  (Instr.lookup t (.map (some r)) (.agg (cbs b).toArray) true).run P w=.ok (.tuple #[(atK l b).getD z,.bool (atK l b).isSome]) w:=by
 obtain⟨k,e,hu,hE,hz⟩:=h.ok
 obtain⟨q,h1,h2⟩:=wK (P:=P) (k:=k) b hb w l hl
 have hc:=fun em=>uR (P:=P) (k:=k) em b hb w
 have hg:=MapKept.run_getObj_map (P:=P) hr
 rw [← h2]
 cases q with
 | none=>simp [Instr.lookup,run_underlying hu,hg,hc,h1,jI hz]
 | some x=>obtain⟨i,v⟩:=x;simp [Instr.lookup,run_underlying hu,hg,hc,h1]
theorem aFf{t len r:Nat}{z:Value} [h:aC3 P t len z]{w:World}{l:List (List UInt8×Value)}(b:List UInt8)(v:Value)(hb:b.length=len)(hl:∀ x∈l,x.1.length=len)(hr:w.heap[r]?=some (mo l))(hn:atK l b=none) :
  (Instr.mapUpdate t (.map (some r)) (.agg (cbs b).toArray) v).run P w=.ok () { w with heap:=w.heap.setIfInBounds r (mo (l++[(b,v)])) }:=by
 obtain⟨k,e,hu,hE,hz⟩:=h.ok
 obtain⟨q,h1,h2⟩:=wK (P:=P) (k:=k) b hb w l hl
 have hc:=fun em=>uR (P:=P) (k:=k) em b hb w
 have hg:=MapKept.run_getObj_map (P:=P) hr
 rw [hn] at h2
 have hq:q=none:=by cases q <;> simp at h2 ⊢
 subst hq
 have hs:=fun o=>MapKept.run_setObj_map (P:=P) o hr
 have he:mo (l++[(b,v)])=.map ((sO 0 l).toArray.push ⟨.agg (cbs b).toArray,v,l.length⟩) (l.length+1):=by
  unfold mo
  rw [aCr]
  simp
 rw [he]
 simp [Instr.mapUpdate,run_underlying hu,hg,hc,h1,hs]
end
section
variable {P:Program}{C:Ctx}{Q:Exit→Fr→Hp→Prop}{ρ:Fr}{H H':Hp}{L rest:List Oper}{d:Option Tmp}{ty:TypeId}{pos:String}{af:Array Edge}{g:Option (Nat×Bool)}{t t' len r:Nat}{d':Option Nat}{x y u:Operand}{b:List UInt8}{o:Oper}{z v:Value}{l:List (List UInt8×Value)}
theorem aFz(hk:∀ r,SL P C L Q rest (pt ρ d' (.map (some r))) ((r,mo [])::H))(hg:gd L ρ ⟨d,.makeMap t none,ty,pos,af,g⟩=some true:=by exact rfl)(hd:dk C.n d=some d':=by exact rfl):SL P C L Q (⟨d,.makeMap t none,ty,pos,af,g⟩::rest) ρ H:=
 kD hg hd fun a w hf hs=>⟨_,_,_,.inl (by unfold execOp;simp [Instr.makeMap,newObj];rfl),hs.alloc _,hk w.heap.size⟩
theorem aJO [h:aC3 P t len z](ho:o.op=.call { callee:=.builtin .len,args:=#[x],argTypes:=#[t] })(hx:ev ρ x=some (.map (some r)))(hat:At H r (mo l)):Pu P C ρ H o (.int .i64 (l.length:Int)):=fun a w hf hs=>by
 obtain⟨k,e,hu,-⟩:=h.ok
 unfold execOp;rw [ho];simp [resolve,invoke,builtin,hf.eval hx,Builtin.len_,run_underlying hu,MapKept.run_getObj_map (hs.at (b:=r)),goInt,aCs]
theorem aIA [h:aC3 P t len z](hk:SL P C L Q rest (pt ρ d' (.int .i64 (l.length:Int))) H)(hx:ev ρ x=some (.map (some r)):=by exact rfl)(hat:At H r (mo l):=by infer_instance)(hg:gd L ρ ⟨d,.call { callee:=.builtin .len,args:=#[x],argTypes:=#[t] },ty,pos,af,g⟩=some true:=by exact rfl)(hd:dk C.n d=some d':=by exact rfl):SL P C L Q (⟨d,.call { callee:=.builtin .len,args:=#[x],argTypes:=#[t] },ty,pos,af,g⟩::rest) ρ H:=
 bD (aJO rfl hx hat) hg hd hk
theorem aKG [h:aC3 P t len z](hk:SL P C L Q rest (pt ρ d' undef) H')(hb:b.length=len)(hl:∀ x∈l,x.1.length=len)(hn:atK l b=none)(hx:ev ρ x=some (.map (some r)):=by exact rfl)(hy:ev ρ y=some (.agg (cbs b).toArray):=by exact rfl)(hu:ev ρ u=some v:=by exact rfl)(hat:At H r (mo l):=by infer_instance)(hup:Upd H r (mo (l++[(b,v)])) H':=by infer_instance)(hg:gd L ρ ⟨d,.mapUpdate t x y u,ty,pos,af,g⟩=some true:=by exact rfl)(hd:dk C.n d=some d':=by exact rfl):SL P C L Q (⟨d,.mapUpdate t x y u,ty,pos,af,g⟩::rest) ρ H:=
 kD hg hd fun a w hf hs=>by
  have hat2:=hs.at (b:=r)
  have hlt:r<w.heap.size:=(eP.1 hat2).1
  refine⟨undef,{ w with heap:=w.heap.setIfInBounds r (mo (l++[(b,v)])) },H',.inr ⟨?_,rfl⟩,?_,hk⟩
  ·unfold execOp;simp [hf.eval hx,hf.eval hy,hf.eval hu,aFf b v hb hl hat2 hn]
  ·refine hs.set (b:=r) (o':=mo (l++[(b,v)])) (by simp) ?_ ?_ rfl rfl rfl
   ·simp [hlt]
   ·intro k hk;simp [eC,Ne.symm hk]
end
class aHb(P:Program)(k:TypeId)(κ:Type)(enc:κ→List Value):Prop where
 eqs:∃ q,EqS P k q∧∀ a,q (enc a)
 inj:∀ a b,enc a=enc b→a=b
 chk:∀ em a w,(Instr.checkKey em 10000 k (.agg (enc a).toArray)).run P w=.ok () w
section
variable {P:Program}{κ:Type} [DecidableEq κ]{enc:κ→List Value}
def uY(enc:κ→List Value):Nat→List (κ×Value)→List MapEntry
 | _,[]=>[]
 | i,(k,v)::r=>⟨.agg (enc k).toArray,v,i⟩::uY enc (i+1) r
theorem aCt:∀ (i:Nat) (l:List (κ×Value)) (k:κ) (v:Value),uY enc i (l++[(k,v)])=uY enc i l++[⟨.agg (enc k).toArray,v,i+l.length⟩]
 | i,[],k,v=>rfl
 | i,(k',v')::r,k,v=>by
  rw [eD,uY,aCt (i+1) r k v,uY,eD,aY]
  congr 3
  simp;omega
def atS(l:List (κ×Value))(k:κ):Option Value:=(l.find? fun x=>decide (k=x.1)).map Prod.snd
theorem sB{k:TypeId} [h:aHb P k κ enc](b:κ)(w:World):∀ (l:List (κ×Value)) (i j:Nat),
  ∃ r,(Instr.findAsking k (.agg (enc b).toArray) (uY enc i l) j).run P w=.ok r w∧r.map Prod.snd=atS l b
 | [],i,j=>⟨none,by simp [uY,Instr.findAsking],rfl⟩
 | (k',v')::r,i,j=>by
  obtain⟨q,hE,hq⟩:=h.eqs
  obtain⟨t,heq,hi⟩:=hE.eq (P:=P) (t:=k) w (enc b) (enc k') (hq b) (hq k')
  by_cases hk:b=k'
  ·subst hk
   have ht:t=true:=hi.2 rfl
   subst ht
   refine⟨some (j,v'),?_,?_⟩
   ·simp only [uY,Instr.findAsking,Sem.run_bind,heq,Result.andThen_ok,if_true,Sem.run_pure]
   ·simp [atS,List.find?]
  ·have ht:t=false:=by
    cases t with
    | false=>rfl
    | true=>exact absurd (h.inj _ _ (hi.1 rfl)) hk
   subst ht
   obtain⟨r',h1,h2⟩:=sB (k:=k) b w r (i+1) (j+1)
   refine⟨r',?_,?_⟩
   ·simp only [uY,Instr.findAsking,Sem.run_bind,heq,Result.andThen_ok]
    exact h1
   ·rw [h2];simp [atS,List.find?,hk]
theorem wL{k:TypeId} [h:aHb P k κ enc](b:κ)(w:World)(l:List (κ×Value)) :
  ∃ r,(Instr.findKey k (.agg (enc b).toArray) (uY enc 0 l)).run P w=.ok r w∧r.map Prod.snd=atS l b:=by
 obtain⟨q,hE,hq⟩:=h.eqs
 have hu:=hE.under
 cases l with
 | nil=>exact⟨none,by simp [Instr.findKey,run_underlying hu,uY,Instr.findNow],rfl⟩
 | cons x r=>
  obtain⟨k',v'⟩:=x
  obtain⟨r',h1,h2⟩:=sB (P:=P) (k:=k) (enc:=enc) b w ((k',v')::r) 0 0
  refine⟨r',?_,h2⟩
  have hn:Instr.findNow (.struct (P.fieldsOf k)) (.agg (enc b).toArray) (uY enc 0 ((k',v')::r)) 0=none:=by
   simp [uY,Instr.findNow,Instr.sameNow]
  simp only [Instr.findKey,Sem.run_bind,run_underlying hu,Result.andThen_ok,hn]
  exact h1
class aFo(P:Program)(t:TypeId)(κ:Type)(enc:κ→List Value)(z:outParam Value):Prop where
 ok:∃ k e,P.underlying t=some (.map k e)∧aHb P k κ enc∧((P.info? e).map fun i=>i.zero)=some (some z)
abbrev moS(enc:κ→List Value)(l:List (κ×Value)):Obj:=.map (uY enc 0 l).toArray l.length
theorem aCV{t r:Nat}{z:Value} [h:aFo P t κ enc z]{w:World}{l:List (κ×Value)}(b:κ)(hr:w.heap[r]?=some (moS enc l)) :
  (Instr.lookup t (.map (some r)) (.agg (enc b).toArray) true).run P w=.ok (.tuple #[(atS l b).getD z,.bool (atS l b).isSome]) w:=by
 obtain⟨k,e,hu,hE,hz⟩:=h.ok
 obtain⟨q,h1,h2⟩:=wL (P:=P) (k:=k) (enc:=enc) b w l
 have hc:=fun em=>hE.chk em b w
 have hg:=MapKept.run_getObj_map (P:=P) hr
 rw [← h2]
 cases q with
 | none=>simp [Instr.lookup,run_underlying hu,hg,hc,h1,jI hz]
 | some x=>obtain⟨i,v⟩:=x;simp [Instr.lookup,run_underlying hu,hg,hc,h1]
theorem aFg{t r:Nat}{z:Value} [h:aFo P t κ enc z]{w:World}{l:List (κ×Value)}(b:κ)(v:Value)(hr:w.heap[r]?=some (moS enc l))(hn:atS l b=none) :
  (Instr.mapUpdate t (.map (some r)) (.agg (enc b).toArray) v).run P w=.ok () { w with heap:=w.heap.setIfInBounds r (moS enc (l++[(b,v)])) }:=by
 obtain⟨k,e,hu,hE,hz⟩:=h.ok
 obtain⟨q,h1,h2⟩:=wL (P:=P) (k:=k) (enc:=enc) b w l
 have hc:=fun em=>hE.chk em b w
 have hg:=MapKept.run_getObj_map (P:=P) hr
 rw [hn] at h2
 have hq:q=none:=by cases q <;> simp at h2 ⊢
 subst hq
 have hs:=fun o=>MapKept.run_setObj_map (P:=P) o hr
 have he:moS enc (l++[(b,v)])=.map ((uY enc 0 l).toArray.push ⟨.agg (enc b).toArray,v,l.length⟩) (l.length+1):=by
  unfold moS
  rw [aCt]
  simp
 rw [he]
 simp [Instr.mapUpdate,run_underlying hu,hg,hc,h1,hs]
end
section
variable {P:Program}{C:Ctx}{Q:Exit→Fr→Hp→Prop}{ρ:Fr}{H H':Hp}{L rest:List Oper}{d:Option Tmp}{ty:TypeId}{pos:String}{af:Array Edge}{g:Option (Nat×Bool)}{t r:Nat}{d':Option Nat}{x y u:Operand}{κ:Type} [DecidableEq κ]{enc:κ→List Value}{b:κ}{o:Oper}{z v:Value}{l:List (κ×Value)}
theorem aI6 [h:aFo P t κ enc z](hk:SL P C L Q rest (pt ρ d' undef) H')(hn:atS l b=none)(hx:ev ρ x=some (.map (some r)):=by exact rfl)(hy:ev ρ y=some (.agg (enc b).toArray):=by exact rfl)(hu:ev ρ u=some v:=by exact rfl)(hat:At H r (moS enc l):=by infer_instance)(hup:Upd H r (moS enc (l++[(b,v)])) H':=by infer_instance)(hg:gd L ρ ⟨d,.mapUpdate t x y u,ty,pos,af,g⟩=some true:=by exact rfl)(hd:dk C.n d=some d':=by exact rfl):SL P C L Q (⟨d,.mapUpdate t x y u,ty,pos,af,g⟩::rest) ρ H:=
 kD hg hd fun a w hf hs=>by
  have hat2:=hs.at (b:=r)
  have hlt:r<w.heap.size:=(eP.1 hat2).1
  refine⟨undef,{ w with heap:=w.heap.setIfInBounds r (moS enc (l++[(b,v)])) },H',.inr ⟨?_,rfl⟩,?_,hk⟩
  ·unfold execOp;simp [hf.eval hx,hf.eval hy,hf.eval hu,aFg b v hat2 hn]
  ·refine hs.set (b:=r) (o':=moS enc (l++[(b,v)])) (by simp) ?_ ?_ rfl rfl rfl
   ·simp [hlt]
   ·intro k hk;simp [eC,Ne.symm hk]
end
section
variable {P:Program}{C:Ctx}{L:List Oper}{Q:Exit→Fr→Hp→Prop}{B:List Nat}{R R' H:Hp}{fuel:Nat}{listed:Array Bool}{ρ:Fr}{o:Oper}{κ:Type} [DecidableEq κ]{enc:κ→List Value}
theorem aI2{t r:Nat}{z:Value}{x y:Operand}{b:κ}{l:List (κ×Value)}(i:Nat)(Ws:List Nat)(hi:L[i]?=some o){d':Option Nat}(iM:aFo P t κ enc z)(hk:SS P C L Q B R' fuel (listed.setIfInBounds i true) (pt ρ d' (.tuple #[(atS l b).getD z,.bool (atS l b).isSome])) H)(hok:zR L B listed i Ws=true:=by kernel_rfl)(ho:o.op=.lookup t x y true:=by exact rfl)(hx:ev ρ x=some (.map (some r)):=by exact rfl)(hy:ev ρ y=some (.agg (enc b).toArray):=by exact rfl)(hat:At H r (moS enc l):=by infer_instance)(hin:Ins R r (moS enc l) R':=by infer_instance)(hg:gd L ρ o=some true:=by exact rfl)(hd:dk C.n o.dst=some d':=by exact rfl)(hQ:∀ c ρ H,Q (.panic c) ρ H→False:=by exact fun _ _ _ h=>Fin.np h):SS P C L Q B R (fuel+1) listed ρ H:=
 tN i Ws hi hok hQ hin.ok.2.1 (fun x hx=>(hin.ok.2.2 x hx).elim (fun e=>.inr (e▸hat.mem)) .inl) (fun a hf=>.inl ⟨fQ hf hg,fun w hr=>by
  have hb2:=hr.2 _ hin.ok.1
  unfold execOp;rw [ho];simp [hf.eval hx,hf.eval hy,aCV b hb2]⟩) hd hk
end
section
variable {P:Program}
variable {C:Ctx}{Q:Exit→Fr→Hp→Prop}{ρ:Fr}{H:Hp}{L rest:List Oper}{d:Option Tmp}{ty:TypeId}{pos:String}{af:Array Edge}{g:Option (Nat×Bool)}{t t':Nat}{d':Option Nat}{x y:Operand}{o:Oper}{v:Value}
end
namespace Pq
structure Sx where
 a:Int
 b:Int
 num:Int
deriving DecidableEq,Inhabited
structure Ord(α:Type)(lt:α→α→Bool):Prop where
 asym:∀ x y,lt x y=true→lt y x=false
 neg:∀ x y z,lt x y=false→lt y z=false→lt x z=false
section
variable {lt:Sx→Sx→Bool}
def le(lt:Sx→Sx→Bool)(a b:Sx):Prop:=lt b a=false
theorem le_trans(h:Ord Sx lt){a b c:Sx}(h1:le lt a b)(h2:le lt b c):le lt a c:=h.neg _ _ _ h2 h1
theorem le_of_lt(h:Ord Sx lt){a b:Sx}(h1:lt a b=true):le lt a b:=h.asym _ _ h1
theorem le_refl(h:Ord Sx lt)(a:Sx):le lt a a:=by
 unfold le
 cases p:lt a a with
 | false=>rfl
 | true=>have:=h.asym _ _ p;rw [p] at this;exact this
end
end Pq
section
attribute [local irreducible] SW SL SQ SH SA SS Pu Fin bU aP
open Pq
def aFn(fl:FuncId)(less:Int×Int→Int×Int→Bool):Prop:=∀ x y:Int×Int,Tri prog fl [.agg [(.int .i64 x.1:Value),.int .i64 x.2].toArray,.agg [(.int .i64 y.1:Value),.int .i64 y.2].toArray] [] (fun _=>True) (fun v H=>v=.bool (less x y)∧H=[])
section
variable {fl:FuncId} [hfl:aZ prog fl]{less:Int×Int→Int×Int→Bool}(hO:Ord (Int×Int) less)(hL:aFn fl less)
include hO hL
end
section
variable {fl:FuncId} [hfl:aZ prog fl]{less:Int×Int→Int×Int→Bool}(hO:Ord (Int×Int) less)(hL:aFn fl less)
include hO hL
end
def tc(x:Int×Int):List Value:=[.int .i64 x.1,.int .i64 x.2]
section
variable {fl:FuncId} [hfl:aZ prog fl]{less:Int×Int→Int×Int→Bool}(hO:Ord (Int×Int) less)(hL:aFn fl less)
include hO hL
end
end
structure Ei where
 k:Int
 v:Value
 n:Nat
 bs:List UInt8
def Ei.e(x:Ei):MapEntry:=⟨.int .i64 x.k,x.v,x.n⟩
abbrev moI(l:List Ei)(c:Nat):Obj:=.map (l.map Ei.e).toArray c
def atI(l:List Ei)(k:Int):Option Ei:=l.find? fun x=>decide (k=x.k)
def idI:List Ei→Int→Nat→Option (Nat×Value)
 | [],_,_=>none
 | x::r,k,i=>if k=x.k then some (i,x.v) else idI r k (i+1)
def qX:List Ei→Ei→List Ei
 | [],y=>[y]
 | x::r,y=>if y.k=x.k then { y with n:=x.n }::r else x::qX r y
theorem aDr:∀ (l:List Ei) (k:Int) (i:Nat),(idI l k i).map Prod.snd=(atI l k).map Ei.v
 | [],k,i=>rfl
 | x::r,k,i=>by
  unfold idI atI
  by_cases h:k=x.k
  ·rw [if_pos h,List.find?_cons_of_pos (by simpa using h)];rfl
  ·rw [if_neg h,List.find?_cons_of_neg (by simpa using h)];exact aDr r k (i+1)
theorem aF9{l:List Ei}{k:Int}{i:Nat}(h:idI l k i=none)(y:Ei)(hy:y.k=k):qX l y=l++[y]:=by
 induction l generalizing i with
 | nil=>rfl
 | cons x r ih=>
  unfold idI at h
  by_cases hk:k=x.k
  ·rw [if_pos hk] at h;cases h
  ·rw [if_neg hk] at h
   unfold qX
   rw [if_neg (by rw [hy];exact hk),ih h];rfl
theorem aGa{l:List Ei}{k:Int}{j i:Nat}{v:Value}(h:idI l k i=some (j,v))(y:Ei)(hy:y.k=k):i≤j∧((l.map Ei.e)[j-i]?).map MapEntry.key=some (.int .i64 k)∧(qX l y).map Ei.e=(l.map Ei.e).modify (j-i) fun e=>{ e with key:=.int .i64 k,val:=y.v }:=by
 induction l generalizing i with
 | nil=>cases h
 | cons x r ih=>
  unfold idI at h
  by_cases hk:k=x.k
  ·rw [if_pos hk] at h
   injection h with h;injection h with h1 h2
   subst h1
   refine⟨Nat.le_refl _,by rw [cZ,hk];rfl,?_⟩
   unfold qX
   rw [if_pos (by rw [hy];exact hk),cZ]
   show _=({ (Ei.e x) with key:=Value.int .i64 k,val:=y.v }:MapEntry)::r.map Ei.e
   rw [← hy];rfl
  ·rw [if_neg hk] at h
   obtain⟨h1,h2,h3⟩:=ih h
   have e:j-i=(j-(i+1))+1:=oQ
   refine⟨by omega,by rw [e];exact h2,?_⟩
   unfold qX
   rw [if_neg (by rw [hy];exact hk),e,dZ,h3];rfl
section
variable {P:Program}
theorem xE(k:Int):∀ (l:List Ei) (i:Nat),Instr.findNow (.int .i64) (.int .i64 k) (l.map Ei.e) i=some (idI l k i)
 | [],i=>rfl
 | x::r,i=>by
  unfold idI
  have hs:Instr.sameNow (.int .i64) (.int .i64 k) (Ei.e x).key=some (k == x.k):=by simp [Instr.sameNow,Ei.e]
  rw [dZ,Instr.findNow,hs]
  by_cases h:k=x.k
  ·rw [if_pos h,show (k == x.k)=true by simpa using h];rfl
  ·rw [if_neg h,show (k == x.k)=false by simpa using h];exact xE k r (i+1)
class aAJ(P:Program)(t:TypeId)(z:outParam Value):Prop where
 ok:∃ k e,P.underlying t=some (.map k e)∧P.underlying k=some (.int .i64)∧((P.info? e).map fun i=>i.zero)=some (some z)
theorem aCU{t r c:Nat}{z:Value} [h:aAJ P t z]{w:World}{l:List Ei}(k:Int)(hr:w.heap[r]?=some (moI l c)) :
  (Instr.lookup t (.map (some r)) (.int .i64 k) true).run P w=.ok (.tuple #[((atI l k).map Ei.v).getD z,.bool (atI l k).isSome]) w:=by
 obtain⟨kt,e,hu,hE,hz⟩:=h.ok
 have hc:=fun em=>MapKept.run_checkKey (P:=P) (w:=w) (k:=.int .i64 k) hE (by simp [MapKept.IsKey]) em 9999
 have hf:=MapKept.run_findKey (P:=P) (w:=w) hE (xE k l 0)
 have hg:=MapKept.run_getObj_map (P:=P) hr
 have hi:=aDr l k 0
 generalize idI l k 0=q at *
 have hi2:(atI l k).isSome=q.isSome:=by have:=congrArg Option.isSome hi;simpa using this.symm
 rw [hi2,← hi]
 cases q with
 | none=>simp [Instr.lookup,run_underlying hu,hg,hc,hf,jI hz]
 | some x=>obtain⟨i,v⟩:=x;simp [Instr.lookup,run_underlying hu,hg,hc,hf]
theorem aGR{t r c:Nat}{z:Value} [h:aAJ P t z]{w:World}{l:List Ei}(k:Int)(v:Value)(bs:List UInt8)(hr:w.heap[r]?=some (moI l c)) :
  (Instr.mapUpdate t (.map (some r)) (.int .i64 k) v).run P w=.ok () { w with heap:=w.heap.setIfInBounds r (moI (qX l ⟨k,v,c,bs⟩) (if (atI l k).isSome then c else c+1)) }:=by
 obtain⟨kt,e,hu,hE,hz⟩:=h.ok
 have hc:=fun em=>MapKept.run_checkKey (P:=P) (w:=w) (k:=.int .i64 k) hE (by simp [MapKept.IsKey]) em 9999
 have hf:=MapKept.run_findKey (P:=P) (w:=w) hE (xE k l 0)
 have hg:=MapKept.run_getObj_map (P:=P) hr
 have hi:=aDr l k 0
 have hs:=fun o=>MapKept.run_setObj_map (P:=P) o hr
 cases hq:idI l k 0 with
 | none=>
  rw [hq] at hf hi
  have hn:atI l k=none:=by cases h':atI l k with|none=>rfl|some _=>rw [h'] at hi;cases hi
  have he:=aF9 hq ⟨k,v,c,bs⟩ rfl
  rw [hn,he]
  simp [Instr.mapUpdate,run_underlying hu,hg,hc,hf,hs,Ei.e,moI]
 | some x=>
  obtain⟨j,v0⟩:=x
  rw [hq] at hf hi
  have hn:(atI l k).isSome=true:=by cases h':atI l k with|none=>rw [h'] at hi;cases hi|some _=>rfl
  obtain⟨-,h2,h3⟩:=aGa hq ⟨k,v,c,bs⟩ rfl
  rw [jE] at h2 h3
  have hk:=MapKept.run_keyThatStays (P:=P) (w:=w) (d:=.int .i64) (k:=.int .i64 k) (by simp [MapKept.IsKey])
  have hm:(l.map Ei.e).toArray.modify j (fun e=>{ e with key:=Value.int .i64 k,val:=v })=((qX l ⟨k,v,c,bs⟩).map Ei.e).toArray:=by rw [h3];apply Array.ext';simp [Array.toList_modify]
  rw [hn,if_pos rfl]
  unfold moI
  rw [← hm]
  have h2':(Option.map (fun x:MapEntry=>x.key) (l.map Ei.e).toArray[j]?).getD (.int .i64 k)=.int .i64 k:=by rw [List.getElem?_toArray];rw [h2];rfl
  simp only [Instr.mapUpdate,Sem.run_bind,run_underlying hu,Result.andThen_ok,hg,hc,hf,h2',hk,hs]
end
section
variable {P:Program}{C:Ctx}{Q:Exit→Fr→Hp→Prop}{ρ:Fr}{H H':Hp}{L rest:List Oper}{d:Option Tmp}{ty:TypeId}{pos:String}{af:Array Edge}{g:Option (Nat×Bool)}{t r c:Nat}{d':Option Nat}{x y u:Operand}{k:Int}{o:Oper}{z v:Value}{l:List Ei}
theorem aHZ [h:aAJ P t z](ho:o.op=.lookup t x y true)(hx:ev ρ x=some (.map (some r)))(hy:ev ρ y=some (.int .i64 k))(hat:At H r (moI l c)):Pu P C ρ H o (.tuple #[((atI l k).map Ei.v).getD z,.bool (atI l k).isSome]):=fun a w hf hs=>by
 unfold execOp;rw [ho];simp [hf.eval hx,hf.eval hy,aCU k hs.at]
theorem aAY [h:aAJ P t z](hk:SL P C L Q rest (pt ρ d' (.tuple #[((atI l k).map Ei.v).getD z,.bool (atI l k).isSome])) H)(hx:ev ρ x=some (.map (some r)):=by exact rfl)(hy:ev ρ y=some (.int .i64 k):=by exact rfl)(hat:At H r (moI l c):=by infer_instance)(hg:gd L ρ ⟨d,.lookup t x y true,ty,pos,af,g⟩=some true:=by exact rfl)(hd:dk C.n d=some d':=by exact rfl):SL P C L Q (⟨d,.lookup t x y true,ty,pos,af,g⟩::rest) ρ H:=
 bD (aHZ rfl hx hy hat) hg hd hk
theorem aJN [h:aAJ P t z](ho:o.op=.call { callee:=.builtin .len,args:=#[x],argTypes:=#[t] })(hx:ev ρ x=some (.map (some r)))(hat:At H r (moI l c)):Pu P C ρ H o (.int .i64 (l.length:Int)):=fun a w hf hs=>by
 obtain⟨k,e,hu,-⟩:=h.ok
 unfold execOp;rw [ho];simp [resolve,invoke,builtin,hf.eval hx,Builtin.len_,run_underlying hu,MapKept.run_getObj_map (hs.at (b:=r)),goInt]
theorem aKF [h:aAJ P t z](hk:SL P C L Q rest (pt ρ d' (.int .i64 (l.length:Int))) H)(hx:ev ρ x=some (.map (some r)):=by exact rfl)(hat:At H r (moI l c):=by infer_instance)(hg:gd L ρ ⟨d,.call { callee:=.builtin .len,args:=#[x],argTypes:=#[t] },ty,pos,af,g⟩=some true:=by exact rfl)(hd:dk C.n d=some d':=by exact rfl):SL P C L Q (⟨d,.call { callee:=.builtin .len,args:=#[x],argTypes:=#[t] },ty,pos,af,g⟩::rest) ρ H:=
 bD (aJN rfl hx hat) hg hd hk
theorem aFA [h:aAJ P t z](bs:List UInt8)(hk:SL P C L Q rest (pt ρ d' undef) H')(hx:ev ρ x=some (.map (some r)):=by exact rfl)(hy:ev ρ y=some (.int .i64 k):=by exact rfl)(hu:ev ρ u=some v:=by exact rfl)(hat:At H r (moI l c):=by infer_instance)(hup:Upd H r (moI (qX l ⟨k,v,c,bs⟩) (if (atI l k).isSome then c else c+1)) H':=by infer_instance)(hg:gd L ρ ⟨d,.mapUpdate t x y u,ty,pos,af,g⟩=some true:=by exact rfl)(hd:dk C.n d=some d':=by exact rfl):SL P C L Q (⟨d,.mapUpdate t x y u,ty,pos,af,g⟩::rest) ρ H:=
 kD hg hd fun a w hf hs=>by
  have hat2:=hs.at (b:=r)
  have hlt:r<w.heap.size:=(eP.1 hat2).1
  refine⟨undef,{ w with heap:=w.heap.setIfInBounds r (moI (qX l ⟨k,v,c,bs⟩) (if (atI l k).isSome then c else c+1)) },H',.inr ⟨?_,rfl⟩,?_,hk⟩
  ·unfold execOp;simp [hf.eval hx,hf.eval hy,hf.eval hu,aGR k v bs hat2]
  ·refine hs.set (b:=r) (o':=moI (qX l ⟨k,v,c,bs⟩) (if (atI l k).isSome then c else c+1)) (by simp) ?_ ?_ rfl rfl rfl
   ·simp [hlt]
   ·intro k hk;simp [eC,Ne.symm hk]
theorem aKE [h:aAJ P t z](hk:SL P C L Q rest (pt ρ d' (.tuple #[])) H')(hx:ev ρ x=some (.map (some r)):=by exact rfl)(hat:At H r (moI l c):=by infer_instance)(hup:Upd H r (moI [] c) H':=by infer_instance)(hg:gd L ρ ⟨d,.call { callee:=.builtin .clear,args:=#[x],argTypes:=#[t] },ty,pos,af,g⟩=some true:=by exact rfl)(hd:dk C.n d=some d':=by exact rfl):SL P C L Q (⟨d,.call { callee:=.builtin .clear,args:=#[x],argTypes:=#[t] },ty,pos,af,g⟩::rest) ρ H:=
 kD hg hd fun a w hf hs=>by
  have hat2:=hs.at (b:=r)
  obtain⟨k,e,hu,-⟩:=h.ok
  have hlt:r<w.heap.size:=(eP.1 hat2).1
  refine⟨.tuple #[],{ w with heap:=w.heap.setIfInBounds r (moI [] c) },H',.inl ?_,?_,hk⟩
  ·unfold execOp;simp [resolve,invoke,builtin,hf.eval hx,Builtin.clear_,run_underlying hu,MapKept.run_getObj_map hat2,MapKept.run_setObj_map _ hat2,moI]
  ·refine hs.set (b:=r) (o':=moI [] c) (by simp) ?_ ?_ rfl rfl rfl
   ·simp [hlt]
   ·intro k hk;simp [eC,Ne.symm hk]
end
end Go.Proofs.YtmceanmblcadcaaGreat
