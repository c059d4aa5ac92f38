/- When two values of a struct are the same. -/
import Derived.ChangeKeysEq
import Derived.Laws.StructEq
import Derived.OpenShut
import Derived.MapKept
import Derived.Test.YtdfclocfackkmaaGreatPm3
set_option linter.unusedVariables false
set_option linter.unusedSimpArgs false
set_option linter.unusedSectionVars false
namespace Go.Proofs.YtdfclocfackkmaaGreat
open Go
section
variable {P:Program}
def vof(agg:Bool)(l:LV):Value:=bif agg then .agg l.toArray else l.headD undef
structure xV(P:Program)(t:TypeId)(agg:Bool)(n D:Nat)(p:LV->Prop):Prop where
 part:∀ (xs:LV) (off:Nat) (w:World),off+n<=xs.length->(Go.part t xs.toArray off).run P w=.ok (vof agg ((xs.drop off).take n)) w
 eq:∀ (d:Nat) (w:World) (xs ys:LV),p xs->p ys->∃ b,(Op.equalIn (d+D) t (vof agg xs) (vof agg ys)).run P w=.ok b w/\(b=true↔xs=ys)
theorem aEM{t:TypeId} [cB P t](xs:LV)(off:Nat)(w:World)(h:off+1<=xs.length):(Go.part t xs.toArray off).run P w=.ok (vof false ((xs.drop off).take 1)) w:=by
 have hx:xs[off]?=some (xs[off]'oQ):=aA _;have:(xs.drop off).take 1=[xs[off]'oQ]:=by rw [bK oQ];rfl
 rw [this];simp [Go.part,sJ,hx,vof]
theorem aON{t n:Nat} [hr:fB P t n](xs:LV)(off:Nat)(w:World):(Go.part t xs.toArray off).run P w=.ok (vof true ((xs.drop off).take n)) w:=by simp [Go.part,aBI,eL hr.size,vof,List.take_drop]
theorem xV.int{t:TypeId}{k:IntKind} [cB P t](hu:P.underlying t=some (.int k)):xV P t false 1 1 (fun l=>∃ n,l=[.int k n]) where
 part:=aEM
 eq:=fun d w xs ys ⟨m,hx⟩ ⟨n,hy⟩=>by
  subst hx hy
  refine⟨m == n,by simp [vof,Op.equalIn,run_underlying hu],by simp⟩
theorem aCt{e:TypeId}{agg:Bool}{n D:Nat}{p:LV->Prop}(h:xV P e agg n D p)(d:Nat)(w:World)(xs ys:LV)(hx:∀ i,(i+1)*n<=xs.length->p ((xs.drop (i*n)).take n))(hy:∀ i,(i+1)*n<=ys.length->p ((ys.drop (i*n)).take n)) :
  ∀ (is:List Nat),(∀ i∈is,(i+1)*n<=xs.length/\(i+1)*n<=ys.length)->∃ b,(Op.eqItems (d+D) e n xs.toArray ys.toArray is).run P w=.ok b w/\(b=true↔∀ i∈is,(xs.drop (i*n)).take n=(ys.drop (i*n)).take n)
 | [],_=>⟨true,by simp [Op.eqItems],by simp⟩
 | i::is,hi=>by
  obtain⟨h1,h2⟩:=hi i (by simp);obtain⟨b,hb,hbi⟩:=h.eq d w _ _ (hx i h1) (hy i h2);obtain⟨b2,hb2,hbi2⟩:=aCt h d w xs ys hx hy is (fun j hj=>hi j (by simp [hj]));have e1:=h.part xs (i*n) w (by rw [Nat.add_mul] at h1;omega);have e2:=h.part ys (i*n) w (by rw [Nat.add_mul] at h2;omega);unfold Op.eqItems;cases b
  ·refine⟨false,by simp [e1,e2,hb],?_⟩;simp only [lE,false_iff] at hbi |-;exact fun hall=>hbi (hall i (by simp))
  refine⟨b2,by simp [e1,e2,hb,hb2],?_⟩;rw [hbi2];have:=hbi.1 rfl;constructor
  ·intro ha j hj;rcases cD.1 hj with rfl|hj
   ·exact this
   exact ha j hj
  exact fun ha j hj=>ha j (by simp [hj])
theorem aDA(n:Nat):∀ (len:Nat) (xs ys:LV),xs.length=len*n->ys.length=len*n->(∀ i∈List.range len,(xs.drop (i*n)).take n=(ys.drop (i*n)).take n)->xs=ys
 | 0,xs,ys,hx,hy,_=>by rw [bI (by omega:xs.length=0),bI (by omega:ys.length=0)]
 | len+1,xs,ys,hx,hy,h=>by
  rw [<-dF n xs,<-dF n ys];have h0:=h 0 (by simp);simp only [jM,bQ] at h0;rw [Nat.add_mul] at hx hy;congr 1;refine aDA n len _ _ (by rw [bG];omega) (by rw [bG];omega) fun i hi=>?_;have:=h (i+1) (by simp only [eK] at hi |-;omega);rw [cG,cG];have e:n+i*n=(i+1)*n:=by rw [Nat.add_mul];omega
  rw [e];exact this
theorem xV.array{t e:TypeId}{len n D:Nat}{agg:Bool}{p:LV->Prop}{m:Nat} [hr:fB P t m](hu:P.underlying t=some (.array len e))(he:(P.info? e).map (·.size)=some n)(hm:m=len*n)(h:xV P e agg n D p) :
  xV P t true m (D+1) (fun l=>l.length=m/\∀ i,(i+1)*n<=l.length->p ((l.drop (i*n)).take n)) where
 part:=fun xs off w _=>aON xs off w
 eq:=fun d w xs ys ⟨hx,px⟩ ⟨hy,py⟩=>by
  subst hm
  have hc:P.cellsOf e=n:=by
   unfold Program.cellsOf
   cases hi:P.info? e with
   | none=>rw [hi] at he;simp at he
   | some i=>rw [hi] at he;simpa using he
  obtain⟨i,hi⟩:∃ i,P.info? e=some i:=by
   cases hi:P.info? e with
   | none=>rw [hi] at he;simp at he
   | some i=>exact⟨i,rfl⟩
  obtain⟨b,hb,hbi⟩:=aCt h d w xs ys px py (List.range len) (fun i hi=>by
   have:(i+1)*n<=len*n:=dC n (eK.1 hi)
   omega)
  refine⟨b,?_,hbi.trans ⟨fun ha=>aDA n len xs ys hx hy ha,fun e i _=>by rw [e]⟩⟩
  have:=run_equalIn_array (P:=P) (w:=w) (d+D) (t:=t) xs.toArray ys.toArray hu hi
  rw [hc] at this
  exact this.trans hb
inductive Cov(P:Program)(D:Nat):List Field->Nat->Nat->(LV->Prop)->Prop
 | nil (n:Nat):Cov P D [] n n (fun l=>l.length=n)
 | cons {f : Field} {fs : List Field} {off n total D' : Nat} {agg : Bool} {p q : LV -> Prop} (h1 : f.name ≠ "_") (h2 : f.offset = off) (h3 : xV P f.type agg n D' p) (h4 : D' <= D) (h5 : Cov P D fs (off + n) total q) :
   Cov P D (f::fs) off total (fun l=>p ((l.drop off).take n)/\q l)
theorem Cov.len{D:Nat}{fs:List Field}{off total:Nat}{q:LV->Prop}(h:Cov P D fs off total q):off<=total/\∀ l,q l->l.length=total:=by
 induction h with
 | nil n=>exact⟨Nat.le_refl _,fun l h=>h⟩
 | cons h1 h2 h3 h4 h5 ih=>exact⟨oQ,fun l h=>ih.2 l h.2⟩
theorem Cov.eq{D:Nat}{fs:List Field}{off total:Nat}{q:LV->Prop}(h:Cov P D fs off total q)(d:Nat)(w:World)(xs ys:LV):q xs->q ys -> ∃ b,(Op.eqFields (d+D) xs.toArray ys.toArray fs).run P w=.ok b w/\(b=true↔xs.drop off=ys.drop off):=by
 induction h with
 | nil n=>
  intro hx hy
  refine⟨true,by simp [Op.eqFields],?_⟩
  rw [cQ oQ,cQ oQ];simp
 | @cons f fs off n total D' agg p q h1 h2 h3 h4 h5 ih=>
  intro hx hy
  obtain⟨b2,hb2,hi2⟩:=ih hx.2 hy.2
  have hl:=h5.len
  have hlx:=hl.2 _ hx.2
  have hly:=hl.2 _ hy.2
  have e1:=h3.part xs off w oQ
  have e2:=h3.part ys off w oQ
  obtain⟨b,hb,hi⟩:=h3.eq (d+(D-D')) w _ _ hx.1 hy.1
  have hd:d+(D-D')+D'=d+D:=oQ
  rw [hd] at hb
  subst h2
  unfold Op.eqFields
  have key:xs.drop f.offset=ys.drop f.offset↔(xs.drop f.offset).take n=(ys.drop f.offset).take n/\xs.drop (f.offset+n)=ys.drop (f.offset+n):=by
   constructor
   ·intro h;exact⟨by rw [h],by rw [<-cG,<-cG,h]⟩
   ·rintro⟨ha,hb⟩
    rw [<-dF n (xs.drop f.offset),<-dF n (ys.drop f.offset),ha,cG,cG,hb]
  cases b
  ·refine⟨false,by simp [h1,e1,e2,hb],?_⟩
   rw [key,<-hi];simp
  ·refine⟨b2,by simp [h1,e1,e2,hb,hb2],?_⟩
   rw [key,<-hi,<-hi2];simp
class EqS(P:Program)(t:TypeId)(q:outParam (LV->Prop)):Prop where
 under:P.underlying t=some (.struct (P.fieldsOf t))
 held:P.stoodInHeld t=false
 guard:P.eqGuardType P.depth t=false
 cov:∃ fs D total,P.underlying t=some (.struct fs)/\D<=9000/\Cov P D fs.toList 0 total q
theorem EqS.eq{t:TypeId}{q:LV->Prop} [h:EqS P t q](w:World)(xs ys:LV)(hx:q xs)(hy:q ys):∃ b,(Op.equal t (.agg xs.toArray) (.agg ys.toArray)).run P w=.ok b w/\(b=true↔xs=ys):=by
 obtain⟨fs,D,total,hu,hD,hc⟩:=h.cov;have hfs:P.fieldsOf t=fs:=by have:=h.under;rw [hu] at this;injection this with this;injection this with this;exact this.symm
 rw [<-hfs] at hc;obtain⟨b,hb,hi⟩:=hc.eq (9999-D) w xs ys hx hy;refine⟨b,?_,by simpa using hi⟩;have:9999-D+D=9999:=oQ;rw [this] at hb;exact (run_equalIn_agg w 9999 t _ _ h.under h.held).trans hb
variable {C:Ctx}{A:Fr}{H:Hp}{o:Oper}{t t':TypeId}{x y:Operand}{l l':LV}{q:LV->Prop}
theorem aH3(ho:o.op=.binOp .eql t x y t')(hx:ev A x=some (.agg l.toArray))(hy:ev A y=some (.agg l'.toArray)) [h:EqS P t q](h1:q l)(h2:q l')(he:l=l'):Pu P C A H o (.bool true):=fun a w hf _=>by
 obtain⟨b,hb,hi⟩:=EqS.eq (P:=P) (t:=t) w l l' h1 h2
 have:b=true:=hi.2 he
 subst this
 unfold execOp;rw [ho];simp [hf.eval hx,hf.eval hy,run_eqGuard_agg _ _ _ _ _ _ _ h.guard,binOp,hb]
theorem aEH(ho:o.op=.binOp .eql t x y t')(hx:ev A x=some (.agg l.toArray))(hy:ev A y=some (.agg l'.toArray)) [h:EqS P t q](h1:q l)(h2:q l')(he:l≠l'):Pu P C A H o (.bool false):=fun a w hf _=>by
 obtain⟨b,hb,hi⟩:=EqS.eq (P:=P) (t:=t) w l l' h1 h2
 have:b=false:=by cases b with
  | false=>rfl
  | true=>exact absurd (hi.1 rfl) he
 subst this
 unfold execOp;rw [ho];simp [hf.eval hx,hf.eval hy,run_eqGuard_agg _ _ _ _ _ _ _ h.guard,binOp,hb]
theorem aBY(ho:o.op=.binOp .neq t x y t')(hx:ev A x=some (.agg l.toArray))(hy:ev A y=some (.agg l'.toArray)) [h:EqS P t q](h1:q l)(h2:q l')(he:l≠l'):Pu P C A H o (.bool true):=fun a w hf _=>by
 obtain⟨b,hb,hi⟩:=EqS.eq (P:=P) (t:=t) w l l' h1 h2
 have:b=false:=by cases b with
  | false=>rfl
  | true=>exact absurd (hi.1 rfl) he
 subst this
 unfold execOp;rw [ho];simp [hf.eval hx,hf.eval hy,run_eqGuard_agg _ _ _ _ _ _ _ h.guard,binOp,hb]
theorem xM(ho:o.op=.binOp .neq t x y t')(hx:ev A x=some (.agg l.toArray))(hy:ev A y=some (.agg l'.toArray)) [h:EqS P t q](h1:q l)(h2:q l')(he:l=l'):Pu P C A H o (.bool false):=fun a w hf _=>by
 obtain⟨b,hb,hi⟩:=EqS.eq (P:=P) (t:=t) w l l' h1 h2
 have:b=true:=hi.2 he
 subst this
 unfold execOp;rw [ho];simp [hf.eval hx,hf.eval hy,run_eqGuard_agg _ _ _ _ _ _ _ h.guard,binOp,hb]
end
section
open Go.ChangeShapes Go.WideShapes Go.ChangeAt Go.RowKit
section
variable {H:Type}{enc:TypeId×Value->H}{P:Program}
theorem yO(hl:laidOutB P=true){W W':World}(hb:Below W.heap.size W W'){sp:Nat->Bool}:∀ (ts:List TypeId) (vs:LV) (ds:List (DataW H)) (ps:List MemPlace),
  (∀ t∈ts,P.readableRec t=true/\t<P.types.size)->(∀ p∈ps,p.block<W.heap.size)->(∀ p∈ps,sp p.block=true) ->
  DataW.TrodAll enc P W 0 (fun _=>true) true ts vs ds ps->DataW.TrodAll enc P W' 0 sp true ts vs ds ps
 | [],[],[],ps,_,_,_,h=>h
 | t::ts,v::vs,d::ds,ps,ht,hlt,hs,⟨p,q,h1,h2,h3⟩=>by
  subst h3;have:=ht t (by simp);refine⟨p,q,?_,?_,rfl⟩
  ·exact WideElems.Trod_stays hl this.1 this.2 h1 (fun x hx=>hb.same (hlt x (aO _ hx))) (fun x hx=>hs x (aO _ hx))
  exact yO hl hb ts vs ds q (fun t' h'=>ht t' (by simp [h'])) (fun x hx=>hlt x (aM _ hx)) (fun x hx=>hs x (aM _ hx)) h2
theorem St.below{w0 w:World}{Hh:Hp}(h:St [] w0 Hh w):Below w0.heap.size w0 w:=⟨h.os,h.tape,h.out,h.size,fun k hk=>h.keep k hk (by simp)⟩
theorem aDk{f:Func}{s:ChangeSpec}{apart fresh handsOn again:Bool}{W W':World}{args:Array Value}{v:Value}{ds gs:List (DataW H)}{before pa pv:List MemPlace} (hW:DataW.Whole enc P f.params.toList s.vars apart W args.toList ds gs before) (hres:∀ (b:Nat) (sp:Nat->Bool) (hd:Bool),DataW.TrodAll enc P W' b sp hd f.resultTypes.toList (v.resultList f.resultTypes.size) (s.fn H (ds++gs)).results []) (hargs:∀ sp:Nat->Bool,(∀ p∈before,sp p.block=true)->DataW.TrodAll enc P W' 0 sp true f.params.toList args.toList (s.fn H (ds++gs)).args pa) (hvars:∀ sp:Nat->Bool,(∀ p∈before,sp p.block=true)->DataW.TrodVars enc P W' sp s.vars (s.fn H (ds++gs)).vars pv) (hps:before=pa++pv) (hk:W.keptBut W' (·∈before)) (hfz:∀ a,a.block<W.heap.size->W'.frozen? a=W.frozen? a) (hok:∀ (j:Nat) (t:TypeId) (r:Value),f.resultTypes[j]?=some t->(v.resultList f.resultTypes.size)[j]?=some r->Value.okWide P W' .any 0 t r):s.post enc P f apart fresh handsOn again W args v W':=by
 have hold:∀ p∈before,(fun b=>decide (b<W.heap.size)) p.block=true:=fun p hp=>by simpa using hW.lt p hp
 have hlt:∀ p∈before,p.block<W.heap.size:=fun p hp=>hW.lt p hp;refine⟨ds,gs,before,[],pa,pv,hW,hres _ _ _,hargs _ hold,hvars _ hold,World.keptBut_mono (fun p hp=>⟨hp,?_⟩) hk,fun _=>?_⟩
 ·rw [hps,bJ] at hp;exact Or.inr hp
 obtain⟨_,_,_,_,_,hz,hn⟩:=hW;refine⟨hok,_,_,([]++pa)++pv,⟨[]++pa,pv,trodAll_append (hargs _ (fun _ _=>rfl)) (hres _ _ _),hvars _ (fun _ _=>rfl),rfl,?_,?_⟩,?_⟩
 ·intro b off hp;rw [List.nil_append,<-hps] at hp;rw [hfz _ (hlt _ hp)];exact hz b off hp
 ·intro ha;have:=hn ha;rw [hps] at this;simpa using this
 intro p hp _;rw [hps];simpa using hp
theorem aKe{f:Func}{s:ChangeSpec}{apart fresh handsOn again:Bool}{W W':World}{args:Array Value}{ds gs:List (DataW H)}{before:List MemPlace}{tb:TypeId} (hl:laidOutB P=true) (hts:∀ t∈f.params.toList,P.readableRec t=true/\t<P.types.size) (hv:s.vars=[]) (hW:DataW.Whole enc P f.params.toList s.vars apart W args.toList ds gs before) (hr:f.resultTypes=#[tb]) (htb:P.underlying tb=some .bool) (hfn:s.fn H ds={ results:=[.lit (.bool true)],args:=ds }) (hb:Below W.heap.size W W') (hfz:∀ a,a.block<W.heap.size->W'.frozen? a=W.frozen? a):s.post enc P f apart fresh handsOn again W args (.bool true) W':=by
 have hlt:∀ p∈before,p.block<W.heap.size:=fun p hp=>hW.lt p hp;obtain⟨p,q,hA,hV,hps,hz,hn⟩:=id hW;rw [hv] at hV;obtain⟨rfl,rfl⟩:=trodVars_none hV;rw [aG] at hps;subst hps;have hfn':s.fn H (ds++[])={ results:=[.lit (.bool true)],args:=ds }:=by rw [aG];exact hfn
 refine aDk (pa:=before) (pv:=[]) hW (fun b sp hd=>?_) (fun sp hsp=>?_) (fun sp _=>?_) (by simp) (hb.frame _) hfz (ok_one hr rfl (okWide_bool_mk htb true))
 ·rw [hfn',hr];exact trodAll_mk1 (shut_bool htb true)
 ·rw [hfn'];exact yO hl hb _ _ _ _ hts hlt hsp hA
 rw [hfn',hv];rfl
theorem aAY{fid:FuncId}{f:Func}{s:ChangeSpec}{apart fresh handsOn again:Bool}{W:World}{vs:LV}{ds gs:List (DataW H)}{before:List MemPlace}{tb:TypeId}{Pre:World->Prop}
  (hT:Tri P fid vs [] Pre (fun v _=>v=.bool true)) (hp:Pre W)
  (hl:laidOutB P=true) (hts:∀ t∈f.params.toList,P.readableRec t=true/\t<P.types.size) (hv:s.vars=[]) (hW:DataW.Whole enc P f.params.toList s.vars apart W vs ds gs before)
  (hr:f.resultTypes=#[tb]) (htb:P.underlying tb=some .bool) (hfn:s.fn H ds={ results:=[.lit (.bool true)],args:=ds }) :
  Calls P fid vs.toArray W fun e W'=>∃ v,e=.returned v/\s.post enc P f apart fresh handsOn again W vs.toArray v W':=
 (hT W (Own.nil W) hp).mono fun e W' ⟨v,H',he,hst,hR⟩=>by
  subst he hR
  exact⟨_,rfl,aKe hl hts hv (by simpa using hW) hr htb hfn hst.below (fun a ha=>aIS (hst.keep a.block ha (by simp)))⟩
end
theorem aEx{J D:Type}{f:J->Option D}:∀ (l:List J) (r:List D),l.mapM f=some r->r.length=l.length/\∀ (i:Nat) (h:i<l.length),f l[i]=r[i]?
 | [],r,h=>by simp at h;subst h;exact⟨rfl,fun i h=>absurd h (by simp)⟩
 | a::l,r,h=>by
  rw [List.mapM_cons] at h;cases ha:f a with
  | none=>rw [ha] at h;simp at h
  | some b=>
   cases hl:l.mapM f with
   | none=>rw [ha,hl] at h;simp at h
   | some r'=>
    rw [ha,hl] at h
    simp at h
    subst h
    obtain⟨h1,h2⟩:=aEx l r' hl
    refine⟨by simp [h1],fun i hi=>?_⟩
    cases i with
    | zero=>simpa using ha
    | succ i=>simpa using h2 i (by simpa using hi)
theorem aAT(b o k:Nat):(⟨b,o,none⟩:Addr).add k=⟨b,o+k,none⟩:=by
 unfold Addr.add;split
 ·rename_i h;subst h;rfl
 rfl
section
variable {H:Type}{enc:TypeId×Value->H}{P:Program}
theorem aAc{w:World}{b o n:Nat}{c:LV}(h:w.cells? 0 ⟨b,o,none⟩ n=some c):c.length=n/\∀ j,j<n->∃ (l:Array Value) (T:TypeId) (fz:Nat×Nat),w.heap[b]?=some (.cells l T fz)/\l[o+j]?=c[j]?/\o+j<l.size:=by
 unfold World.cells? at h;rw [if_pos (Nat.zero_le _)] at h;obtain⟨h1,h2⟩:=aEx _ _ h;rw [dR] at h1;refine⟨h1,fun j hj=>?_⟩;have:=h2 j (by simpa using hj);rw [List.getElem_range,aAT] at this;have hc:c[j]?=some (c[j]'oQ):=aA _;rw [hc] at this;unfold World.cell? at this;cases hb:w.heap[b]? with
 | none=>simp [hb] at this
 | some ob=>
  cases ob with
  | cells l T fz=>
   simp [hb] at this
   refine⟨l,T,fz,rfl,by rw [hc];exact this,(gH.1 this).1⟩
  | _=>simp [hb] at this
theorem aMv{t e n b:Nat}{W:World}{r:Reach}{sp:Nat->Bool}{hl:Bool}{v:Value}{d:DataW H}{ps:List MemPlace}{G:LV->Prop}(hu:P.underlying t=some (.slice e))(hc:P.cellsOf e=n)(hn:0<n)(hval:Value.okWide P W r b t v)(hd:DataW.Trod enc P W 0 sp hl t v d ps) (hG:∀ fuel cells z,DataW.trod enc P W 0 sp hl fuel e cells=some z->G cells):∃ (a:Option Addr) (len cap:Nat) (ys:LV),v=.slice a len cap/\len<=cap/\cap<=maxLen/\Rd [] W n v ys/\ys.length=len*n/\∀ i,i<len->G ((ys.drop (i*n)).take n):=by
 have hv:(v=.slice none 0 0)\/∃ (a:Addr) (len cap:Nat),v=.slice (some a) len cap/\a.spot=none:=by
  unfold Value.okWide at hval;rw [hu] at hval;simp only at hval;unfold Cell.okWide at hval;rw [hu] at hval;cases v <;> simp [Cell.ok,hu] at hval;rename_i a len cap;cases a with
  | none=>
   left
   cases len <;> cases cap <;> simp_all
  | some a=>exact .inr ⟨a,len,cap,rfl,by simpa using hval.2.2.2.1⟩
 obtain⟨fuel,h⟩:=hd;rcases hv with rfl|⟨⟨blk,off,spot⟩,len,cap,rfl,hs⟩
 ·exact⟨none,0,0,[],rfl,Nat.le_refl _,Nat.zero_le _,Rd.nil _ _ _,by simp,fun i hi=>absurd hi (lK _)⟩
 dsimp only at hs;subst hs;rcases DataW.trod_slice hu h with ⟨h0,-⟩|⟨a,len',cap',elems,rest,m,rfl,h0,-,-,hlc,hcm,hle,hel,-,-⟩
 ·simp [Value.cells] at h0
 simp [Value.cells] at h0;obtain⟨rfl,rfl,rfl⟩:=h0;rw [hc] at hel;have key:∀ i,i<len->∃ c,W.cells? 0 ⟨blk,off+i*n,none⟩ n=some c/\G c:=by
  intro i hi;have:=hel i hi;rw [aAT] at this;have he:elems[i]?=some (elems[i]'oQ):=aA _;rw [he] at this;cases hcs:W.cells? 0 ⟨blk,off+i*n,none⟩ n with
  | none=>rw [hcs] at this;simp at this
  | some c=>rw [hcs] at this;exact⟨c,rfl,hG _ _ _ this⟩
 rcases fS len with rfl|hp
 ·exact⟨_,0,cap,[],rfl,hlc,hcm,Rd.empty _ _ _ _ _,by simp,fun i hi=>absurd hi (lK _)⟩
 obtain⟨c0,hc0,_⟩:=key 0 hp;obtain⟨l,T,fz,hb,-,-⟩:=(aAc hc0).2 0 hn;have hall:∀ i,i<len->∃ c,c.length=n/\G c/\∀ j,j<n->l[off+i*n+j]?=c[j]?/\off+i*n+j<l.size:=by intro i hi;obtain⟨c,hcs,hg⟩:=key i hi;obtain⟨h1,h2⟩:=aAc hcs;refine⟨c,h1,hg,fun j hj=>?_⟩;obtain⟨l',T',fz',hb',h3,h4⟩:=h2 j hj;rw [hb] at hb';cases hb';exact⟨h3,h4⟩
 have hsz:off+len*n<=l.size:=by
  obtain⟨c,_,_,h⟩:=hall (len-1) oQ;have:=(h (n-1) oQ).2;have e:(len-1)*n+n=len*n:=by have:len-1+1=len:=oQ;rw [<-gD,Nat.succ_eq_add_one,this]
  omega
 have hyl:((l.toList.drop off).take (len*n)).length=len*n:=by rw [aH,bG,gU];omega
 refine⟨_,len,cap,(l.toList.drop off).take (len*n),rfl,hlc,hcm,⟨_,len,cap,rfl,hyl,hlc,.inr ⟨blk,off,l.toList,T,fz,rfl,by simpa using hb,by simp,rfl⟩⟩,hyl,fun i hi=>?_⟩;obtain⟨c,h1,hg,h2⟩:=hall i hi;have:(((l.toList.drop off).take (len*n)).drop (i*n)).take n=c:=by
  have hin:i*n+n<=len*n:=by rw [<-gD];exact dC n hi
  apply cM;intro j;by_cases hj:j<n
  ·rw [bD,if_pos hj,bH,bD,if_pos oQ,bH,Array.getElem?_toList,<-(h2 j hj).1];congr 1;omega
  rw [bF (by rw [aH];omega),bF oQ]
 rw [this];exact hg
end
theorem aAW{P:Program}{w:World}{r:Reach}{b t:Nat}{k:IntKind}{v:Value}(ht:P.underlying t=some (.int k))(h:Cell.okWide P w r b t v):∃ n,v=.int k n/\k.has n:=by unfold Cell.okWide at h;rw [ht] at h;cases v <;> simp [Cell.ok,ht] at h;obtain⟨rfl,h⟩:=h;exact⟨_,rfl,h⟩
theorem aGc{P:Program}{w:World}{r:Reach}{b t:Nat}{k:IntKind}{v:Value}(ht:P.underlying t=some (.int k))(h:Value.okWide P w r b t v):∃ n,v=.int k n/\k.min<=n/\n<=k.max:=by unfold Value.okWide at h;rw [ht] at h;obtain⟨n,hv,hn⟩:=aAW ht h;exact⟨n,hv,hn.1,hn.2⟩
section
variable {H:Type}{enc:TypeId×Value->H}{P:Program}{w:World}{b:Nat}{sp:Nat->Bool}{hd:Bool}
theorem aNa{k:IntKind}{n:Int}(h:(Lit.int k n).wf=true):k.min<=n/\n<=k.max:=by simpa [Lit.wf] using h
theorem pL{t:TypeId}{k:IntKind}{fuel:Nat}{cs:LV}{x:DataW H×List MemPlace}(ht:P.underlying t=some (.int k))(h:DataW.trod enc P w b sp hd fuel t cs=some x):∃ n,cs=[.int k n]/\k.min<=n/\n<=k.max:=by obtain⟨n,h1,-,h2⟩:=DataW.trod_int ht h;exact⟨n,h1,aNa h2⟩
end
section
variable {H:Type}{enc:TypeId×Value->H}{P:Program}
theorem aGd{t e n:Nat}{W:World}{sp:Nat->Bool}{hl:Bool}{fuel:Nat}{cs:LV}{z:DataW H×List MemPlace}{G:LV->Prop}(hu:P.underlying t=some (.slice e))(hc:P.cellsOf e=n)(hn:0<n)(h:DataW.trod enc P W 0 sp hl fuel t cs=some z) (hG:∀ fuel cells z,DataW.trod enc P W 0 sp hl fuel e cells=some z->G cells):∃ (a:Option Addr) (len cap:Nat) (ys:LV),cs=[.slice a len cap]/\len<=cap/\cap<=maxLen/\Rd [] W n (.slice a len cap) ys/\ys.length=len*n/\∀ i,i<len->G ((ys.drop (i*n)).take n):=by
 rcases DataW.trod_slice hu h with ⟨h0,-⟩|⟨⟨blk,off,spot⟩,len,cap,elems,rest,m,rfl,h0,-,-,hlc,hcm,hle,hel,-,-⟩
 ·exact⟨none,0,0,[],h0,Nat.le_refl _,Nat.zero_le _,Rd.nil _ _ _,by simp,fun i hi=>absurd hi (lK _)⟩
 rw [hc] at hel;rcases fS len with h00|hpos
 ·subst h00;exact⟨_,0,cap,[],h0,hlc,hcm,Rd.empty _ _ _ _ _,by simp,fun i hi=>absurd hi (lK _)⟩
 have hs:spot=none:=by
  have h1:=hel 0 hpos;have he:elems[0]?=some (elems[0]'oQ):=aA _;rw [he,jM] at h1;cases spot with
  | none=>rfl
  | some s=>
   exfalso
   have hadd:(⟨blk,off,some s⟩:Addr).add 0=⟨blk,off,some s⟩:=rfl
   rw [hadd] at h1
   have hnone:W.cells? 0 ⟨blk,off,some s⟩ n=none:=by
    cases hq:W.cells? 0 ⟨blk,off,some s⟩ n with
    | none=>rfl
    | some c=>
     exfalso
     unfold World.cells? at hq
     rw [if_pos (Nat.zero_le _)] at hq
     obtain⟨q1,q2⟩:=aEx _ _ hq
     rw [dR] at q1
     have q3:=q2 0 (by simpa using hn)
     rw [List.getElem_range] at q3
     have hc0:c[0]?=some (c[0]'oQ):=aA _
     rw [hc0,hadd] at q3
     unfold World.cell? at q3
     cases hb:W.heap[blk]? with
     | none=>simp [hb] at q3
     | some ob=>cases ob <;> simp [hb] at q3
   rw [hnone] at h1
   simp at h1
 subst hs;have key:∀ i,i<len->∃ c,W.cells? 0 ⟨blk,off+i*n,none⟩ n=some c/\G c:=by
  intro i hi;have:=hel i hi;rw [aAT] at this;have he:elems[i]?=some (elems[i]'oQ):=aA _;rw [he] at this;cases hcs:W.cells? 0 ⟨blk,off+i*n,none⟩ n with
  | none=>rw [hcs] at this;simp at this
  | some c=>rw [hcs] at this;exact⟨c,rfl,hG _ _ _ this⟩
 rcases fS len with rfl|hp
 ·exact⟨_,0,cap,[],h0,hlc,hcm,Rd.empty _ _ _ _ _,by simp,fun i hi=>absurd hi (lK _)⟩
 obtain⟨c0,hc0,_⟩:=key 0 hp;obtain⟨l,T,fz,hb,-,-⟩:=(aAc hc0).2 0 hn;have hall:∀ i,i<len->∃ c,c.length=n/\G c/\∀ j,j<n->l[off+i*n+j]?=c[j]?/\off+i*n+j<l.size:=by intro i hi;obtain⟨c,hcs,hg⟩:=key i hi;obtain⟨h1,h2⟩:=aAc hcs;refine⟨c,h1,hg,fun j hj=>?_⟩;obtain⟨l',T',fz',hb',h3,h4⟩:=h2 j hj;rw [hb] at hb';cases hb';exact⟨h3,h4⟩
 have hsz:off+len*n<=l.size:=by
  obtain⟨c,_,_,h⟩:=hall (len-1) oQ;have:=(h (n-1) oQ).2;have e:(len-1)*n+n=len*n:=by have:len-1+1=len:=oQ;rw [<-gD,Nat.succ_eq_add_one,this]
  omega
 have hyl:((l.toList.drop off).take (len*n)).length=len*n:=by rw [aH,bG,gU];omega
 refine⟨_,len,cap,(l.toList.drop off).take (len*n),h0,hlc,hcm,⟨_,len,cap,rfl,hyl,hlc,.inr ⟨blk,off,l.toList,T,fz,rfl,by simpa using hb,by simp,rfl⟩⟩,hyl,fun i hi=>?_⟩;obtain⟨c,h1,hg,h2⟩:=hall i hi;have:(((l.toList.drop off).take (len*n)).drop (i*n)).take n=c:=by
  have hin:i*n+n<=len*n:=by rw [<-gD];exact dC n hi
  apply cM;intro j;by_cases hj:j<n
  ·rw [bD,if_pos hj,bH,bD,if_pos oQ,bH,Array.getElem?_toList,<-(h2 j hj).1];congr 1;omega
  rw [bF (by rw [aH];omega),bF oQ]
 rw [this];exact hg
theorem aE3{t e:Nat}{W:World}{sp:Nat->Bool}{hl:Bool}{fuel:Nat}{cs:LV}{z:DataW H×List MemPlace}(hu:P.underlying t=some (.slice e))(hc:P.cellsOf e=1)(he:P.underlying e=some (.int .u8))(h:DataW.trod enc P W 0 sp hl fuel t cs=some z):∃ (v:Value) (bs:LB),cs=[v]/\Rd [] W 1 v (cbs bs):=by
 obtain⟨a,len,cap,ys,rfl,-,-,hrd,hyl,hG⟩:=aGd (G:=fun cs=>∃ n:Int,cs=[.int .u8 n]/\0<=n/\n<256) hu hc dQ h (fun fuel cells z h=>by obtain⟨n,h1,h2,h3⟩:=pL he h;exact⟨n,h1,Int.le_trans dQ h2,Int.lt_of_le_of_lt h3 dQ⟩);obtain⟨bs,rfl⟩:∃ bs:LB,ys=cbs bs:=by
  clear hrd h;refine⟨ys.map fun v=>match v with|.int _ n=>UInt8.ofNat n.toNat|_=>0,?_⟩;unfold cbs;rw [qY];refine (List.map_id ys).symm.trans (eJ fun v hv=>?_);obtain⟨i,hi,rfl⟩:=pU.1 hv;obtain⟨n,h1,h2,h3⟩:=hG i oQ;rw [Nat.mul_one,bK hi] at h1;simp only [qV,cU,qP,and_true] at h1;simp only [id,Function.comp,h1];have:(UInt8.ofNat n.toNat).toNat=n.toNat:=by rw [cX];exact dK oQ
  simp only [this,Value.int.injEq,true_and];omega
 exact⟨_,bs,rfl,hrd⟩
end
end
theorem Sl.isOne{e n:Nat}{v:Value}{xs:LV}{H:Hp}(h:Sl e n v xs H):One v:=by rcases h with ⟨rfl,_,_⟩|⟨b,len,cap,junk,rfl,_⟩ <;> exact⟨rfl⟩
theorem Rd.isOne{K:List Nat}{w:World}{n:Nat}{v:Value}{ys:LV}(h:Rd K w n v ys):One v:=by obtain⟨a,len,cap,rfl,_⟩:=h;exact⟨rfl⟩
theorem Rd.len1{K:List Nat}{w:World}{a:Option Addr}{len cap:Nat}{bs:LB}(h:Rd K w 1 (.slice a len cap) (cbs bs)):bs.length=len/\len<=cap:=by obtain⟨a',len',cap',he,h1,h2,_⟩:=h;cases he;simp at h1;exact⟨h1,h2⟩
theorem Rd.sub{K:List Nat}{w:World}{b o len cap:Nat}{bs:LB}(i j:Nat)(cap':Nat)(h:Rd K w 1 (.slice (some ⟨b,o,none⟩) len cap) (cbs bs))(hij:i<=j)(hj:j<=len)(hc:j-i<=cap'):Rd K w 1 (.slice (some ⟨b,o+i,none⟩) (j-i) cap') (cbs ((bs.drop i).take (j-i))):=by
 obtain⟨hl,-⟩:=h.len1;obtain⟨a',len',cap'',he,h1,h2,h3⟩:=h;cases he;refine⟨_,_,_,rfl,by simp;omega,hc,?_⟩;rcases h3 with h3|⟨b',o',l,T,fz,e',hb,hk,hy⟩
 ·left;omega
 cases e';right;refine⟨b,o+i,l,T,fz,rfl,hb,hk,?_⟩;have:(l.drop (o+i)).take ((j-i)*1)=((((l.drop o).take (len*1)).drop i).take (j-i)):=by rw [jT,fK,cG,cO oQ,Nat.mul_one]
 rw [this,hy];simp [iD,gX]
theorem Rd.pre{K:List Nat}{w:World}{a:Option Addr}{len cap:Nat}{bs:LB}(m:Nat)(h:Rd K w 1 (.slice a len cap) (cbs bs)):Rd K w 1 (.slice a (min m len) cap) (cbs (bs.take m)):=by
 obtain⟨hl,-⟩:=h.len1;obtain⟨a',len',cap',he,h1,h2,h3⟩:=h;cases he;refine⟨_,_,_,rfl,by simp;omega,oQ,?_⟩;rcases h3 with h3|⟨b,o,l,T,fz,rfl,hb,hk,hy⟩
 ·left;omega
 right;refine⟨b,o,l,T,fz,rfl,hb,hk,?_⟩;have e:(l.drop o).take (min m len*1)=((l.drop o).take (len*1)).take m:=by rw [fK,Nat.mul_one,Nat.mul_one]
 rw [e,hy];simp [gX]
theorem Rd.atB{K:List Nat}{w0 w:World}{H Hc r:Hp}{b len cap:Nat}{T:TypeId}{fz:Nat×Nat}(bs:LB)(hs:St K w0 H w) [hp:eY H (Hc++[(b,.cells (cbs bs).toArray T fz)]) r](hl:bs.length=len)(hc:len<=cap):Rd (Hc.map Prod.fst) w 1 (.slice (some ⟨b,0,none⟩) len cap) (cbs bs):=
 Rd.atH hs hp (by subst hl;rw [bQ,Nat.mul_one,aK (by simp)]) (by subst hl;simp) hc
theorem aHB{P:Program}{C:Ctx}{Q:Exit->Fr->Hp->Prop}{A ρk:Fr}{H:Hp}{c:Code}(ts:List Nat)(h:SW P C c Q ρk H)(hk:yA A ts=some ρk:=by exact rfl):SW P C c Q A H:=
 aAS (s:=[]) (yA.sub hk) ⟨by simp⟩ h
section
variable {P:Program}{C:Ctx}{Q:Exit->Fr->Hp->Prop}{A:Fr}{H H':Hp}{L rest:List Oper}{o:Oper}
def zc(z:LV)(m:Nat):LV:=(Builtin.zeroCells z.toArray m).toList
theorem aLy(z:LV)(m:Nat):(zc z m).length=m*z.length:=by simp [zc,Builtin.zeroCells]
theorem aLz(v:Value)(m:Nat):zc [v] m=List.replicate m v:=by
 unfold zc Builtin.zeroCells;apply cM;intro i;by_cases hi:i<m
 ·simp [eI,nP,hi,Nat.mod_one]
 rw [bF (by simp;omega),bF (by simp;omega)]
theorem aDd{m:Nat}(h:m<=9223372036854775807):IntKind.i64.wrap (m:Int)=(m:Int):=w64 oQ
theorem aQp{n m:Nat}{z:LV}(hn:0<n)(hz:z.length=n)(w:World):(if m*n=0 then pure #[] else do pure (Builtin.zeroCells z.toArray m):Sem (Array Value)).run P w=.ok (zc z m).toArray w:=by
 by_cases h:m*n=0
 ·have hm:m=0:=by
   rcases qQ.1 h with h|h
   ·exact h
   omega
  subst hm;simp [zc,Builtin.zeroCells]
 simp [h,zc]
theorem vJ{w:World}{t t2:TypeId}{ty e m sLen sCap:Nat}{base:Option Addr}{zv:Value}{xs z:LV}{i:TypeInfo}(ht:P.underlying t=some (.slice e))(hi:P.info? e=some i)(hz:i.zero=some zv)(hzc:zv.cells=z.toArray)(hzn:z.length=i.size)(hn:0<i.size)(h2:mB P t2 .i64) (hf1:(Builtin.firstCells i.size sLen (.slice base sLen sCap)).run P w.drew=.ok xs.toArray w.drew) (hg:sCap<sLen+m) (hbytes:(sLen+m)*i.bytes<=140737488355328) (h63:sLen+m<=9223372036854775807):(Builtin.append_ #[t,t2] ty #[.slice base sLen sCap,.int .i64 (m:Int)]).run P w=.ok (.slice (some ⟨w.heap.size,0,none⟩) (sLen+m) (grownCap w (sLen+m) sCap e)) (w.drew.alloc (cl (xs++zc z m++(Builtin.zeroCells zv.cells (grownCap w (sLen+m) sCap e-(sLen+m))).toList) e)):=by
 have hn':¬ (sLen+m<=sCap):=oQ;have h63':¬ (9223372036854775807<((sLen:Int)+(m:Int))):=oQ;have h48':¬ (281474976710656<Builtin.nextslicecap (sLen+m) sCap*i.bytes):=by have:=growslice_fits hg hbytes;omega
 have hw:=aDd (show m<=9223372036854775807 by omega);have hneg:¬ ((m:Int)<0):=oQ;have hb0:m*i.bytes<=(sLen+m)*i.bytes:=dC _ oQ;have hb:¬ (281474976710656<(m:Int)*(i.bytes:Int)):=by have:=zP.2 (cZ hb0 hbytes);rw [qO] at this;omega
 have hzi:=aQp (P:=P) (m:=m) hn hzn w.drew;rw [<-hzc] at hzi;simp [Builtin.append_,run_underlying ht,run_underlying h2.ok,sizeOf,typeInfo,zeroValue,hi,hz,hn',h63',h48',Question.forced,hf1,newRow,grownCap,asInt,asIntOf,hw,hneg,hb];by_cases h0:m*i.size=0
 ·have:m=0:=by
   rcases qQ.1 h0 with h|h
   ·exact h
   omega
  subst this;simp [zc,Builtin.zeroCells];congr 2;apply Array.ext';simp
 have hm:¬ (m=0\/i.size=0):=fun h=>h0 (qQ.2 h);simp only [if_neg h0];simp [hm,hzc,zc,h0];congr 2;apply Array.ext';simp
theorem aC3{w:World}{t t2:TypeId}{ty e m sLen sCap b:Nat}{l z:LV}{zv:Value}{i:TypeInfo}{T:TypeId}(ht:P.underlying t=some (.slice e))(hi:P.info? e=some i)(hz:i.zero=some zv)(hzc:zv.cells=z.toArray)(hzn:z.length=i.size)(hn:0<i.size)(h2:mB P t2 .i64) (hoc:OC (zc z m)) (h63:m<=9223372036854775807) (hbytes:m*i.bytes<=281474976710656) (hb:w.heap[b]?=some (cl l T)) (hg:sLen+m<=sCap) (hfit:sLen*i.size+m*i.size<=l.length):(Builtin.append_ #[t,t2] ty #[.slice (some ⟨b,0,none⟩) sLen sCap,.int .i64 (m:Int)]).run P w=.ok (.slice (some ⟨b,0,none⟩) (sLen+m) sCap) (w.setRow b (l.take (sLen*i.size)++zc z m++l.drop (sLen*i.size+m*i.size)).toArray):=by
 have hlen:(zc z m).length=m*i.size:=by rw [aLy,hzn]
 have hst:=run_storeCells_at P b (sLen*i.size) T (zc z m) 0 l.toArray w hb (by rw [hlen];simpa using hfit) hoc.ok;simp only [jL,hlen] at hst;have hw:=aDd h63;have hneg:¬ ((m:Int)<0):=oQ;have hb':¬ (281474976710656<(m:Int)*(i.bytes:Int)):=by have:=zP.2 hbytes;rw [qO] at this;omega
 by_cases h0:m*i.size=0
 ·have:m=0:=by
   rcases qQ.1 h0 with h|h
   ·exact h
   omega
  subst this;have e0:zc z 0=[]:=by simp [zc,Builtin.zeroCells]
  rw [e0] at hst |-;have w0:IntKind.i64.wrap 0=0:=rfl;have hg':sLen<=sCap:=oQ;simp [w0,hg',Builtin.append_,run_underlying ht,run_underlying h2.ok,sizeOf,typeInfo,zeroValue,hi,hz,asInt,asIntOf,hw,hg,lG] at hst |-;first|done|exact fun hc=>absurd hg oQ|simp [hst]
 have hm:¬ (m=0\/i.size=0):=fun h=>h0 (qQ.2 h);have ez:(Builtin.zeroCells z.toArray m).toList=zc z m:=rfl;simp [Builtin.append_,run_underlying ht,run_underlying h2.ok,sizeOf,typeInfo,zeroValue,hi,hz,asInt,asIntOf,hw,hneg,hb',hg,lG,hm,h0,hzc,ez,hst]
theorem aGs{w:World}{K:List Nat}{w0:World}{t t2 e n bytes m:Nat}{ty:TypeId}{v:Value}{xs z:LV}{Hs r:Hp} [ht:cC P t e n] [hb:fQ P e bytes] [hz:cK P e z] [h2:mB P t2 .i64] (hzn:z.length=n) (hv:Sl e n v xs Hs) (hs:St K w0 (Hs++r) w) (hoc:OC (zc z m)) (hn:0<n) (hbytes:(xs.length+m*n)*bytes<=140737488355328*n) (hb1:1<=bytes):∃ v' w' Hs',(Builtin.append_ #[t,t2] ty #[v,.int .i64 (m:Int)]).run P w=.ok v' w'/\Sl e n v' (xs++zc z m) Hs'/\St K w0 (Hs'++r) w':=by
 obtain⟨i,hi,hisz⟩:=tH ht.size;have hby:i.bytes=bytes:=by have:=hb.ok;simpa [hi] using this
 obtain⟨zv,hzv,hzc⟩:=hz.ok;have hzi:i.zero=some zv:=by simpa [hi] using hzv
 have hzl:zv.cells.size=n:=by rw [hzc];simpa using hzn
 have hlen:(zc z m).length=m*n:=by rw [aLy,hzn]
 subst hisz hby;have hmb0:m*i.size*i.bytes<=140737488355328*i.size:=cZ (dC _ (Nat.le_add_left _ _)) hbytes;have hmb:m*i.bytes<=140737488355328:=xK hn hmb0;have hm63:m<=9223372036854775807:=by have:m*1<=m*i.bytes:=iK _ hb1;omega
 rcases hv with ⟨rfl,rfl,rfl⟩|⟨b,len,cap,junk,rfl,hx,hj,hlc,rfl⟩
 ·by_cases hm:m=0
  ·subst hm;refine⟨.slice none 0 0,w,[],?_,.inl ⟨rfl,by simp [zc,Builtin.zeroCells],rfl⟩,hs⟩;have hw:=aDd (show 0<=9223372036854775807 by omega);simp [Builtin.append_,run_underlying ht.ok,run_underlying h2.ok,sizeOf,typeInfo,hi,asInt,asIntOf,hw];simp at hw;simp [hw]
  have hrun:=vJ (P:=P) (w:=w) (ty:=ty) (m:=m) (sLen:=0) (sCap:=0) (base:=none) (xs:=[]) ht.ok hi hzi hzc hzn hn h2 (by simp [Builtin.firstCells]) oQ (by simpa using hmb) oQ;refine⟨_,_,[(w.heap.size,_)],hrun,?_,hs.drew.alloc _⟩;have hge:=grownCap_ge w (0+m) 0 e;exact .inr ⟨w.heap.size,0+m,grownCap w (0+m) 0 e,(Builtin.zeroCells zv.cells (grownCap w (0+m) 0 e-(0+m))).toList,rfl,by simpa using hlen,by rw [gU,size_zeroCells,hzl,<-Nat.add_mul];congr 1;omega,hge,rfl⟩
 have hbe:w.heap[b]?=some (cl (xs++junk) e):=hs.own b _ (by simp);have hle:len*i.size<=cap*i.size:=dC _ hlc;by_cases hg:len+m<=cap
 ·have hfit:len*i.size+m*i.size<=(xs++junk).length:=by have:(len+m)*i.size<=cap*i.size:=dC _ hg;rw [Nat.add_mul] at this;rw [aB,hx];omega
  have hrun:=aC3 (P:=P) (w:=w) (ty:=ty) (sLen:=len) (sCap:=cap) (b:=b) (m:=m) ht.ok hi hzi hzc hzn hn h2 hoc hm63 oQ hbe hg hfit;have hyj:(zc z m).length<=junk.length:=by rw [hlen];rw [aB,hx] at hfit;omega
  rw [<-hlen,<-hx,wG xs (zc z m) junk hyj] at hrun;refine⟨_,_,[(b,cl (xs++zc z m++junk.drop (zc z m).length) e)],hrun,.inr ⟨b,len+m,cap,junk.drop (zc z m).length,rfl,by rw [aB,hx,hlen,Nat.add_mul],?_,hg,rfl⟩,?_⟩
  ·rw [bG,Nat.add_mul,hlen];rw [hlen] at hyj;omega
  exact hs.setRow (l:=xs++junk) (T:=e)
 have hbb:(len+m)*i.bytes<=140737488355328:=by refine xK hn ?_;rw [hx,<-Nat.add_mul] at hbytes;exact hbytes
 have hm63:len+m<=9223372036854775807:=by have:(len+m)*1<=(len+m)*i.bytes:=iK _ hb1;omega
 have hold:(Builtin.firstCells i.size len (.slice (some ⟨b,0,none⟩) len cap)).run P w.drew=.ok xs.toArray w.drew:=by refine ((eQ.block (P:=P) (w:=w.drew) (i:=0) (m:=len) (c:=cap) (size:=i.size) (ys:=xs) hbe ?_ hx) w.drew rfl).2;rw [bQ,<-hx,cT];rfl
 have hrun:=vJ (P:=P) (w:=w) (ty:=ty) (m:=m) (sLen:=len) (sCap:=cap) (base:=some ⟨b,0,none⟩) (xs:=xs) ht.ok hi hzi hzc hzn hn h2 hold oQ hbb hm63;refine⟨_,_,[(w.heap.size,cl (xs++zc z m++(Builtin.zeroCells zv.cells (grownCap w (len+m) cap e-(len+m))).toList) e)],hrun,?_,?_⟩
 ·have hge:=grownCap_ge w (len+m) cap e;exact .inr ⟨w.heap.size,len+m,grownCap w (len+m) cap e,(Builtin.zeroCells zv.cells (grownCap w (len+m) cap e-(len+m))).toList,rfl,by rw [aB,hx,hlen,Nat.add_mul],by rw [gU,size_zeroCells,hzl,<-Nat.add_mul];congr 1;omega,hge,rfl⟩
 have hs2:St K w0 r w:=(hs.perm (H':=r++[(b,cl (xs++junk) e)]) (cA (l₁:=[(b,cl (xs++junk) e)]))).drop;exact hs2.drew.alloc _
instance(v:Value)(m:Nat) [One v]:OC (zc [v] m):=by rw [aLz];infer_instance
end
section
variable {P:Program}{C:Ctx}{Q:Exit->Fr->Hp->Prop}{A:Fr}{H:Hp}{L rest:List Oper}{d:Option Tmp}{ty:TypeId}{pos:String}{af:Array Edge}{g:Option (Nat×Bool)}{t t' t2 e n len:Nat}{d':Option Nat}{x y:Operand}{k kk:IntKind}{m:Nat}{v:Value}
theorem aNh{bytes:Nat}{xs:LV}{zv:Value}{Hs rr:Hp}{mi:Int} [ht:cC P t e n] [fQ P e bytes] [cK P e [zv]] [mB P t2 .i64](hv:Sl e n v xs Hs) [hp:eY H Hs rr](hk:∀ v' Hs',Sl e n v' (xs++List.replicate m zv) Hs'->SL P C L Q rest (pt A d' v') (Hs'++rr))(hx:ev A x=some v:=by exact rfl)(hy:ev A y=some (.int .i64 mi):=by exact rfl)(i0:eB mi m:=by infer_instance)(i1:One zv:=by infer_instance)(hn:n=1:=by exact rfl)(hb1:1<=bytes:=by decide)(hbytes:(xs.length+m)*bytes<=140737488355328:=by omega)(hg:gd L A ⟨d,.call { callee:=.builtin .append,args:=#[x,y],argTypes:=#[t,t2] },ty,pos,af,g⟩=some true:=by exact rfl)(hd:dk C.n d=some d':=by exact rfl):SL P C L Q (⟨d,.call { callee:=.builtin .append,args:=#[x,y],argTypes:=#[t,t2] },ty,pos,af,g⟩::rest) A H:=by subst hn;have hm:=i0.ok;subst hm;exact mY hg hd fun a w hf hs=>by obtain⟨v',w',Hs',hrun,hv',hst⟩:=aGs (P:=P) (t:=t) (t2:=t2) (ty:=ty) (z:=[zv]) (m:=m) (n:=1) rfl hv (hs.perm hp.perm) inferInstance dQ (by simpa using hbytes) hb1;rw [aLz] at hv';exact⟨v',w',Hs'++rr,.inl (by unfold execOp;simp [resolve,invoke,builtin,hf.eval hx,hf.eval hy,hrun]),hst,hk v' Hs' hv'⟩
end
section
variable {P:Program}
theorem aGr{w:World}{K:List Nat}{w0:World}{t t2 e n bytes m:Nat}{ty:TypeId}{v sv:Value}{xs ys z:LV}{Hs r:Hp} [ht:cC P t e n] [hb:fQ P e bytes] [hz:cK P e z] [h2:pA P t2] (hzn:z.length=n) (hv:Sl e n v xs Hs) (hs:St K w0 (Hs++r) w) (hsrc:eQ P w sv n m ys) (hys:ys.length=m*n) (hoc:OC ys) (hn:0<n) (hbytes:(xs.length+ys.length)*bytes<=140737488355328*n) (hb1:1<=bytes):∃ v' w' Hv Hf Hr Ho,(Builtin.append_ #[t,t2] ty #[v,sv]).run P w=.ok v' w'/\Sl e n v' (xs++ys) Hv/\St K w0 ((Hv++Hf)++r) w'/\Sl e n v xs Hr/\(Hv++Hf).Perm (Hr++Ho):=by
 obtain⟨i,hi,hisz⟩:=tH ht.size;have hby:i.bytes=bytes:=by have:=hb.ok;simpa [hi] using this
 obtain⟨zv,hzv,hzc⟩:=hz.ok;have hzi:i.zero=some zv:=by simpa [hi] using hzv
 have hzl:zv.cells.size=n:=by rw [hzc];simpa using hzn
 have hl1:=(hsrc w rfl).1;subst hisz hby;rcases hv with ⟨rfl,rfl,rfl⟩|⟨b,len,cap,junk,rfl,hx,hj,hlc,rfl⟩
 ·obtain⟨v',w',Hs',h1,h2,h3⟩:=aC2 (P:=P) (t:=t) (t2:=t2) (ty:=ty) hzn (Sl.nil e i.size) hs hsrc hys hoc hn hbytes hb1;refine⟨v',w',Hs',[],[],Hs',h1,h2,by simpa using h3,Sl.nil _ _,by simp⟩
 have hbe:w.heap[b]?=some (cl (xs++junk) e):=hs.own b _ (by simp);have hle:len*i.size<=cap*i.size:=dC _ hlc;by_cases hg:len+m<=cap
 ·have hfit:len*i.size+ys.length<=(xs++junk).length:=by have:(len+m)*i.size<=cap*i.size:=dC _ hg;rw [Nat.add_mul] at this;rw [aB,hx,hys];omega
  have hrun:=yL (P:=P) (w:=w) (ty:=ty) (sLen:=len) (sCap:=cap) (b:=b) ht.ok hi h2 hl1 (hsrc w rfl).2 hys hoc hbe hg hfit;have hyj:ys.length<=junk.length:=by rw [aB,hx] at hfit;omega
  rw [<-hx,wG xs ys junk hyj] at hrun;refine⟨_,_,[(b,cl (xs++ys++junk.drop ys.length) e)],[],[(b,cl (xs++(ys++junk.drop ys.length)) e)],[],hrun,.inr ⟨b,len+m,cap,junk.drop ys.length,rfl,by rw [aB,hx,hys,Nat.add_mul],?_,hg,rfl⟩,?_,.inr ⟨b,len,cap,ys++junk.drop ys.length,rfl,hx,?_,hlc,rfl⟩,?_⟩
  ·rw [bG,Nat.add_mul,hys];rw [hys] at hyj;omega
  ·exact hs.setRow (l:=xs++junk) (T:=e)
  ·rw [aB,bG];omega
  rw [aT]
 have hbb:(len+m)*i.bytes<=140737488355328:=by refine xK hn ?_;rw [hx,hys,<-Nat.add_mul] at hbytes;exact hbytes
 have hm63:len+m<=9223372036854775807:=by have:(len+m)*1<=(len+m)*i.bytes:=iK _ hb1;omega
 have hold:(Builtin.firstCells i.size len (.slice (some ⟨b,0,none⟩) len cap)).run P w.drew=.ok xs.toArray w.drew:=by refine ((eQ.block (P:=P) (w:=w.drew) (i:=0) (m:=len) (c:=cap) (size:=i.size) (ys:=xs) hbe ?_ hx) w.drew rfl).2;rw [bQ,<-hx,cT];rfl
 have hrun:=oG (P:=P) (w:=w) (ty:=ty) (sLen:=len) (sCap:=cap) (base:=some ⟨b,0,none⟩) (xs:=xs) ht.ok hi hzi h2 hl1 hold (hsrc w.drew rfl).2 oQ hbb hm63;refine⟨_,_,[(w.heap.size,cl (xs++ys++(Builtin.zeroCells zv.cells (grownCap w (len+m) cap e-(len+m))).toList) e)],[(b,cl (xs++junk) e)],[(b,cl (xs++junk) e)],[(w.heap.size,cl (xs++ys++(Builtin.zeroCells zv.cells (grownCap w (len+m) cap e-(len+m))).toList) e)],hrun,?_,?_,.inr ⟨b,len,cap,junk,rfl,hx,hj,hlc,rfl⟩,cA⟩
 ·have hge:=grownCap_ge w (len+m) cap e;exact .inr ⟨w.heap.size,len+m,grownCap w (len+m) cap e,(Builtin.zeroCells zv.cells (grownCap w (len+m) cap e-(len+m))).toList,rfl,by rw [aB,hx,hys,Nat.add_mul],by rw [gU,size_zeroCells,hzl,<-Nat.add_mul];congr 1;omega,hge,rfl⟩
 exact hs.drew.alloc _
end
section
variable {P:Program}{C:Ctx}{Q:Exit->Fr->Hp->Prop}{A:Fr}{H:Hp}{L rest:List Oper}{d:Option Tmp}{ty:TypeId}{pos:String}{af:Array Edge}{g:Option (Nat×Bool)}{t t' t2 e n len:Nat}{d':Option Nat}{x y:Operand}{k kk:IntKind}{m:Int}{v sv:Value}
theorem aPD{bytes mm:Nat}{xs ys zv:LV}{Hs rr:Hp} [ht:cC P t e n] [fQ P e bytes] [cK P e zv] [pA P t2](hv:Sl e n v xs Hs) [hp:eY H Hs rr](hsrc:∀ w,St C.K C.w0 H w->eQ P w sv n mm ys)(hk:∀ v' Hv Hf Hr Ho,Sl e n v' (xs++ys) Hv->Sl e n v xs Hr->(Hv++Hf).Perm (Hr++Ho)->SL P C L Q rest (pt A d' v') ((Hv++Hf)++rr))(hx:ev A x=some v:=by exact rfl)(hy:ev A y=some sv:=by exact rfl)(hys:ys.length=mm*n:=by first|assumption|(simp;done)|omega)(hoc:OC ys:=by infer_instance)(hzn:zv.length=n:=by exact rfl)(hn:0<n:=by decide)(hb1:1<=bytes:=by decide)(hbytes:(xs.length+ys.length)*bytes<=140737488355328*n:=by omega)(hg:gd L A ⟨d,.call { callee:=.builtin .append,args:=#[x,y],argTypes:=#[t,t2] },ty,pos,af,g⟩=some true:=by exact rfl)(hd:dk C.n d=some d':=by exact rfl) :
  SL P C L Q (⟨d,.call { callee:=.builtin .append,args:=#[x,y],argTypes:=#[t,t2] },ty,pos,af,g⟩::rest) A H:=
 mY hg hd fun a w hf hs=>by
  obtain⟨v',w',Hv,Hf,Hr,Ho,hrun,hv',hst,hr,hperm⟩:=aGr (P:=P) (t:=t) (t2:=t2) (ty:=ty) hzn hv (hs.perm hp.perm) (hsrc w hs) hys hoc hn hbytes hb1
  exact⟨v',w',(Hv++Hf)++rr,.inl (by unfold execOp;simp [resolve,invoke,builtin,hf.eval hx,hf.eval hy,hrun]),hst,hk v' Hv Hf Hr Ho hv' hr hperm⟩
theorem aPJ{p:Option Addr}{cap l:Nat} [cC P t e n](hk:SL P C L Q rest (pt A d' (.slice (lI p cap l n) (len-l) (cap-l))) H)(hlc:len<=cap)(hx:ev A x=some (.slice p len cap):=by exact rfl)(hy:ev A y=some (.int k m):=by exact rfl)(hi:eB m l:=by infer_instance)(hh:l<=len:=by omega)(hg:gd L A ⟨d,.slice t x (some y) none none,ty,pos,af,g⟩=some true:=by exact rfl)(hd:dk C.n d=some d':=by exact rfl):SL P C L Q (⟨d,.slice t x (some y) none none,ty,pos,af,g⟩::rest) A H:=
 bN (oF (vl:=none) (vh:=none) rfl hx (l:=l) (h:=len) (.inr ⟨y,k,m,rfl,hy,hi.ok⟩) (.inl ⟨rfl,rfl⟩) hh hlc) hg hd hk
end
section
variable {P:Program}{C:Ctx}{A:Fr}{H:Hp}{o:Oper}
theorem aMD{t e n len l b j c:Nat}{x y:Operand}{k:IntKind}{m:Int}(ho:o.op=.slice t x (some y) none none)(hx:ev A x=some (.pointer (some ⟨b,j,none⟩)))(hy:ev A y=some (.int k m))(hl:l<len) [hi:eB m l] [ha:AdN j l n c] [ht:kP P t len e n]:Pu P C A H o (.slice (some ⟨b,c,none⟩) (len-l) (len-l)):=by have h:=sI (P:=P) (C:=C) (A:=A) (H:=H) (l:=l) (h:=len) ho hx (.inr ⟨y,k,m,rfl,hy,hi.ok⟩) (.inl ⟨rfl,rfl⟩) oQ (Nat.le_refl _);rw [if_neg oQ,ha.ok] at h;exact h
end
theorem Sl.srcFrom{P:Program}{K:List Nat}{w0 w:World}{H Hs r:Hp}{e:Nat}{a:Option Addr}{len cap l:Nat}{ys:LV}(hv:Sl e 1 (.slice a len cap) ys Hs)(hl:l<=len)(hs:St K w0 H w)(hp:eY H Hs r):eQ P w (.slice (lI a cap l 1) (len-l) (cap-l)) 1 (len-l) (ys.drop l):=by
 have hs2:=(hs.perm hp.perm);rcases hv with ⟨he,rfl,rfl⟩|⟨b,len',cap',junk,he,hx,hj,hlc,rfl⟩
 ·cases he;have:l=0:=oQ;subst this;exact eQ.empty _ _ _ _
 cases he;unfold lI;by_cases hc:cap=l
 ·have h0:len-l=0:=oQ;rw [h0,cQ oQ];exact eQ.empty _ _ _ _
 rw [if_neg hc];have e1:Option.map (fun x:Addr=>x.add (l*1)) (some ⟨b,0,none⟩)=some ⟨b,l,none⟩:=by simp only [Option.map_some,lG,Nat.mul_one,fT]
 rw [e1];refine eQ.block (hs2.own b (cl (ys++junk) e) (by simp)) ?_ (by rw [bG];omega);rw [cJ oQ,cT];rw [bG];omega
theorem Sl.lens{e:Nat}{a:Option Addr}{len cap:Nat}{ys:LV}{Hs:Hp}(hv:Sl e 1 (.slice a len cap) ys Hs):ys.length=len/\len<=cap/\(len=0\/∃ b,a=some ⟨b,0,none⟩):=by
 rcases hv with ⟨he,rfl,rfl⟩|⟨b,len',cap',junk,he,hx,hj,hlc,rfl⟩
 ·cases he;exact⟨rfl,Nat.le_refl _,.inl rfl⟩
 cases he;exact⟨oQ,hlc,.inr ⟨b,rfl⟩⟩
def RdS(K:List Nat)(w:World)(v:Value)(bss:LL):Prop:=
 ∃ vs,Rd K w 1 v vs/\vs.length=bss.length/\∀ (i:Nat) (bs:LB),bss[i]?=some bs->∃ (a:Option Addr) (len cap:Nat),vs[i]?=some (Value.slice a len cap)/\Rd K w 1 (.slice a len cap) (cbs bs)
theorem RdS.at{K:List Nat}{w0 w:World}{H Hc r:Hp}{b len cap:Nat}{vs:LV}{T:TypeId}{fz:Nat×Nat}{bss:LL}(hs:St K w0 H w) [hp:eY H (Hc++[(b,.cells vs.toArray T fz)]) r](hl:vs.length=len)(hc:len<=cap)(hn:vs.length=bss.length)
  (hr:∀ (i:Nat) (bs:LB),bss[i]?=some bs->∃ (a:Option Addr) (len cap:Nat),vs[i]?=some (Value.slice a len cap)/\Rd (Hc.map Prod.fst) w 1 (.slice a len cap) (cbs bs)):RdS (Hc.map Prod.fst) w (.slice (some ⟨b,0,none⟩) len cap) bss:=
 ⟨vs,Rd.atH hs hp (by subst hl;rw [bQ,Nat.mul_one,bO]) (by subst hl;simp) hc,hn,hr⟩
theorem RdS.ro{K:List Nat}{w0 w:World}{H Hc r:Hp}{v:Value}{bss:LL}(h:RdS K w0 v bss)(hs:St K w0 H w) [hp:eY H Hc r]:RdS (Hc.map Prod.fst) w v bss:=by obtain⟨vs,h1,h2,h3⟩:=h;exact⟨vs,h1.ro hs,h2,fun i bs hi=>by obtain⟨a,len,cap,h4,h5⟩:=h3 i bs hi;exact⟨a,len,cap,h4,h5.ro hs⟩⟩
theorem RdS.one{K:List Nat}{w:World}{v:Value}{bss:LL}(h:RdS K w v bss):One v:=by obtain⟨vs,h1,-⟩:=h;exact h1.isOne
theorem iW(a b:LB):cbs (a++b)=cbs a++cbs b:=aZ ..
theorem aI(a:LB):(cbs a).length=a.length:=aC ..
theorem aCm(a:LB)(n:Nat):(cbs a).drop n=cbs (a.drop n):=iD.symm
class EqB(P:Program)(t:TypeId)(len:outParam Nat):Prop where
 guard:P.eqGuardType P.depth t=false
 row:fB P t len
 ok:∃ e,P.underlying t=some (.array len e)/\P.underlying e=some (.int .u8)/\(P.info? e).map (·.size)=some 1/\cB P e
theorem EqB.eq{P:Program}{t:TypeId}{len:Nat} [h:EqB P t len](w:World)(a b:LB)(ha:a.length=len)(hb:b.length=len):(Op.equal t (.agg (cbs a).toArray) (.agg (cbs b).toArray)).run P w=.ok (decide (a=b)) w:=by
 obtain⟨e,hu,he,hs,hsc⟩:=h.ok;have hr:=h.row;have hq:∀ c:LB,c.length=len->((cbs c).length=len/\∀ i,(i+1)*1<=(cbs c).length->∃ n,((cbs c).drop (i*1)).take 1=[.int .u8 n]):=fun c hc=>⟨by rw [aI,hc],fun i hi=>by rw [aI] at hi;refine⟨((c[i]'oQ).toNat:Int),?_⟩;rw [Nat.mul_one,aCm,bK oQ];rfl⟩;obtain⟨r,hr1,hr2⟩:=(xV.array (P:=P) (t:=t) (hr:=hr) hu hs oQ (xV.int (t:=e) he)).eq (9998) w (cbs a) (cbs b) (hq a ha) (hq b hb);have:r=decide (a=b):=by
  rw [Bool.eq_iff_iff,hr2,decide_eq_true_iff];constructor
  ·intro h;refine List.map_inj_right (f:=fun b:UInt8=>Value.int .u8 (b.toNat:Int)) ?_ |>.1 h;intro x y hxy;injection hxy with _ hxy;exact kG.1 oQ
  intro h;rw [h]
 subst this;exact hr1
section
variable {P:Program}{C:Ctx}{Q:Exit->Fr->Hp->Prop}{A:Fr}{H:Hp}{L rest:List Oper}{d:Option Tmp}{ty:TypeId}{pos:String}{af:Array Edge}{g:Option (Nat×Bool)}{t t' len:Nat}{d':Option Nat}{x y:Operand}{a b:LB}{o:Oper}
theorem aNr(ho:o.op=.binOp .eql t x y t')(hx:ev A x=some (.agg (cbs a).toArray))(hy:ev A y=some (.agg (cbs b).toArray)) [h:EqB P t len](h1:a.length=len)(h2:b.length=len):Pu P C A H o (.bool (decide (a=b))):=fun ac w hf _=>by
 unfold execOp;rw [ho];simp [hf.eval hx,hf.eval hy,run_eqGuard_agg _ _ _ _ _ _ _ h.guard,binOp,EqB.eq w a b h1 h2]
theorem aH2(ho:o.op=.binOp .eql t x y t')(hx:ev A x=some (.agg (cbs a).toArray))(hy:ev A y=some (.agg (cbs b).toArray)) [h:EqB P t len](h1:a.length=len)(he:a=b):Pu P C A H o (.bool true):=by subst he;have:=aNr (P:=P) (C:=C) (H:=H) ho hx hy h1 h1;simpa using this
theorem aAr(ho:o.op=.binOp .neq t x y t')(hx:ev A x=some (.agg (cbs a).toArray))(hy:ev A y=some (.agg (cbs b).toArray)) [h:EqB P t len](h1:a.length=len)(he:a=b):Pu P C A H o (.bool false):=fun ac w hf _=>by
 subst he
 unfold execOp;rw [ho];simp [hf.eval hx,hf.eval hy,run_eqGuard_agg _ _ _ _ _ _ _ h.guard,binOp,EqB.eq w a a h1 h1]
end
section
variable {P:Program}
theorem yM{k len:Nat} [h:EqB P k len](em:Bool)(b:LB)(hb:b.length=len)(w:World):(Instr.checkKey em 10000 k (.agg (cbs b).toArray)).run P w=.ok () w:=by
 obtain⟨e,hu,he,hs,hsc⟩:=h.ok;rw [show 10000=9999+1 from rfl,Instr.checkKey];simp only [Sem.run_bind,run_underlying hu,Result.andThen_ok];simp only [Std.Legacy.Range.forIn_eq_forIn_range',Std.Legacy.Range.size,iU,Nat.add_one_sub_one,Nat.div_one];have each:∀ i∈List.range' 0 len,i<len:=fun i hi=>by have:=List.mem_range'.1 hi;omega
 generalize List.range' 0 len=is at each;induction is with
 | nil=>simp
 | cons j is ih=>
  have hj:=each j (by simp)
  have hp:=aEM (P:=P) (t:=e) (cbs b) j w (by rw [aI];omega)
  have hx:((cbs b).drop j).take 1=[.int .u8 ((b[j]'oQ).toNat:Int)]:=by
   rw [aCm,bK oQ];rfl
  rw [hx] at hp
  have hv:vof false [Value.int .u8 ((b[j]'oQ).toNat:Int)]=.int .u8 ((b[j]'oQ).toNat:Int):=rfl
  rw [hv] at hp
  have hc:(Instr.checkKey em 9999 e (.int .u8 ((b[j]'oQ).toNat:Int))).run P w=.ok () w:=by
   rw [show 9999=9998+1 from rfl,Instr.checkKey]
   simp [run_underlying he]
  simp only [List.forIn_cons,Sem.run_bind,eL hs,Result.andThen_ok,Nat.mul_one,hp,hc,Sem.run_pure]
  exact ih (fun i hi=>each i (by simp [hi]))
def vZ:Nat->List (LB×Value)->List MapEntry
 | _,[]=>[]
 | i,(k,v)::r=>⟨.agg (cbs k).toArray,v,i⟩::vZ (i+1) r
theorem aFL:∀ (i:Nat) (l:List (LB×Value)),(vZ i l).length=l.length
 | _,[]=>rfl
 | i,(k,v)::r=>by simp [vZ,aFL (i+1) r]
theorem aFK:∀ (i:Nat) (l:List (LB×Value)) (k:LB) (v:Value),vZ i (l++[(k,v)])=vZ i l++[⟨.agg (cbs k).toArray,v,i+l.length⟩]
 | i,[],k,v=>rfl
 | i,(k',v')::r,k,v=>by rw [dX,vZ,aFK (i+1) r k v,vZ,dX,aW];congr 3;simp;omega
def atK(l:List (LB×Value))(k:LB):Option Value:=(l.find? fun x=>decide (k=x.1)).map Prod.snd
theorem wU{k len:Nat} [h:EqB P k len](b:LB)(hb:b.length=len)(w:World):∀ (l:List (LB×Value)) (i j:Nat),(∀ x∈l,x.1.length=len) ->
  ∃ r,(Instr.findAsking k (.agg (cbs b).toArray) (vZ i l) j).run P w=.ok r w/\r.map Prod.snd=atK l b
 | [],i,j,_=>⟨none,by simp [vZ,Instr.findAsking],rfl⟩
 | (k',v')::r,i,j,hl=>by
  have heq:=EqB.eq (P:=P) (t:=k) w b k' hb (hl (k',v') (by simp));by_cases hk:b=k'
  ·subst hk;have heq':(Op.equal k (.agg (cbs b).toArray) (.agg (cbs b).toArray)).run P w=.ok true w:=by rw [heq];simp
   refine⟨some (j,v'),?_,?_⟩
   ·simp only [vZ,Instr.findAsking,Sem.run_bind,heq',Result.andThen_ok,if_true,Sem.run_pure]
   simp [atK,List.find?]
  obtain⟨r',h1,h2⟩:=wU (k:=k) b hb w r (i+1) (j+1) (fun x hx=>hl x (by simp [hx]));refine⟨r',?_,?_⟩
  ·have heq':(Op.equal k (.agg (cbs b).toArray) (.agg (cbs k').toArray)).run P w=.ok false w:=by rw [heq,decide_eq_false hk]
   simp only [vZ,Instr.findAsking,Sem.run_bind,heq',Result.andThen_ok];exact h1
  rw [h2];simp [atK,List.find?,hk]
theorem aAD{k len:Nat} [h:EqB P k len](b:LB)(hb:b.length=len)(w:World)(l:List (LB×Value))(hl:∀ x∈l,x.1.length=len):∃ r,(Instr.findKey k (.agg (cbs b).toArray) (vZ 0 l)).run P w=.ok r w/\r.map Prod.snd=atK l b:=by
 obtain⟨e,hu,-⟩:=h.ok;cases l with
 | nil=>exact⟨none,by simp [Instr.findKey,run_underlying hu,vZ,Instr.findNow],rfl⟩
 | cons x r=>
  obtain⟨k',v'⟩:=x
  obtain⟨r',h1,h2⟩:=wU (P:=P) (k:=k) b hb w ((k',v')::r) 0 0 hl
  refine⟨r',?_,h2⟩
  have hn:Instr.findNow (.array len e) (.agg (cbs b).toArray) (vZ 0 ((k',v')::r)) 0=none:=by
   simp [vZ,Instr.findNow,Instr.sameNow]
  simp only [Instr.findKey,Sem.run_bind,run_underlying hu,Result.andThen_ok,hn]
  exact h1
class aGD(P:Program)(t:TypeId)(len:outParam Nat)(z:outParam Value):Prop where
 ok:∃ k e,P.underlying t=some (.map k e)/\EqB P k len/\((P.info? e).map fun i=>i.zero)=some (some z)
abbrev mo(l:List (LB×Value)):Obj:=.map (vZ 0 l).toArray l.length
theorem aGt{t len r:Nat}{z:Value} [h:aGD P t len z]{w:World}{l:List (LB×Value)}(b:LB)(hb:b.length=len)(hl:∀ x∈l,x.1.length=len)(hr:w.heap[r]?=some (mo l)):(Instr.lookup t (.map (some r)) (.agg (cbs b).toArray) true).run P w=.ok (.tuple #[(atK l b).getD z,.bool (atK l b).isSome]) w:=by
 obtain⟨k,e,hu,hE,hz⟩:=h.ok;obtain⟨q,h1,h2⟩:=aAD (P:=P) (k:=k) b hb w l hl;have hc:=fun em=>yM (P:=P) (k:=k) em b hb w;have hg:=MapKept.run_getObj_map (P:=P) hr;rw [<-h2];cases q with
 | none=>simp [Instr.lookup,run_underlying hu,hg,hc,h1,lS hz]
 | some x=>obtain⟨i,v⟩:=x;simp [Instr.lookup,run_underlying hu,hg,hc,h1]
theorem aJq{t len r:Nat}{z:Value} [h:aGD P t len z]{w:World}{l:List (LB×Value)}(b:LB)(v:Value)(hb:b.length=len)(hl:∀ x∈l,x.1.length=len)(hr:w.heap[r]?=some (mo l))(hn:atK l b=none):(Instr.mapUpdate t (.map (some r)) (.agg (cbs b).toArray) v).run P w=.ok () { w with heap:=w.heap.setIfInBounds r (mo (l++[(b,v)])) }:=by
 obtain⟨k,e,hu,hE,hz⟩:=h.ok;obtain⟨q,h1,h2⟩:=aAD (P:=P) (k:=k) b hb w l hl;have hc:=fun em=>yM (P:=P) (k:=k) em b hb w;have hg:=MapKept.run_getObj_map (P:=P) hr;rw [hn] at h2;have hq:q=none:=by cases q <;> simp at h2 |-
 subst hq;have hs:=fun o=>MapKept.run_setObj_map (P:=P) o hr;have he:mo (l++[(b,v)])=.map ((vZ 0 l).toArray.push ⟨.agg (cbs b).toArray,v,l.length⟩) (l.length+1):=by unfold mo;rw [aFK];simp
 rw [he];simp [Instr.mapUpdate,run_underlying hu,hg,hc,h1,hs]
end
section
variable {P:Program}{C:Ctx}{Q:Exit->Fr->Hp->Prop}{A:Fr}{H H':Hp}{L rest:List Oper}{d:Option Tmp}{ty:TypeId}{pos:String}{af:Array Edge}{g:Option (Nat×Bool)}{t t' len r:Nat}{d':Option Nat}{x y u:Operand}{b:LB}{o:Oper}{z v:Value}{l:List (LB×Value)}
theorem aNk(hk:∀ r,SL P C L Q rest (pt A d' (.map (some r))) ((r,mo [])::H))(hg:gd L A ⟨d,.makeMap t none,ty,pos,af,g⟩=some true:=by exact rfl)(hd:dk C.n d=some d':=by exact rfl):SL P C L Q (⟨d,.makeMap t none,ty,pos,af,g⟩::rest) A H:=
 mY hg hd fun a w hf hs=>⟨_,_,_,.inl (by unfold execOp;simp [Instr.makeMap,newObj];rfl),hs.alloc _,hk w.heap.size⟩
theorem aOC [h:aGD P t len z](ho:o.op=.call { callee:=.builtin .len,args:=#[x],argTypes:=#[t] })(hx:ev A x=some (.map (some r)))(hat:At H r (mo l)):Pu P C A H o (.int .i64 (l.length:Int)):=fun a w hf hs=>by
 obtain⟨k,e,hu,-⟩:=h.ok
 unfold execOp;rw [ho];simp [resolve,invoke,builtin,hf.eval hx,Builtin.len_,run_underlying hu,MapKept.run_getObj_map (hs.at (b:=r)),goInt,aFL]
theorem aNj [h:aGD P t len z](hk:SL P C L Q rest (pt A d' (.int .i64 (l.length:Int))) H)(hx:ev A x=some (.map (some r)):=by exact rfl)(hat:At H r (mo l):=by infer_instance)(hg:gd L A ⟨d,.call { callee:=.builtin .len,args:=#[x],argTypes:=#[t] },ty,pos,af,g⟩=some true:=by exact rfl)(hd:dk C.n d=some d':=by exact rfl):SL P C L Q (⟨d,.call { callee:=.builtin .len,args:=#[x],argTypes:=#[t] },ty,pos,af,g⟩::rest) A H:=
 bN (aOC rfl hx hat) hg hd hk
theorem aPG [h:aGD P t len z](hk:SL P C L Q rest (pt A d' undef) H')(hb:b.length=len)(hl:∀ x∈l,x.1.length=len)(hn:atK l b=none)(hx:ev A x=some (.map (some r)):=by exact rfl)(hy:ev A y=some (.agg (cbs b).toArray):=by exact rfl)(hu:ev A u=some v:=by exact rfl)(hat:At H r (mo l):=by infer_instance)(hup:Upd H r (mo (l++[(b,v)])) H':=by infer_instance)(hg:gd L A ⟨d,.mapUpdate t x y u,ty,pos,af,g⟩=some true:=by exact rfl)(hd:dk C.n d=some d':=by exact rfl):SL P C L Q (⟨d,.mapUpdate t x y u,ty,pos,af,g⟩::rest) A H:=
 mY hg hd fun a w hf hs=>by
  have hat2:=hs.at (b:=r)
  have hlt:r<w.heap.size:=(gH.1 hat2).1
  refine⟨undef,{ w with heap:=w.heap.setIfInBounds r (mo (l++[(b,v)])) },H',.inr ⟨?_,rfl⟩,?_,hk⟩
  ·unfold execOp;simp [hf.eval hx,hf.eval hy,hf.eval hu,aJq b v hb hl hat2 hn]
  ·refine hs.set (b:=r) (o':=mo (l++[(b,v)])) (by simp) ?_ ?_ rfl rfl rfl
   ·simp [hlt]
   ·intro k hk;simp [gY,Ne.symm hk]
end
class aLF(P:Program)(k:TypeId)(G:Type)(enc:G->LV):Prop where
 eqs:∃ q,EqS P k q/\∀ a,q (enc a)
 inj:∀ a b,enc a=enc b->a=b
 chk:∀ em a w,(Instr.checkKey em 10000 k (.agg (enc a).toArray)).run P w=.ok () w
section
variable {P:Program}{G:Type} [DecidableEq G]{enc:G->LV}
def yV(enc:G->LV):Nat->List (G×Value)->List MapEntry
 | _,[]=>[]
 | i,(k,v)::r=>⟨.agg (enc k).toArray,v,i⟩::yV enc (i+1) r
theorem aFM:∀ (i:Nat) (l:List (G×Value)) (k:G) (v:Value),yV enc i (l++[(k,v)])=yV enc i l++[⟨.agg (enc k).toArray,v,i+l.length⟩]
 | i,[],k,v=>rfl
 | i,(k',v')::r,k,v=>by rw [dX,yV,aFM (i+1) r k v,yV,dX,aW];congr 3;simp;omega
def atS(l:List (G×Value))(k:G):Option Value:=(l.find? fun x=>decide (k=x.1)).map Prod.snd
theorem vK{k:TypeId} [h:aLF P k G enc](b:G)(w:World):∀ (l:List (G×Value)) (i j:Nat),
  ∃ r,(Instr.findAsking k (.agg (enc b).toArray) (yV enc i l) j).run P w=.ok r w/\r.map Prod.snd=atS l b
 | [],i,j=>⟨none,by simp [yV,Instr.findAsking],rfl⟩
 | (k',v')::r,i,j=>by
  obtain⟨q,hE,hq⟩:=h.eqs;obtain⟨t,heq,hi⟩:=hE.eq (P:=P) (t:=k) w (enc b) (enc k') (hq b) (hq k');by_cases hk:b=k'
  ·subst hk;have ht:t=true:=hi.2 rfl;subst ht;refine⟨some (j,v'),?_,?_⟩
   ·simp only [yV,Instr.findAsking,Sem.run_bind,heq,Result.andThen_ok,if_true,Sem.run_pure]
   simp [atS,List.find?]
  have ht:t=false:=by
   cases t with
   | false=>rfl
   | true=>exact absurd (h.inj _ _ (hi.1 rfl)) hk
  subst ht;obtain⟨r',h1,h2⟩:=vK (k:=k) b w r (i+1) (j+1);refine⟨r',?_,?_⟩
  ·simp only [yV,Instr.findAsking,Sem.run_bind,heq,Result.andThen_ok];exact h1
  rw [h2];simp [atS,List.find?,hk]
theorem aAE{k:TypeId} [h:aLF P k G enc](b:G)(w:World)(l:List (G×Value)):∃ r,(Instr.findKey k (.agg (enc b).toArray) (yV enc 0 l)).run P w=.ok r w/\r.map Prod.snd=atS l b:=by
 obtain⟨q,hE,hq⟩:=h.eqs;have hu:=hE.under;cases l with
 | nil=>exact⟨none,by simp [Instr.findKey,run_underlying hu,yV,Instr.findNow],rfl⟩
 | cons x r=>
  obtain⟨k',v'⟩:=x
  obtain⟨r',h1,h2⟩:=vK (P:=P) (k:=k) (enc:=enc) b w ((k',v')::r) 0 0
  refine⟨r',?_,h2⟩
  have hn:Instr.findNow (.struct (P.fieldsOf k)) (.agg (enc b).toArray) (yV enc 0 ((k',v')::r)) 0=none:=by
   simp [yV,Instr.findNow,Instr.sameNow]
  simp only [Instr.findKey,Sem.run_bind,run_underlying hu,Result.andThen_ok,hn]
  exact h1
class aJH(P:Program)(t:TypeId)(G:Type)(enc:G->LV)(z:outParam Value):Prop where
 ok:∃ k e,P.underlying t=some (.map k e)/\aLF P k G enc/\((P.info? e).map fun i=>i.zero)=some (some z)
abbrev moS(enc:G->LV)(l:List (G×Value)):Obj:=.map (yV enc 0 l).toArray l.length
theorem aGu{t r:Nat}{z:Value} [h:aJH P t G enc z]{w:World}{l:List (G×Value)}(b:G)(hr:w.heap[r]?=some (moS enc l)):(Instr.lookup t (.map (some r)) (.agg (enc b).toArray) true).run P w=.ok (.tuple #[(atS l b).getD z,.bool (atS l b).isSome]) w:=by
 obtain⟨k,e,hu,hE,hz⟩:=h.ok;obtain⟨q,h1,h2⟩:=aAE (P:=P) (k:=k) (enc:=enc) b w l;have hc:=fun em=>hE.chk em b w;have hg:=MapKept.run_getObj_map (P:=P) hr;rw [<-h2];cases q with
 | none=>simp [Instr.lookup,run_underlying hu,hg,hc,h1,lS hz]
 | some x=>obtain⟨i,v⟩:=x;simp [Instr.lookup,run_underlying hu,hg,hc,h1]
theorem aJr{t r:Nat}{z:Value} [h:aJH P t G enc z]{w:World}{l:List (G×Value)}(b:G)(v:Value)(hr:w.heap[r]?=some (moS enc l))(hn:atS l b=none):(Instr.mapUpdate t (.map (some r)) (.agg (enc b).toArray) v).run P w=.ok () { w with heap:=w.heap.setIfInBounds r (moS enc (l++[(b,v)])) }:=by
 obtain⟨k,e,hu,hE,hz⟩:=h.ok;obtain⟨q,h1,h2⟩:=aAE (P:=P) (k:=k) (enc:=enc) b w l;have hc:=fun em=>hE.chk em b w;have hg:=MapKept.run_getObj_map (P:=P) hr;rw [hn] at h2;have hq:q=none:=by cases q <;> simp at h2 |-
 subst hq;have hs:=fun o=>MapKept.run_setObj_map (P:=P) o hr;have he:moS enc (l++[(b,v)])=.map ((yV enc 0 l).toArray.push ⟨.agg (enc b).toArray,v,l.length⟩) (l.length+1):=by unfold moS;rw [aFM];simp
 rw [he];simp [Instr.mapUpdate,run_underlying hu,hg,hc,h1,hs]
end
section
variable {P:Program}{C:Ctx}{Q:Exit->Fr->Hp->Prop}{A:Fr}{H H':Hp}{L rest:List Oper}{d:Option Tmp}{ty:TypeId}{pos:String}{af:Array Edge}{g:Option (Nat×Bool)}{t r:Nat}{d':Option Nat}{x y u:Operand}{G:Type} [DecidableEq G]{enc:G->LV}{b:G}{o:Oper}{z v:Value}{l:List (G×Value)}
theorem aNW [h:aJH P t G enc z](hk:SL P C L Q rest (pt A d' undef) H')(hn:atS l b=none)(hx:ev A x=some (.map (some r)):=by exact rfl)(hy:ev A y=some (.agg (enc b).toArray):=by exact rfl)(hu:ev A u=some v:=by exact rfl)(hat:At H r (moS enc l):=by infer_instance)(hup:Upd H r (moS enc (l++[(b,v)])) H':=by infer_instance)(hg:gd L A ⟨d,.mapUpdate t x y u,ty,pos,af,g⟩=some true:=by exact rfl)(hd:dk C.n d=some d':=by exact rfl):SL P C L Q (⟨d,.mapUpdate t x y u,ty,pos,af,g⟩::rest) A H:=
 mY hg hd fun a w hf hs=>by
  have hat2:=hs.at (b:=r)
  have hlt:r<w.heap.size:=(gH.1 hat2).1
  refine⟨undef,{ w with heap:=w.heap.setIfInBounds r (moS enc (l++[(b,v)])) },H',.inr ⟨?_,rfl⟩,?_,hk⟩
  ·unfold execOp;simp [hf.eval hx,hf.eval hy,hf.eval hu,aJr b v hat2 hn]
  ·refine hs.set (b:=r) (o':=moS enc (l++[(b,v)])) (by simp) ?_ ?_ rfl rfl rfl
   ·simp [hlt]
   ·intro k hk;simp [gY,Ne.symm hk]
end
section
variable {P:Program}{C:Ctx}{L:List Oper}{Q:Exit->Fr->Hp->Prop}{B:List Nat}{R R' H:Hp}{fuel:Nat}{listed:Array Bool}{A:Fr}{o:Oper}{G:Type} [DecidableEq G]{enc:G->LV}
theorem aNS{t r:Nat}{z:Value}{x y:Operand}{b:G}{l:List (G×Value)}(i:Nat)(Ws:List Nat)(hi:L[i]?=some o){d':Option Nat}(iM:aJH P t G enc z)(hk:SS P C L Q B R' fuel (listed.setIfInBounds i true) (pt A d' (.tuple #[(atS l b).getD z,.bool (atS l b).isSome])) H)(hok:aCk L B listed i Ws=true:=by kernel_rfl)(ho:o.op=.lookup t x y true:=by exact rfl)(hx:ev A x=some (.map (some r)):=by exact rfl)(hy:ev A y=some (.agg (enc b).toArray):=by exact rfl)(hat:At H r (moS enc l):=by infer_instance)(hin:Ins R r (moS enc l) R':=by infer_instance)(hg:gd L A o=some true:=by exact rfl)(hd:dk C.n o.dst=some d':=by exact rfl)(hQ:∀ c A H,Q (.panic c) A H->False:=by exact fun _ _ _ h=>Fin.np h):SS P C L Q B R (fuel+1) listed A H:=
 wZ i Ws hi hok hQ hin.ok.2.1 (fun x hx=>(hin.ok.2.2 x hx).elim (fun e=>.inr (e▸hat.mem)) .inl) (fun a hf=>.inl ⟨gW hf hg,fun w hr=>by
  have hb2:=hr.2 _ hin.ok.1
  unfold execOp;rw [ho];simp [hf.eval hx,hf.eval hy,aGu b hb2]⟩) hd hk
end
end Go.Proofs.YtdfclocfackkmaaGreat
