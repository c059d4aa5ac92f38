/- A small separation logic over the kit's walk rules: frames are association lists, the blocks that a call owns are a list; each operation has one lemma, and a proof steps by 'refine'. -/
import Derived.WalkSpells
import Derived.WalkLawsBesides
import Derived.StillTail
import Derived.Deep.Quiet
import Derived.Laws.CopyRow
import Derived.Deep.LoopGhost
import Derived.OrdersHeld
import Derived.Test.YtdfclocfackkmaaGreatPm0
set_option linter.unusedVariables false
set_option linter.unusedSimpArgs false
set_option linter.unusedSectionVars false
namespace Go.Proofs.YtdfclocfackkmaaGreat
open Go
abbrev Fr:=List (Nat×Value)
abbrev Hp:=List (Nat×Obj)
abbrev cl(l:LV)(T:TypeId):Obj:=.cells l.toArray T (0,0)
def lk:Fr->Nat->Option Value
 | [],_=>none
 | (k,v)::r,t=>bif Nat.beq k t then some v else lk r t
def ev(A:Fr):Operand->Option Value
 | .tmp t=>lk A t
 | .const v=>some v
 | .global g=>some (.pointer (some ⟨g,0,none⟩))
 | .func f=>some (.func (.func f) #[] #[])
def evs(A:Fr):List Operand->Option LV
 | []=>some []
 | x::r=>match ev A x,evs A r with
  | some v,some vs=>some (v::vs)
  | _,_=>none
def pt(A:Fr)(d:Option Nat)(v:Value):Fr:=match d with|some d=>(d,v)::A|none=>A
def dk(n:Nat)(x:Option Nat):Option (Option Nat):=
 match x with
 | none=>some none
 | some k=>bif Nat.blt k n then some (some k) else none
structure jS(ds:List Deferred)(n:Nat)(A:Fr)(a:Act):Prop where
 d:a.defers=ds
 s:a.tmps.size=n
 t:∀ t v,lk A t=some v->a.tmps[t]?=some v
theorem aEv(k:Nat)(v:Value)(r:Fr)(t:Nat):lk ((k,v)::r) t=if k=t then some v else lk r t:=by
 by_cases h:k=t
 ·subst h;simp [lk]
 have:Nat.beq k t=false:=by
  cases hb:Nat.beq k t with
  | false=>rfl
  | true=>exact absurd (jY hb) h
 simp [lk,this,h]
theorem jS.eval{ds:List Deferred}{n:Nat}{A:Fr}{a:Act}(h:jS ds n A a){x:Operand}{v:Value}(hx:ev A x=some v):a.eval x=v:=by
 cases x with
 | tmp t=>simp only [ev] at hx;have:=h.t t v hx;simp [Act.eval,jK,this]
 | const u=>simp only [ev,cR] at hx;simp [Act.eval,hx]
 | global g=>simp only [ev,cR] at hx;simp [Act.eval,hx]
 | func f=>simp only [ev,cR] at hx;simp [Act.eval,hx]
theorem jS.evals{ds:List Deferred}{n:Nat}{A:Fr}{a:Act}(h:jS ds n A a):∀ {xs:List Operand} {vs:LV},evs A xs=some vs->xs.map a.eval=vs
 | [],vs,hx=>by simp [evs] at hx;simp [hx]
 | x::r,vs,hx=>by
  simp only [evs] at hx;cases h1:ev A x with
  | none=>simp [h1] at hx
  | some v=>
   cases h2:evs A r with
   | none=>simp [h1,h2] at hx
   | some us=>
    simp [h1,h2] at hx
    subst hx
    simp [h.eval h1,jS.evals h h2]
theorem jS.put{ds:List Deferred}{n:Nat}{A:Fr}{a:Act}(h:jS ds n A a){x d:Option Nat}(hd:dk n x=some d)(v:Value):jS ds n (pt A d v) (a.put x v):=by
 cases x with
 | none=>simp only [dk,cR] at hd;subst hd;exact h
 | some k=>
  cases hb:Nat.blt k n with
  | false=>simp [dk,hb] at hd
  | true=>
   simp only [dk,hb,cond_true,cR] at hd
   subst hd
   have hdn:k<n:=fH hb
   refine⟨h.d,by simp [Act.put,h.s],fun t u hu=>?_⟩
   simp only [pt,aEv] at hu
   simp only [Act.put,gY]
   by_cases hk:k=t
   ·subst hk
    simp only [if_true] at hu |-
    rw [if_pos (by rw [h.s];exact hdn)]
    exact hu
   ·simp only [hk,if_false] at hu |-
    exact h.t t u hu
def subF:Fr->Fr->Prop
 | [],_=>True
 | (t,v)::r,A=>lk A t=some v/\subF r A
theorem subF.lk{A:Fr}:∀ {r:Fr} (_:subF r A) {t:Nat} {v:Value},lk r t=some v->lk A t=some v
 | [],_,t,v,h=>by simp [Proofs.YtdfclocfackkmaaGreat.lk] at h
 | (k,u)::r,hs,t,v,h=>by
  rw [aEv] at h;by_cases hk:k=t
  ·subst hk;simp at h;subst h;exact hs.1
  simp [hk] at h;exact subF.lk hs.2 h
theorem jS.sub{ds:List Deferred}{n:Nat}{A r:Fr}{a:Act}(h:jS ds n A a)(hs:subF r A):jS ds n r a:=⟨h.d,h.s,fun t v hv=>h.t t v (hs.lk hv)⟩
structure St(K:List Nat)(w0:World)(H:Hp)(w:World):Prop where
 own:∀ b o,(b,o)∈H->w.heap[b]?=some o
 nodup:(H.map Prod.fst).Nodup
 fresh:∀ b o,(b,o)∈H->b∈K\/w0.heap.size<=b
 os:w.os=w0.os
 tape:w.tape=w0.tape
 out:w.output=w0.output
 size:w0.heap.size<=w.heap.size
 keep:∀ b,b<w0.heap.size->b∉K->w.heap[b]?=w0.heap[b]?
theorem aIS{w w':World}{a:Addr}(h:w'.heap[a.block]?=w.heap[a.block]?):w'.frozen? a=w.frozen? a:=by unfold World.frozen?;rw [h]
structure Own(H:Hp)(w:World):Prop where
 own:∀ b o,(b,o)∈H->w.heap[b]?=some o
 nodup:(H.map Prod.fst).Nodup
theorem Own.nil(w:World):Own [] w:=⟨by simp,by simp⟩
theorem St.start{H:Hp}{w:World}(h:Own H w):St (H.map Prod.fst) w H w:=
 ⟨h.own,h.nodup,fun b o hb=>.inl (bM.2 ⟨(b,o),hb,rfl⟩),rfl,rfl,rfl,Nat.le_refl _,fun _ _ _=>rfl⟩
theorem St.toOwn{K:List Nat}{w0:World}{H:Hp}{w:World}(h:St K w0 H w):Own H w:=⟨h.own,h.nodup⟩
section
variable {K:List Nat}{w0 w:World}{H:Hp}
theorem St.lt(h:St K w0 H w){b:Nat}{o:Obj}(hb:(b,o)∈H):b<w.heap.size:=(gH.1 (h.own b o hb)).1
theorem St.drew(h:St K w0 H w):St K w0 H w.drew:=⟨h.own,h.nodup,h.fresh,h.os,h.tape,h.out,h.size,h.keep⟩
theorem St.drawn(h:St K w0 H w)(n:Nat):St K w0 H { w with drawn:=n }:=⟨h.own,h.nodup,h.fresh,h.os,h.tape,h.out,h.size,h.keep⟩
theorem aA3(w:World)(o:Obj)(i:Nat):(w.alloc o).heap[i]?=if i=w.heap.size then some o else w.heap[i]?:=by show (w.heap.push o)[i]?=_;rw [Array.getElem?_push]
theorem St.alloc(h:St K w0 H w)(o:Obj):St K w0 ((w.heap.size,o)::H) (w.alloc o):=by
 refine⟨fun b o' hb=>?_,?_,fun b o' hb=>?_,h.os,h.tape,h.out,by simp;exact Nat.le_succ_of_le h.size,fun b hb hk=>?_⟩
 ·rcases cD.1 hb with e|hb
  ·cases e;rw [aA3];simp
  have:=h.lt hb;rw [aA3,if_neg oQ];exact h.own b o' hb
 ·simp only [eE,kE];refine⟨fun hm=>?_,h.nodup⟩;obtain⟨⟨b,o'⟩,hb,e⟩:=bM.1 hm;have:=h.lt hb;simp at e;omega
 ·rcases cD.1 hb with e|hb
  ·cases e;exact .inr h.size
  exact h.fresh b o' hb
 have:=h.size;rw [aA3,if_neg oQ];exact h.keep b hb hk
class At(H:Hp)(b:Nat)(o:outParam Obj):Prop where
 mem:(b,o)∈H
instance At.head(b:Nat)(o:Obj)(r:Hp):At ((b,o)::r) b o:=⟨by simp⟩
instance At.tail(x:Nat×Obj)(r:Hp)(b:Nat)(o:Obj) [h:At r b o]:At (x::r) b o:=⟨cV _ h.mem⟩
class Upd(H:Hp)(b:Nat)(o':Obj)(H':outParam Hp):Prop where
 split:∃ l o r,H=l++(b,o)::r/\H'=l++(b,o')::r
instance Upd.head(b:Nat)(o o':Obj)(r:Hp):Upd ((b,o)::r) b o' ((b,o')::r):=⟨[],o,r,rfl,rfl⟩
instance Upd.tail(x:Nat×Obj)(r r':Hp)(b:Nat)(o':Obj) [h:Upd r b o' r']:Upd (x::r) b o' (x::r'):=
 ⟨let ⟨l,o,s,e1,e2⟩:=h.split;⟨x::l,o,s,by rw [e1];rfl,by rw [e2];rfl⟩⟩
class Out(H:Hp)(b:Nat)(o:outParam Obj)(r:outParam Hp):Prop where
 perm:H.Perm ((b,o)::r)
instance Out.head(b:Nat)(o:Obj)(r:Hp):Out ((b,o)::r) b o r:=⟨.refl _⟩
instance Out.tail(x:Nat×Obj)(r r':Hp)(b:Nat)(o:Obj) [h:Out r b o r']:Out (x::r) b o (x::r'):=⟨(h.perm.cons x).trans (.swap _ _ _)⟩
class eY(H:Hp)(Hc:Hp)(r:outParam Hp):Prop where
 perm:H.Perm (Hc++r)
instance eY.nil(H:Hp):eY H [] H:=⟨.refl _⟩
instance(priority:=1200) eY.cons (H:Hp) (b:Nat) (o:Obj) (Hc r r':Hp) [h1:Out H b o r] [h2:eY r Hc r']:eY H ((b,o)::Hc) r':=⟨h1.perm.trans (h2.perm.cons _)⟩
theorem St.perm(h:St K w0 H w){H':Hp}(hp:H.Perm H'):St K w0 H' w:=
 ⟨fun b o hb=>h.own b o (hp.mem_iff.2 hb),(hp.map _).nodup_iff.1 h.nodup,fun b o hb=>h.fresh b o (hp.mem_iff.2 hb),h.os,h.tape,h.out,h.size,h.keep⟩
theorem St.drop{Hc r:Hp}(h:St K w0 (Hc++r) w):St K w0 Hc w:=
 ⟨fun b o hb=>h.own b o (aO _ hb),(by have:=h.nodup;rw [aZ] at this;exact (fO.1 this).1),fun b o hb=>h.fresh b o (aO _ hb),h.os,h.tape,h.out,h.size,h.keep⟩
theorem St.set(h:St K w0 H w){b:Nat}{o':Obj}{H':Hp} [hu:Upd H b o' H']{w':World}(hs:w'.heap.size=w.heap.size)(hb:w'.heap[b]?=some o')(ho:∀ k,k≠b->w'.heap[k]?=w.heap[k]?) (hos:w'.os=w.os) (htp:w'.tape=w.tape) (hot:w'.output=w.output):St K w0 H' w':=by
 obtain⟨l,o,r,e1,e2⟩:=hu.split;subst e1 e2;have hn:=h.nodup;simp only [aZ,eE] at hn;refine⟨fun k o2 hk=>?_,by simpa using hn,fun k o2 hk=>?_,hos.trans h.os,htp.trans h.tape,hot.trans h.out,by rw [hs];exact h.size,fun k hk hK=>?_⟩
 ·by_cases e:k=b
  ·subst e;rw [hb];rcases bJ.1 hk with hk|hk
   ·exfalso;have h1:k∈l.map Prod.fst:=bM.2 ⟨_,hk,rfl⟩;exact (fO.1 hn).2.2 k h1 k (by simp) rfl
   rcases cD.1 hk with hk|hk
   ·cases hk;rfl
   exfalso;have h1:k∈r.map Prod.fst:=bM.2 ⟨_,hk,rfl⟩;have:=(fO.1 hn).2.1;simp only [kE] at this;exact this.1 h1
  rw [ho k e];refine h.own k o2 ?_;rcases bJ.1 hk with hk|hk
  ·exact aO _ hk
  rcases cD.1 hk with hk|hk
  ·cases hk;exact absurd rfl e
  exact aM _ (cV _ hk)
 ·rcases bJ.1 hk with hk|hk
  ·exact h.fresh k o2 (aO _ hk)
  rcases cD.1 hk with hk|hk
  ·cases hk;exact h.fresh b o (by simp)
  exact h.fresh k o2 (aM _ (cV _ hk))
 by_cases e:k=b
 ·subst e;rcases h.fresh k o (by simp) with h1|h1
  ·exact absurd h1 hK
  omega
 rw [ho k e];exact h.keep k hk hK
theorem St.comp{Hc Hf H':Hp}{w':World}(h:St K w0 (Hc++Hf) w)(hc:St (Hc.map Prod.fst) w H' w'):St K w0 (H'++Hf) w':=by
 have hn:=h.nodup;rw [aZ] at hn;obtain⟨n1,n2,n3⟩:=fO.1 hn;have hlt:∀ b o,(b,o)∈Hf->b<w.heap.size:=fun b o hb=>h.lt (aM _ hb);have hap:∀ b o,(b,o)∈Hf->b∉Hc.map Prod.fst:=fun b o hb hm=>n3 b hm b (bM.2 ⟨_,hb,rfl⟩) rfl;refine⟨fun b o hb=>?_,?_,fun b o hb=>?_,hc.os.trans h.os,hc.tape.trans h.tape,hc.out.trans h.out,cZ h.size hc.size,fun b hb hK=>?_⟩
 ·rcases bJ.1 hb with hb|hb
  ·exact hc.own b o hb
  rw [hc.keep b (hlt b o hb) (hap b o hb)];exact h.own b o (aM _ hb)
 ·rw [aZ];refine fO.2 ⟨hc.nodup,n2,fun a ha b hb e=>?_⟩;subst e;obtain⟨⟨x,o⟩,hx,rfl⟩:=bM.1 ha;obtain⟨⟨y,o2⟩,hy,hxy⟩:=bM.1 hb;simp only at hxy;subst hxy;rcases hc.fresh y o hx with h1|h1
  ·exact hap y o2 hy h1
  have:=hlt y o2 hy;omega
 ·rcases bJ.1 hb with hb|hb
  ·rcases hc.fresh b o hb with h1|h1
   ·obtain⟨⟨x,o2⟩,hx,rfl⟩:=bM.1 h1;exact h.fresh x o2 (aO _ hx)
   exact .inr (cZ h.size h1)
  exact h.fresh b o (aM _ hb)
 have:b∉Hc.map Prod.fst:=fun hm=>by
  obtain⟨⟨x,o⟩,hx,rfl⟩:=bM.1 hm;rcases h.fresh x o (aO _ hx) with h1|h1
  ·exact hK h1
  omega
 rw [hc.keep b (Nat.lt_of_lt_of_le hb h.size) this];exact h.keep b hb hK
theorem St.ro(h:St K w0 H w){b:Nat}{o:Obj}(hb:w0.heap[b]?=some o)(hk:b∉K):w.heap[b]?=some o:=by rw [h.keep b (gH.1 hb).1 hk];exact hb
theorem St.at(h:St K w0 H w){b:Nat}{o:Obj} [ha:At H b o]:w.heap[b]?=some o:=h.own b o ha.mem
end
structure Ctx where
 n:Nat
 K:List Nat
 w0:World
 ds:List Deferred:=[]
def rU(C:Ctx)(Q:Exit->Fr->Hp->Prop):Exit->Act->World->Prop:=fun e a w=>∃ A H,jS C.ds C.n A a/\St C.K C.w0 H w/\Q e A H
def SW(P:Program)(C:Ctx)(c:Code)(Q:Exit->Fr->Hp->Prop)(A:Fr)(H:Hp):Prop:=∀ a w,jS C.ds C.n A a->St C.K C.w0 H w->c.wp P (rU C Q) a w
def SL(P:Program)(C:Ctx)(L:List Oper)(Q:Exit->Fr->Hp->Prop)(l:List Oper)(A:Fr)(H:Hp):Prop:=
 ∀ a w,jS C.ds C.n A a->St C.K C.w0 H w->wpList P L.toArray (rU C Q) l a w
def SQ(P:Program)(C:Ctx)(L:List Oper)(Q:Fr->Prop)(l:List Oper)(A:Fr)(H:Hp):Prop:=
 ∀ a,jS C.ds C.n A a->wpQuiet P L.toArray (fun w=>St C.K C.w0 H w) (fun a'=>∃ ρ',jS C.ds C.n ρ' a'/\Q ρ') l a
def SH(P:Program)(C:Ctx)(L:List Oper)(Q:Fr->Prop)(l:List Oper)(A:Fr)(H:Hp):Prop:=
 ∀ a w,jS C.ds C.n A a->St C.K C.w0 H w->wpStill P L.toArray w (fun a'=>∃ ρ',jS C.ds C.n ρ' a'/\Q ρ') l a
def Pu(P:Program)(C:Ctx)(A:Fr)(H:Hp)(o:Oper)(v:Value):Prop:=∀ a w,jS C.ds C.n A a->St C.K C.w0 H w->(execOp a.eval o).run P w=.ok (.value v) w
def thn(K:Fr->Hp->Prop)(Q:Exit->Fr->Hp->Prop):Exit->Fr->Hp->Prop
 | .normal,A,H=>K A H
 | .exit id,A,H=>Q (.exit id) A H
 | .goto l,A,H=>Q (.goto l) A H
 | .ret,A,H=>Q .ret A H
 | .panic c,A,H=>Q (.panic c) A H
 | .outgrown,A,H=>Q .outgrown A H
def blk(id:Nat)(Q:Exit->Fr->Hp->Prop):Exit->Fr->Hp->Prop
 | .normal,A,H=>Q .normal A H
 | .exit id',A,H=>bif Nat.beq id' id then Q .normal A H else Q (.exit id') A H
 | .goto l,A,H=>Q (.goto l) A H
 | .ret,A,H=>Q .ret A H
 | .panic c,A,H=>Q (.panic c) A H
 | .outgrown,A,H=>Q .outgrown A H
section
variable {P:Program}{C:Ctx}{Q:Exit->Fr->Hp->Prop}{A:Fr}{H:Hp}{L l rest:List Oper}{o:Oper}
theorem vF{a b:Nat}(h:a≠b):Nat.beq a b=false:=by
 cases hb:Nat.beq a b with
 | false=>rfl
 | true=>exact absurd (jY hb) h
theorem pC{x y:Code}(h:SW P C x (thn (SW P C y Q) Q) A H):SW P C (.seq x y) Q A H:=fun a w hf hs=>
 wp_seq (wp_mono (h a w hf hs) fun e a w ⟨A,H,hf,hs,hq⟩=>by cases e <;> first|exact hq a w hf hs|exact⟨A,H,hf,hs,hq⟩)
theorem SW.block{id:Nat}{c:Code}(h:SW P C c (blk id Q) A H):SW P C (.block id c) Q A H:=fun a w hf hs=>
 wp_block (wp_mono (h a w hf hs) fun e a w ⟨A,H,hf,hs,hq⟩=>by
  cases e with
  | exit id'=>
   simp only [Exit.inBlock]
   by_cases hid:id'=id
   ·subst hid
    rw [if_pos rfl]
    have:Nat.beq id' id'=true:=zQ id'
    simp only [blk,this,cond_true] at hq
    exact⟨A,H,hf,hs,hq⟩
   ·rw [if_neg hid]
    simp only [blk,vF hid,cond_false] at hq
    exact⟨A,H,hf,hs,hq⟩
  | _=>exact⟨A,H,hf,hs,hq⟩)
theorem SW.skip(h:Q .normal A H):SW P C .skip Q A H:=fun _ _ hf hs=>wp_skip ⟨A,H,hf,hs,h⟩
theorem aEb{id:Nat}(h:Q (.exit id) A H):SW P C (.exit id) Q A H:=fun _ _ hf hs=>wp_exit ⟨A,H,hf,hs,h⟩
theorem aGL(h:Q .ret A H):SW P C .ret Q A H:=fun _ _ hf hs=>wp_ret ⟨A,H,hf,hs,h⟩
theorem aAR{c:Operand}{x y:Code}(hc:ev A c=some (.bool true))(h:SW P C x Q A H):SW P C (.cond c x y) Q A H:=fun a w hf hs=>wp_cond_true (hf.eval hc) (h a w hf hs)
theorem aAQ{c:Operand}{x y:Code}(hc:ev A c=some (.bool false))(h:SW P C y Q A H):SW P C (.cond c x y) Q A H:=fun a w hf hs=>wp_cond_false (hf.eval hc) (h a w hf hs)
theorem jG{c:Operand}{x y:Code}{b:Bool}(hc:ev A c=some (.bool b))(ht:b=true->SW P C x Q A H)(hf:b=false->SW P C y Q A H):SW P C (.cond c x y) Q A H:=fun a w hF hs=>
 wp_cond_split (hF.eval hc) (fun e=>ht e a w hF hs) (fun e=>hf e a w hF hs)
theorem aAS{c:Code}{r:Fr}{Hc s:Hp}(hr:subF r A)(hp:eY H Hc s)(h:SW P C c Q r Hc):SW P C c Q A H:=fun a w hf hs=>h a w (hf.sub hr) ((hs.perm hp.perm).drop)
theorem SW.mono{c:Code}{Q':Exit->Fr->Hp->Prop}(h:SW P C c Q' A H)(hq:∀ e A H,Q' e A H->Q e A H):SW P C c Q A H:=fun a w hf hs=>
 wp_mono (h a w hf hs) fun e _ _ ⟨A,H,hf,hs,h⟩=>⟨A,H,hf,hs,hq e A H h⟩
def aQs(I:Nat->Fr->Hp->Prop)(k:Nat)(A:Fr)(H:Hp):Prop:=∃ k' ρ' Hc s,k'<k/\subF ρ' A/\H.Perm (Hc++s)/\I k' ρ' Hc
theorem aLP{c:Code}(I:Nat->Fr->Hp->Prop)(k0:Nat){r:Fr}{Hc s:Hp}(hr:subF r A)(hp:eY H Hc s)(h0:I k0 r Hc)
  (round:∀ k A H,I k A H->SW P C c (thn (aQs I k) Q) A H):SW P C (.loop c) Q A H:=fun a w hf hs=>
 wp_loop_ghost (fun k a w=>∃ A H,jS C.ds C.n A a/\St C.K C.w0 H w/\I k A H) k0 ⟨r,Hc,hf.sub hr,(hs.perm hp.perm).drop,h0⟩ fun k a w ⟨A,H,hf,hs,hI⟩=>
  wp_mono (round k A H hI a w hf hs) fun e a w ⟨A,H,hf,hs,hq⟩=>by
   cases e <;> first
    | exact⟨A,H,hf,hs,hq⟩
    | exact (let ⟨k',ρ',Hc,s,hk,hr,hp,hI⟩:=hq;⟨k',hk,ρ',Hc,hf.sub hr,(hs.perm hp).drop,hI⟩)
theorem mQ{id:Nat}(h:SL P C l Q l A H):SW P C (.region id l.toArray false) Q A H:=fun a w hf hs=>wp_region_lit (h a w hf hs)
theorem aGJ{id:Nat}(hm:P.follows .mixedOrders=true)(hB:Region.lexB .any l.toArray=true)(h:SQ P C l (fun ρ'=>Q .normal ρ' H) l A H):SW P C (.region id l.toArray true) Q A H:=fun a w hf hs=>
 wp_region_quiet (C:=fun w=>St C.K C.w0 H w) hm hB (hs.drawn _) (by
  have:=h a hf
  have h2:∀ (l2:List Oper) (a:Act) (Q1 Q2:Act->Prop),(∀ a,Q1 a->Q2 a)->wpQuiet P l.toArray (fun w=>St C.K C.w0 H w) Q1 l2 a->wpQuiet P l.toArray (fun w=>St C.K C.w0 H w) Q2 l2 a:=by
   intro l2
   induction l2 with
   | nil=>intro a Q1 Q2 h12 h;exact h12 a h
   | cons x r ih=>
    intro a Q1 Q2 h12 h
    simp only [wpQuiet] at h |-
    split
    ·rename_i hw;rw [if_pos hw] at h;exact Oper.quiet_mono (fun a=>ih a Q1 Q2 h12) h
    ·rename_i hw;rw [if_neg hw] at h;exact ih _ Q1 Q2 h12 h
  simpa using h2 l a _ _ (fun a' ⟨ρ',hf',hq⟩ w' hw'=>⟨ρ',H,hf',hw',hq⟩) this)
theorem jB(h:Q .normal A H):SL P C L Q [] A H:=fun _ _ hf hs=>⟨A,H,hf,hs,h⟩
theorem aNQ{Q:Fr->Prop}(h:Q A):SQ P C L Q [] A H:=fun _ hf=>⟨A,hf,h⟩
def gd(L:List Oper)(A:Fr)(o:Oper):Option Bool:=
 match o.guard with
 | none=>some true
 | some (j,want)=>
  match L[j]? with
  | some oj=>
   match oj.dst with
   | some d=>
    match lk A d with
    | some (.bool b)=>some (bif want then b else !b)
    | some (.tuple _)=>some false
    | _=>none
   | none=>none
  | none=>none
theorem gW{a:Act}(hf:jS C.ds C.n A a){b:Bool}(h:gd L A o=some b):Region.wanted o (yielded L.toArray a.tmps)=b:=by
 unfold gd at h;unfold Region.wanted;split at h
 ·rename_i hg;rw [hg];simpa using h
 rename_i j want hg;rw [hg];dsimp only;split at h
 ·rename_i oj hj;split at h
  ·rename_i d hd;have hy:((L.toArray[j]?).bind (·.dst))=some d:=by simp [hj,hd]
   split at h
   ·rename_i b' hl;have:=hf.t _ _ hl;simp only [yielded,hy,Option.bind_some,this];simp only [cR] at h;subst h;cases want <;> cases b' <;> rfl
   ·rename_i cs hl;have:=hf.t _ _ hl;simp only [yielded,hy,Option.bind_some,this];simpa using h
   cases h
  cases h
 cases h
theorem bN{v:Value}(h:Pu P C A H o v)(hg:gd L A o=some true){d:Option Nat}(hd:dk C.n o.dst=some d)(hk:SL P C L Q rest (pt A d v) H):SL P C L Q (o::rest) A H:=fun a w hf hs=>by
 unfold wpList
 rw [if_pos (gW hf hg)]
 refine .inl ?_
 unfold Oper.wp
 rw [h a w hf hs,Oper.upon_value]
 exact hk _ _ (hf.put hd v) hs
theorem gL{Q:Fr->Prop}{v:Value}(h:Pu P C A H o v)(hg:gd L A o=some true){d:Option Nat}(hd:dk C.n o.dst=some d)(hk:SQ P C L Q rest (pt A d v) H):SQ P C L Q (o::rest) A H:=fun a hf=>by
 unfold wpQuiet
 rw [if_pos (gW hf hg)]
 refine⟨v,fun w hs=>?_,hk _ (hf.put hd v)⟩
 unfold Oper.quietAt
 rw [h a w hf hs]
 exact⟨rfl,rfl⟩
theorem zT(hg:gd L A o=some false){d:Option Nat}(hd:dk C.n o.dst=some d)(hk:SL P C L Q rest (pt A d undef) H):SL P C L Q (o::rest) A H:=fun a w hf hs=>by
 unfold wpList
 rw [if_neg (by rw [gW hf hg];decide)]
 exact hk _ _ (hf.put hd _) hs
theorem dP{p:Prop} [Decidable p](h:Pu P C A H o (.bool (decide p)))(hg:gd L A o=some true){d:Option Nat}(hd:dk C.n o.dst=some d)(ht:p->SL P C L Q rest (pt A d (.bool true)) H)(hf:¬ p->SL P C L Q rest (pt A d (.bool false)) H):SL P C L Q (o::rest) A H:=by
 by_cases hp:p
 ·exact bN (by rw [decide_eq_true hp] at h;exact h) hg hd (ht hp)
 exact bN (by rw [decide_eq_false hp] at h;exact h) hg hd (hf hp)
theorem aAO{Q:Fr->Prop}{p:Prop} [Decidable p](h:Pu P C A H o (.bool (decide p)))(hg:gd L A o=some true){d:Option Nat}(hd:dk C.n o.dst=some d)(ht:p->SQ P C L Q rest (pt A d (.bool true)) H)(hf:¬ p->SQ P C L Q rest (pt A d (.bool false)) H):SQ P C L Q (o::rest) A H:=by
 by_cases hp:p
 ·exact gL (by rw [decide_eq_true hp] at h;exact h) hg hd (ht hp)
 exact gL (by rw [decide_eq_false hp] at h;exact h) hg hd (hf hp)
end
section
variable {P:Program}{C:Ctx}{A:Fr}{H:Hp}{o:Oper}
theorem sJ(t:TypeId) [h:cB P t](w:World):(isAgg t).run P w=.ok false w:=by obtain⟨d,hd,hr⟩:=h.ok;unfold isAgg;rw [Sem.run_bind,run_underlying hd w];cases d <;> simp_all [TypeDesc.isRow]
theorem aBI(t:TypeId){n:Nat} [h:fB P t n](w:World):(isAgg t).run P w=.ok true w:=by obtain⟨d,hd,hr⟩:=h.ok;unfold isAgg;rw [Sem.run_bind,run_underlying hd w];cases d <;> simp_all [TypeDesc.isRow]
theorem eL{t:TypeId}{n:Nat}(h:(P.info? t).map (·.size)=some n)(w:World):(sizeOf t).run P w=.ok n w:=by
 cases hq:P.info? t with
 | none=>simp [hq] at h
 | some i=>simp [hq] at h;simp [sizeOf,typeInfo,hq,h]
theorem aEl{w:World}{b:Nat}{l:LV}{T:TypeId}{fz:Nat×Nat}(hb:w.heap[b]?=some (.cells l.toArray T fz))(i:Nat):w.cell? ⟨b,i,none⟩=l[i]?:=by rw [cell_of_row w b i _ T fz hb];simp
theorem lG(b o j:Nat):(⟨b,o,none⟩:Addr).add j=⟨b,o+j,none⟩:=by unfold Addr.add;split <;> simp_all
theorem zI{w:World}{t:TypeId} [cB P t]{b i:Nat}{l:LV}{T:TypeId}{fz:Nat×Nat}{v:Value}(hb:w.heap[b]?=some (.cells l.toArray T fz))(hv:l[i]?=some v):(loadVar t ⟨b,i,none⟩).run P w=.ok v w:=by simp [loadVar,sJ,aEl hb,hv]
theorem nO{w:World}{t:TypeId}{n:Nat} [hr:fB P t n]{b i:Nat}{l:LV}{T:TypeId}{fz:Nat×Nat}(hb:w.heap[b]?=some (.cells l.toArray T fz)){r:LV}(hv:(l.drop i).take n=r)(hn:r.length=n):(loadVar t ⟨b,i,none⟩).run P w=.ok (.agg r.toArray) w:=by
 obtain⟨d,hd,hdr⟩:=hr.ok;refine run_loadVar_mid w b i t r d (fun j v hj=>?_) hd hdr (by rw [hn];exact hr.size);rw [aEl hb,<-hj,<-hv,bD];have:j<n:=by have:=(aD.1 hj).1;omega
 simp [this]
theorem fA{x:Operand}{v:Value}(ho:o.op=.move x)(hx:ev A x=some v):Pu P C A H o v:=fun a w hf _=>by
 unfold execOp;rw [ho];simp [hf.eval hx]
theorem rN{x:Operand}{v:Value}(ho:o.op=.assign x)(hx:ev A x=some v):Pu P C A H o v:=fun a w hf _=>by
 unfold execOp;rw [ho];simp [hf.eval hx]
theorem wN{c x y:Operand}{v:Value}(ho:o.op=.pick c x y)(hc:ev A c=some (.bool true))(hx:ev A x=some v):Pu P C A H o v:=fun a w hf _=>by
 unfold execOp;rw [ho];simp [hf.eval hc,hf.eval hx,asBool]
theorem wM{c x y:Operand}{v:Value}(ho:o.op=.pick c x y)(hc:ev A c=some (.bool false))(hx:ev A y=some v):Pu P C A H o v:=fun a w hf _=>by
 unfold execOp;rw [ho];simp [hf.eval hc,hf.eval hx,asBool]
theorem jD{t:TypeId}{x:Operand}{b i:Nat}{l:LV}{T:TypeId}{v:Value}(ho:o.op=.load t x)(hx:ev A x=some (.pointer (some ⟨b,i,none⟩))) [cB P t] [At H b (cl l T)](hv:l[i]?=some v):Pu P C A H o v:=fun a w hf hs=>by
 unfold execOp;rw [ho];simp [hf.eval hx,Instr.loadAt,Instr.sureAddr,zI hs.at hv]
theorem mL{t:TypeId}{n:Nat}{x:Operand}{b i:Nat}{l r:LV}{T:TypeId}(ho:o.op=.load t x)(hx:ev A x=some (.pointer (some ⟨b,i,none⟩))) [fB P t n] [At H b (cl l T)](hv:(l.drop i).take n=r)(hn:r.length=n):Pu P C A H o (.agg r.toArray):=fun a w hf hs=>by
 unfold execOp;rw [ho];simp [hf.eval hx,Instr.loadAt,Instr.sureAddr,nO hs.at hv hn]
theorem tP{t:TypeId}{x:Operand}{b i:Nat}{l:LV}{T:TypeId}{fz:Nat×Nat}{v:Value}(ho:o.op=.load t x)(hx:ev A x=some (.pointer (some ⟨b,i,none⟩))) [cB P t](hb:C.w0.heap[b]?=some (.cells l.toArray T fz))(hk:b∉C.K)(hv:l[i]?=some v):Pu P C A H o v:=fun a w hf hs=>by
 unfold execOp;rw [ho];simp [hf.eval hx,Instr.loadAt,Instr.sureAddr,zI (hs.ro hb hk) hv]
theorem aBg{t:TypeId}{n:Nat}{x:Operand}{b i:Nat}{l r:LV}{T:TypeId}{fz:Nat×Nat}(ho:o.op=.load t x)(hx:ev A x=some (.pointer (some ⟨b,i,none⟩))) [fB P t n](hb:C.w0.heap[b]?=some (.cells l.toArray T fz))(hk:b∉C.K)(hv:(l.drop i).take n=r)(hn:r.length=n):Pu P C A H o (.agg r.toArray):=fun a w hf hs=>by
 unfold execOp;rw [ho];simp [hf.eval hx,Instr.loadAt,Instr.sureAddr,nO (hs.ro hb hk) hv hn]
theorem rP{x:Operand}{ad:Addr}(ho:o.op=.nilCheck x)(hx:ev A x=some (.pointer (some ad))):Pu P C A H o (.pointer (some ad)):=fun a w hf _=>by
 unfold execOp;rw [ho];simp [hf.eval hx]
theorem gJ{s i t off:Nat}{x:Operand}{b j:Nat}(ho:o.op=.fieldAddr s x i)(hx:ev A x=some (.pointer (some ⟨b,j,none⟩))) [h:aQ P s i t off]{j':Nat}(hj:j+off=j'):Pu P C A H o (.pointer (some ⟨b,j',none⟩)):=fun a w hf _=>by
 obtain⟨fs,f,hu,hi,hof,ht⟩:=h.ok
 obtain⟨m,hm,hm0⟩:=h.nz
 subst hj
 unfold execOp;rw [ho]
 simp [hf.eval hx,Instr.fieldAt,run_underlying hu,hi,Instr.sureAddr,fieldPlace,eL (ht▸hm),hm0,lG,hof]
theorem sH{s i t off:Nat}{x:Operand}{l:LV}{v:Value}(ho:o.op=.field s x i)(hx:ev A x=some (.agg l.toArray)) [h:aQ P s i t off] [cB P t](hv:l[off]?=some v):Pu P C A H o v:=fun a w hf _=>by
 obtain⟨fs,f,hu,hi,hof,ht⟩:=h.ok
 subst hof ht
 unfold execOp;rw [ho]
 simp [hf.eval hx,Instr.field,run_underlying hu,hi,asAgg,part,sJ,hv]
theorem tM{s i t off n:Nat}{x:Operand}{l r:LV}(ho:o.op=.field s x i)(hx:ev A x=some (.agg l.toArray)) [h:aQ P s i t off] [hr:fB P t n](hv:(l.drop off).take n=r):Pu P C A H o (.agg r.toArray):=fun a w hf _=>by
 obtain⟨fs,f,hu,hi,hof,ht⟩:=h.ok
 subst hof ht
 unfold execOp;rw [ho]
 simp [hf.eval hx,Instr.field,run_underlying hu,hi,asAgg,part,aBI,eL hr.size,<-hv,List.take_drop]
theorem gV{t e n:Nat}{x y:Operand}{b j len cap:Nat}{kk:IntKind}{i:Int}(ho:o.op=.indexAddr t x y)(hx:ev A x=some (.slice (some ⟨b,j,none⟩) len cap))(hy:ev A y=some (.int kk i)) [h:cC P t e n]
  (h0:0<=i) (h1:i<len) {j':Nat} (hj:j+i.toNat*n=j'):Pu P C A H o (.pointer (some ⟨b,j',none⟩)):=fun a w hf _=>by
 subst hj
 unfold execOp;rw [ho]
 simp [hf.eval hx,hf.eval hy,Instr.indexAt,run_underlying h.ok,asIntOf,h0,h1,eL h.size,lG]
theorem aBN{t e n len:Nat}{x y:Operand}{b j:Nat}{kk:IntKind}{i:Int}(ho:o.op=.indexAddr t x y)(hx:ev A x=some (.pointer (some ⟨b,j,none⟩)))(hy:ev A y=some (.int kk i)) [h:kP P t len e n]
  (h0:0<=i) (h1:i<len) {j':Nat} (hj:j+i.toNat*n=j'):Pu P C A H o (.pointer (some ⟨b,j',none⟩)):=fun a w hf _=>by
 subst hj
 unfold execOp;rw [ho]
 simp [hf.eval hx,hf.eval hy,Instr.indexAt,run_underlying h.ok,asIntOf,Instr.sureAddr,h0,h1,eL h.size,lG]
theorem aMA{t e n len:Nat}{x y:Operand}{l:LV}{kk:IntKind}{i:Int}{v:Value}(ho:o.op=.index t x y)(hx:ev A x=some (.agg l.toArray))(hy:ev A y=some (.int kk i)) [h:kP P t len e n] [cB P e]
  (h0:0<=i) (h1:i<len) (hv:l[i.toNat*n]?=some v):Pu P C A H o v:=fun a w hf _=>by
 unfold execOp;rw [ho]
 simp [hf.eval hx,hf.eval hy,Instr.index,run_underlying h.ok,asIntOf,h0,h1,eL h.size,part,sJ,hv]
section
variable {t t':TypeId}{x y:Operand}{k:IntKind}{m n r:Int}
theorem iB(op:BinOp)(w:World)(k k':IntKind)(m n:Int):(eqGuard op t x y (.int k m) (.int k' n)).run P w=.ok () w:=by cases op <;> simp [eqGuard]
theorem tK(ho:o.op=.binOp .add t x y t')(hx:ev A x=some (.int k m))(hy:ev A y=some (.int k n))(hr:k.wrap (m+n)=r):Pu P C A H o (.int k r):=fun a w hf _=>by
 subst hr;unfold execOp;rw [ho];simp [hf.eval hx,hf.eval hy,iB,binOp,Op.intArith]
theorem aDL(ho:o.op=.binOp .sub t x y t')(hx:ev A x=some (.int k m))(hy:ev A y=some (.int k n))(hr:k.wrap (m-n)=r):Pu P C A H o (.int k r):=fun a w hf _=>by
 subst hr;unfold execOp;rw [ho];simp [hf.eval hx,hf.eval hy,iB,binOp,Op.intArith]
theorem kK(ho:o.op=.binOp .mul t x y t')(hx:ev A x=some (.int k m))(hy:ev A y=some (.int k n))(hr:k.wrap (m*n)=r):Pu P C A H o (.int k r):=fun a w hf _=>by
 subst hr;unfold execOp;rw [ho];simp [hf.eval hx,hf.eval hy,iB,binOp,Op.intArith]
theorem aCN(ho:o.op=.binOp .quo t x y t')(hx:ev A x=some (.int k m))(hy:ev A y=some (.int k n))(hn:n≠0)(hr:k.wrap (m.tdiv n)=r):Pu P C A H o (.int k r):=fun a w hf _=>by
 subst hr;unfold execOp;rw [ho];simp [hf.eval hx,hf.eval hy,iB,binOp,Op.intDiv,hn]
theorem aCO(ho:o.op=.binOp .rem t x y t')(hx:ev A x=some (.int k m))(hy:ev A y=some (.int k n))(hn:n≠0)(hr:m.tmod n=r):Pu P C A H o (.int k r):=fun a w hf _=>by
 subst hr;unfold execOp;rw [ho];simp [hf.eval hx,hf.eval hy,iB,binOp,Op.intDiv,hn]
theorem oV(ho:o.op=.binOp .lss t x y t')(hx:ev A x=some (.int k m))(hy:ev A y=some (.int k n)):Pu P C A H o (.bool (decide (m<n))):=fun a w hf _=>by
 unfold execOp;rw [ho];simp [hf.eval hx,hf.eval hy,iB,binOp,Op.intCmp]
theorem oU(ho:o.op=.binOp .leq t x y t')(hx:ev A x=some (.int k m))(hy:ev A y=some (.int k n)):Pu P C A H o (.bool (decide (m<=n))):=fun a w hf _=>by
 unfold execOp;rw [ho];simp [hf.eval hx,hf.eval hy,iB,binOp,Op.intCmp]
theorem oS(ho:o.op=.binOp .gtr t x y t')(hx:ev A x=some (.int k m))(hy:ev A y=some (.int k n)):Pu P C A H o (.bool (decide (n<m))):=fun a w hf _=>by
 unfold execOp;rw [ho];simp [hf.eval hx,hf.eval hy,iB,binOp,Op.intCmp]
theorem oR(ho:o.op=.binOp .geq t x y t')(hx:ev A x=some (.int k m))(hy:ev A y=some (.int k n)):Pu P C A H o (.bool (decide (n<=m))):=fun a w hf _=>by
 unfold execOp;rw [ho];simp [hf.eval hx,hf.eval hy,iB,binOp,Op.intCmp]
theorem mV(ho:o.op=.binOp .eql t x y t')(hx:ev A x=some (.int k m))(hy:ev A y=some (.int k n)):Pu P C A H o (.bool (decide (m=n))):=fun a w hf _=>by
 unfold execOp;rw [ho];simp [hf.eval hx,hf.eval hy,iB,binOp,Op.intCmp];rfl
theorem oW(ho:o.op=.binOp .neq t x y t')(hx:ev A x=some (.int k m))(hy:ev A y=some (.int k n)):Pu P C A H o (.bool (decide (m≠n))):=fun a w hf _=>by
 unfold execOp;rw [ho];simp [hf.eval hx,hf.eval hy,iB,binOp,Op.intCmp,bne];rfl
theorem aGh{b:Bool}(ho:o.op=.unOp .not t x)(hx:ev A x=some (.bool b)):Pu P C A H o (.bool (!b)):=fun a w hf _=>by
 unfold execOp;rw [ho];simp [hf.eval hx,Op.unary]
theorem aP0(ho:o.op=.binOp .and t x y t')(hx:ev A x=some (.int k m))(hy:ev A y=some (.int k n))(hr:k.wrap ((BitVec.ofInt k.bits m &&& BitVec.ofInt k.bits n).toNat)=r):Pu P C A H o (.int k r):=fun a w hf _=>by
 subst hr;unfold execOp;rw [ho];simp only [hf.eval hx,hf.eval hy,Sem.run_bind,iB,Result.andThen_ok,binOp,Op.intBits,ne_eq,not_true_eq_false,if_false,Sem.run_pure]
theorem aCs(op:BinOp)(hop:op=.shl\/op=.shr)(w:World)(a b:Value):(eqGuard op t x y a b).run P w=.ok () w:=by rcases hop with rfl|rfl <;> simp [eqGuard]
theorem aP6{k2:IntKind}(ho:o.op=.binOp .shl t x y t')(hx:ev A x=some (.int k m))(hy:ev A y=some (.int k2 n))(hn:0<=n)(hr:k.wrap (m*2^(min n.toNat k.bits))=r):Pu P C A H o (.int k r):=fun a w hf _=>by
 have:¬ n<0:=oQ
 subst hr;unfold execOp;rw [ho];simp only [hf.eval hx,hf.eval hy,Sem.run_bind,aCs _ (.inl rfl),Result.andThen_ok,binOp,Op.shift,this,if_false,Sem.run_pure]
theorem aP7{k2:IntKind}(ho:o.op=.binOp .shr t x y t')(hx:ev A x=some (.int k m))(hy:ev A y=some (.int k2 n))(hn:0<=n)(hr:m.fdiv (2^(min n.toNat k.bits))=r):Pu P C A H o (.int k r):=fun a w hf _=>by
 have:¬ n<0:=oQ
 subst hr;unfold execOp;rw [ho];simp only [hf.eval hx,hf.eval hy,Sem.run_bind,aCs _ (.inr rfl),Result.andThen_ok,binOp,Op.shift,this,if_false,Sem.run_pure]
end
theorem w64{n:Int}(h : -9223372036854775808<=n/\n<=9223372036854775807):IntKind.i64.wrap n=n:=IntWalk.i64_in n h
theorem Pu.t{p:Prop} [Decidable p](h:Pu P C A H o (.bool (decide p)))(hp:p):Pu P C A H o (.bool true):=by rw [decide_eq_true hp] at h;exact h
theorem Pu.f{p:Prop} [Decidable p](h:Pu P C A H o (.bool (decide p)))(hp:¬ p):Pu P C A H o (.bool false):=by rw [decide_eq_false hp] at h;exact h
theorem aBA(op:BinOp)(t:TypeId)(x y:Operand)(w:World)(p q:Option Addr):(eqGuard op t x y (.pointer p) (.pointer q)).run P w=.ok () w:=by cases op <;> simp [eqGuard]
theorem aC4{t:TypeId} [h:pW P t](p:Option Addr)(w:World):(Op.equal t (.pointer p) (.pointer none)).run P w=.ok p.isNone w:=by
 obtain⟨e,he⟩:=h.ok;cases p with
 | none=>unfold Op.equal Op.maxDepth Op.equalIn;simp [run_underlying he]
 | some a=>unfold Op.equal Op.maxDepth Op.equalIn;simp [run_underlying he]
theorem aAq{t t':TypeId}{x y:Operand}{p:Option Addr}(ho:o.op=.binOp .eql t x y t')(hx:ev A x=some (.pointer p))(hy:ev A y=some (.pointer none)) [pW P t]:Pu P C A H o (.bool p.isNone):=fun a w hf _=>by
 unfold execOp;rw [ho];simp [hf.eval hx,hf.eval hy,aBA,binOp,aC4]
theorem aAs{t t':TypeId}{x y:Operand}{p:Option Addr}(ho:o.op=.binOp .neq t x y t')(hx:ev A x=some (.pointer p))(hy:ev A y=some (.pointer none)) [pW P t]:Pu P C A H o (.bool p.isSome):=fun a w hf _=>by
 unfold execOp;rw [ho];cases p <;> simp [hf.eval hx,hf.eval hy,aBA,binOp,aC4]
end
class One(v:Value):Prop where
 ok:v.oneCell'=true
class OC(l:LV):Prop where
 ok:∀ v∈l,v.oneCell'=true
instance(b:Bool):One (.bool b):=⟨rfl⟩
instance(k:IntKind)(n:Int):One (.int k n):=⟨rfl⟩
instance(p:Option Addr):One (.pointer p):=⟨rfl⟩
instance(p:Option Addr)(n c:Nat):One (.slice p n c):=⟨rfl⟩
instance(f:Fn)(x y:Array Value):One (.func f x y):=⟨rfl⟩
instance:OC []:=⟨by simp⟩
instance(v:Value)(l:LV) [h1:One v] [h2:OC l]:OC (v::l):=⟨fun u hu=>by
 rcases cD.1 hu with rfl|hu
 ·exact h1.ok
 ·exact h2.ok u hu⟩
instance(l r:LV) [h1:OC l] [h2:OC r]:OC (l++r):=⟨fun u hu=>by
 rcases bJ.1 hu with hu|hu
 ·exact h1.ok u hu
 ·exact h2.ok u hu⟩
instance(n:Nat)(v:Value) [h1:One v]:OC (List.replicate n v):=⟨fun u hu=>by rw [List.eq_of_mem_replicate hu];exact h1.ok⟩
instance(n:Nat)(l:LV) [h:OC l]:OC (l.take n):=⟨fun u hu=>h.ok u (dM hu)⟩
instance(n:Nat)(l:LV) [h:OC l]:OC (l.drop n):=⟨fun u hu=>h.ok u (kH hu)⟩
instance(n:Nat)(l:LV)(v:Value) [h:OC l] [h1:One v]:OC (l.set n v):=⟨fun u hu=>by
 rcases gT hu with hu|rfl
 ·exact h.ok u hu
 ·exact h1.ok⟩
instance{J:Type}(f:J->Value)(l:List J) [h:∀ x,One (f x)]:OC (l.map f):=⟨fun u hu=>by
 obtain⟨x,_,rfl⟩:=bM.1 hu
 exact (h x).ok⟩
instance{J:Type}(f:J->LV)(l:List J) [h:∀ x,OC (f x)]:OC (l.flatMap f):=⟨fun u hu=>by
 obtain⟨x,_,hx⟩:=List.mem_flatMap.1 hu
 exact (h x).ok u hx⟩
instance At.appL(l r:Hp)(b:Nat)(o:Obj) [h:At l b o]:At (l++r) b o:=⟨aO _ h.mem⟩
instance At.appR(l r:Hp)(b:Nat)(o:Obj) [h:At r b o]:At (l++r) b o:=⟨aM _ h.mem⟩
instance Upd.appL(l l' r:Hp)(b:Nat)(o':Obj) [h:Upd l b o' l']:Upd (l++r) b o' (l'++r):=
 ⟨let ⟨x,o,y,e1,e2⟩:=h.split;⟨x,o,y++r,by rw [e1];simp,by rw [e2];simp⟩⟩
instance Upd.appR(l r r':Hp)(b:Nat)(o':Obj) [h:Upd r b o' r']:Upd (l++r) b o' (l++r'):=
 ⟨let ⟨x,o,y,e1,e2⟩:=h.split;⟨l++x,o,y,by rw [e1];simp,by rw [e2];simp⟩⟩
instance Out.appL(l r r':Hp)(b:Nat)(o:Obj) [h:Out l b o r']:Out (l++r) b o (r'++r):=⟨by simpa using h.perm.append_right r⟩
instance Out.appR(l r r':Hp)(b:Nat)(o:Obj) [h:Out r b o r']:Out (l++r) b o (l++r'):=⟨(h.perm.append_left l).trans gP⟩
def Tri(P:Program)(f:FuncId)(vs:LV)(Hc:Hp)(Pre:World->Prop)(R:Value->Hp->Prop):Prop:=
 ∀ w,Own Hc w->Pre w->Calls P f vs.toArray w fun e w'=>∃ v H',e=.returned v/\St (Hc.map Prod.fst) w H' w'/\R v H'
def aFQ(vs:LV):Nat->Fr
 | k=>match vs with
  | []=>[]
  | v::r=>(k,v)::aFQ r (k+1)
section
variable {P:Program}{C:Ctx}{Q:Exit->Fr->Hp->Prop}{A:Fr}{H H':Hp}{L rest:List Oper}{o:Oper}
theorem aDn{l:LV}{i:Nat}(v:Value)(hi:i<l.length):l.take i++[v]++l.drop (i+1)=l.set i v:=by rw [fY,if_pos hi];simp
theorem St.setRow{K:List Nat}{w0 w:World}(h:St K w0 H w){b:Nat}{l l':LV}{T:TypeId} [At H b (cl l T)] [Upd H b (cl l' T) H']:St K w0 H' (w.setRow b l'.toArray):=
 h.set (b:=b) (o':=cl l' T) (by simp) (setRow_heap w b _ _ T _ h.at) (fun k hk=>setRow_other w b k _ hk) rfl rfl rfl
theorem aDl{w:World}{t:TypeId} [ht:jU P t]{b i:Nat}{l:LV}{T:TypeId}{v:Value} [h1:One v](hb:w.heap[b]?=some (cl l T))(hi:i<l.length):(storeVar t ⟨b,i,none⟩ v).run P w=.ok () (w.setRow b (l.set i v).toArray):=by
 have hv:v.cells=#[v]:=by have:=h1.ok;cases v <;> first|rfl|simp [Value.oneCell'] at this
 have:=run_storeCells_at P b i T [v] 0 l.toArray w hb (by simp;omega) (by simp [h1.ok]);simp only [jL,cN,aDn v hi] at this;simp [storeVar,eL ht.size,hv,this]
theorem aDm{w:World}{t:TypeId}{n:Nat} [ht:fB P t n]{b i:Nat}{l r:LV}{T:TypeId} [h1:OC r](hr:r.length=n)(hb:w.heap[b]?=some (cl l T))(hi:i+n<=l.length):(storeVar t ⟨b,i,none⟩ (.agg r.toArray)).run P w=.ok () (w.setRow b (l.take i++r++l.drop (i+n)).toArray):=by have:=run_storeCells_at P b i T r 0 l.toArray w hb (by simp;omega) h1.ok;simp only [jL,hr] at this;simp [storeVar,eL ht.size,Value.cells,hr,this]
theorem mY(hg:gd L A o=some true){d:Option Nat}(hd:dk C.n o.dst=some d)
  (h:∀ a w,jS C.ds C.n A a->St C.K C.w0 H w->∃ v w' H',((execOp a.eval o).run P w=.ok (.value v) w'\/(execOp a.eval o).run P w=.ok .skip w'/\v=undef)/\St C.K C.w0 H' w'/\SL P C L Q rest (pt A d v) H') :
  SL P C L Q (o::rest) A H:=fun a w hf hs=>by
 obtain⟨v,w',H',he,hs',hk⟩:=h a w hf hs
 unfold wpList
 rw [if_pos (gW hf hg)]
 refine .inl ?_
 unfold Oper.wp
 rcases he with he|⟨he,rfl⟩
 ·rw [he,Oper.upon_value];exact hk _ _ (hf.put hd v) hs'
 ·rw [he,Oper.upon_skip];exact hk _ _ (hf.put hd _) hs'
theorem SL.store{t:TypeId}{x y:Operand}{b i:Nat}{l:LV}{T:TypeId}{v:Value}(ho:o.op=.store t x y)(hg:gd L A o=some true){d:Option Nat}(hd:dk C.n o.dst=some d)
  (hx:ev A x=some (.pointer (some ⟨b,i,none⟩))) (hy:ev A y=some v) [jU P t] [One v] [At H b (cl l T)] (hi:i<l.length) [Upd H b (cl (l.set i v) T) H']
  (hk:SL P C L Q rest (pt A d undef) H'):SL P C L Q (o::rest) A H:=
 mY hg hd fun a w hf hs=>⟨undef,w.setRow b (l.set i v).toArray,H',.inr ⟨by unfold execOp;rw [ho];simp only [hf.eval hx,hf.eval hy,Instr.storeAt,Instr.sureAddr,Sem.run_bind,Sem.run_pure,Result.andThen_ok,aDl hs.at hi],rfl⟩,hs.setRow (l:=l) (T:=T),hk⟩
theorem uB{t:TypeId}{n:Nat}{x y:Operand}{b i:Nat}{l r:LV}{T:TypeId}(ho:o.op=.store t x y)(hg:gd L A o=some true){d:Option Nat}(hd:dk C.n o.dst=some d)
  (hx:ev A x=some (.pointer (some ⟨b,i,none⟩))) (hy:ev A y=some (.agg r.toArray)) [fB P t n] (hr:r.length=n) [OC r] [At H b (cl l T)] (hi:i+n<=l.length) {l':LV} (hl:l.take i++r++l.drop (i+n)=l') [Upd H b (cl l' T) H']
  (hk:SL P C L Q rest (pt A d undef) H'):SL P C L Q (o::rest) A H:=
 mY hg hd fun a w hf hs=>⟨undef,w.setRow b l'.toArray,H',.inr ⟨by subst hl;unfold execOp;rw [ho];simp only [hf.eval hx,hf.eval hy,Instr.storeAt,Instr.sureAddr,Sem.run_bind,Sem.run_pure,Result.andThen_ok,aDm hr hs.at hi],rfl⟩,hs.setRow (l:=l) (T:=T),hk⟩
theorem lS{t:TypeId}{v:Value}(h:((P.info? t).map fun i=>i.zero)=some (some v))(w:World):(zeroValue t).run P w=.ok v w:=by
 cases hq:P.info? t with
 | none=>simp [hq] at h
 | some i=>simp [hq] at h;simp [zeroValue,typeInfo,hq,h]
theorem SL.alloc{t:TypeId}{z:LV}(ho:o.op=.alloc t)(hg:gd L A o=some true){d:Option Nat}(hd:dk C.n o.dst=some d) [hz:cK P t z]
  (hk:∀ b,SL P C L Q rest (pt A d (.pointer (some ⟨b,0,none⟩))) ((b,cl z t)::H)):SL P C L Q (o::rest) A H:=
 mY hg hd fun a w hf hs=>by
  obtain⟨v,hv,hc⟩:=hz.ok
  exact⟨_,_,_,.inl (by unfold execOp;rw [ho];simp [Instr.alloc,lS hv,newVar,newRow,hc]),hs.alloc _,hk w.heap.size⟩
theorem aGE{t:TypeId}{x:Operand}{v:Value}(ho:o.op=.box t x)(hg:gd L A o=some true){d:Option Nat}(hd:dk C.n o.dst=some d)(hx:ev A x=some v) [h1:One v]
  (hk:∀ b,SL P C L Q rest (pt A d (.pointer (some ⟨b,0,none⟩))) ((b,cl [v] t)::H)):SL P C L Q (o::rest) A H:=
 mY hg hd fun a w hf hs=>by
  have hv:v.cells=#[v]:=by have:=h1.ok;cases v <;> first|rfl|simp [Value.oneCell'] at this
  exact⟨_,_,_,.inl (by unfold execOp;rw [ho];simp [Instr.box,newVar,newRow,hf.eval hx,hv]),hs.alloc _,hk w.heap.size⟩
theorem aCa{t:TypeId}{x:Operand}{l:LV}(ho:o.op=.box t x)(hg:gd L A o=some true){d:Option Nat}(hd:dk C.n o.dst=some d)(hx:ev A x=some (.agg l.toArray))
  (hk:∀ b,SL P C L Q rest (pt A d (.pointer (some ⟨b,0,none⟩))) ((b,cl l t)::H)):SL P C L Q (o::rest) A H:=
 mY hg hd fun a w hf hs=>⟨_,_,_,.inl (by unfold execOp;rw [ho];simp [Instr.box,newVar,newRow,hf.eval hx,Value.cells]),hs.alloc _,hk w.heap.size⟩
theorem qZ{f:FuncId} [h:bC P f](args:Array Value)(w:World):(callFunc f args).run P w=.ok (.enter f args) w:=by obtain⟨fn,h1,h2,h3⟩:=h.ok;unfold callFunc;simp only [Sem.run_bind,run_program,Result.andThen_ok,h1,h2,h3,lE,if_false,Sem.run_pure]
theorem yP{f:FuncId}{vs:LV}(Hc:Hp){r:Hp}{Pre:World->Prop}{R:Value->Hp->Prop}(hg:gd L A o=some true){d:Option Nat}(hd:dk C.n o.dst=some d)
  (he:∀ a w,jS C.ds C.n A a->(execOp a.eval o).run P w=.ok (.enter f vs.toArray) w) [hp:eY H Hc r] (ht:Tri P f vs Hc Pre R) (hpre:∀ w,St C.K C.w0 H w->Pre w)
  (hk:∀ v H',R v H'->SL P C L Q rest (pt A d v) (H'++r)):SL P C L Q (o::rest) A H:=fun a w hf hs=>by
 unfold wpList
 rw [if_pos (gW hf hg)]
 refine .inl ?_
 unfold Oper.wp
 rw [he a w hf,Oper.upon_enter]
 have hs2:=hs.perm hp.perm
 refine (ht w hs2.drop.toOwn (hpre w hs)).mono fun e w' ⟨v,H',he,hst,hR⟩=>?_
 subst he
 exact hk v H' hR _ _ (hf.put hd v) (hs2.comp hst)
theorem nX{f:FuncId}{xs:Array Operand}{ats:Array TypeId}{vs:LV}(Hc:Hp){r:Hp}{Pre:World->Prop}{R:Value->Hp->Prop}(ho:o.op=.call { callee:=.value (.func f),args:=xs,argTypes:=ats })(hg:gd L A o=some true){d:Option Nat}(hd:dk C.n o.dst=some d)(hx:evs A xs.toList=some vs) [bC P f] [eY H Hc r](ht:Tri P f vs Hc Pre R)(hpre:∀ w,St C.K C.w0 H w->Pre w)
  (hk:∀ v H',R v H'->SL P C L Q rest (pt A d v) (H'++r)):SL P C L Q (o::rest) A H:=
 yP Hc hg hd (fun a w hf=>by
  have h1:(xs.map a.eval)=vs.toArray:=by have:=hf.evals hx;apply Array.ext';simpa using this
  unfold execOp;rw [ho]
  simp [resolve,Deferred.ofValue,invoke,Act.eval,qZ]
  exact h1) ht hpre hk
theorem dN{f:FuncId}{y:Operand}{xs:Array Operand}{ats:Array TypeId}{us vs fs cs:LV}(Hc:Hp){r:Hp}{Pre:World->Prop}{R:Value->Hp->Prop}(ho:o.op=.call { callee:=.value y,args:=xs,argTypes:=ats })(hg:gd L A o=some true){d:Option Nat}(hd:dk C.n o.dst=some d)(hy:ev A y=some (.func (.func f) fs.toArray cs.toArray))(hx:evs A xs.toList=some us)(hv:fs++us++cs=vs) [bC P f] [eY H Hc r](ht:Tri P f vs Hc Pre R)(hpre:∀ w,St C.K C.w0 H w->Pre w)
  (hk:∀ v H',R v H'->SL P C L Q rest (pt A d v) (H'++r)):SL P C L Q (o::rest) A H:=
 yP Hc hg hd (fun a w hf=>by
  subst hv
  have h1:(xs.map a.eval)=us.toArray:=by have:=hf.evals hx;apply Array.ext';simpa using this
  unfold execOp;rw [ho]
  simp only [resolve,Deferred.ofValue,invoke,hf.eval hy,Sem.run_bind,Sem.run_pure,Result.andThen_ok,qZ,h1]
  simp) ht hpre hk
def Fin(P:Program)(C:Ctx)(fn:Func)(R:Value->Hp->Prop):Exit->Fr->Hp->Prop
 | .normal,A,H|.ret,A,H=>∃ v Hc s,H.Perm (Hc++s)/\R v Hc/\∀ a w,jS C.ds C.n A a->St C.K C.w0 H w->(results fn a.tmps).run P w=.ok v w
 | _,_,_=>False
theorem aDF(vs:LV)(n:Nat)(hn:vs.length<=n):jS [] n (aFQ vs 0) { tmps:=vs.toArray++Array.replicate (n-vs.toArray.size) undef,defers:=[] }:=by
 refine⟨rfl,by simp;omega,?_⟩;have key:∀ (us:LV) (k t:Nat) (v:Value),lk (aFQ us k) t=some v->k<=t/\us[t-k]?=some v:=by
  intro us;induction us with
  | nil=>intro k t v h;simp [aFQ,lk] at h
  | cons u r ih=>
   intro k t v h
   simp only [aFQ,aEv] at h
   by_cases hk:k=t
   ·subst hk;simp at h;simp [h]
   ·simp only [hk,if_false] at h
    obtain⟨h1,h2⟩:=ih _ _ _ h
    refine⟨oQ,?_⟩
    rw [show t-k=(t-(k+1))+1 by omega]
    simpa using h2
 intro t v h;obtain⟨_,h2⟩:=key vs 0 t v h;have hlt:t<vs.length:=(aD.1 h2).1;rw [Array.getElem?_append_left (by simpa using hlt)];simpa using h2
theorem Tri.mk{f:FuncId}{fn:Func}{c:Code}{n:Nat}{vs:LV}{Hc:Hp}{Pre:World->Prop}{R:Value->Hp->Prop}(hf:P.funcs[f]?=some fn)(hb:fn.body=some c)(hn:fn.ntmps=n)(hl:Nat.ble vs.length n=true)
  (h:∀ w,Pre w->SW P ⟨n,Hc.map Prod.fst,w,[]⟩ c (Fin P ⟨n,Hc.map Prod.fst,w,[]⟩ fn R) (aFQ vs 0) Hc):Tri P f vs Hc Pre R:=fun w ho hp=>by
 refine calls_of_wp hf hb ?_
 rw [hn]
 refine wp_mono (h w hp _ w (aDF vs n (fH hl)) (St.start ho)) fun e a w' ⟨A,H,hfit,hst,hq⟩=>?_
 cases e <;> first
  | exact hq.elim
  | exact (let ⟨v,Hc',s,hp,hR,hres⟩:=hq;⟨hfit.d,v,hres a w' hfit hst,v,Hc',rfl,(hst.perm hp).drop,hR⟩)
theorem Tri.mt{f:FuncId}{fn:Func}{c:Code}{n:Nat}{vs:LV}{Hc:Hp}{Pre:World->Prop}{R:Value->Hp->Prop}(hf:P.funcs[f]?=some fn)(hn:fn.ntmps=n)(h:∀ w,Pre w->SW P ⟨n,Hc.map Prod.fst,w,[]⟩ c (Fin P ⟨n,Hc.map Prod.fst,w,[]⟩ fn R) (aFQ vs 0) Hc)(hb:fn.body=some c:=by exact rfl)(hl:Nat.ble vs.length n=true:=by exact rfl):Tri P f vs Hc Pre R:=Tri.mk hf hb hn hl h
theorem Tri.mono{f:FuncId}{vs:LV}{Hc:Hp}{Pre:World->Prop}{R R':Value->Hp->Prop}(h:Tri P f vs Hc Pre R)(hr:∀ v H,R v H->R' v H):Tri P f vs Hc Pre R':=fun w ho hp=>
 (h w ho hp).mono fun e w' ⟨v,H',he,hst,hR⟩=>⟨v,H',he,hst,hr v H' hR⟩
theorem nT{ds:List Deferred}{n t:Nat}{a:Act}{v:Value}(hf:jS ds n A a)(h:lk A t=some v):a.tmps.getD t undef=v:=by have:=hf.t t v h;simp [jK,this]
section
variable {fn:Func}{R:Value->Hp->Prop}{e:Exit}(he:e=.ret\/e=.normal)
include he
theorem Fin.of{v:Value}{Hc s:Hp}(hp:H.Perm (Hc++s))(hR:R v Hc)(hr:∀ a w,jS C.ds C.n A a->St C.K C.w0 H w->(results fn a.tmps).run P w=.ok v w):Fin P C fn R e A H:=by rcases he with rfl|rfl <;> exact⟨v,Hc,s,hp,hR,hr⟩
theorem Fin.r0(hrs:fn.results=#[])(Hc:Hp){s:Hp} [hp:eY H Hc s](hR:R (.tuple #[]) Hc):Fin P C fn R e A H:=
 Fin.of he hp.perm hR fun a w _ _=>results_none hrs _ _ _
theorem Fin.r1{t:Nat}{v:Value}(hrs:fn.results=#[.tmp t])(ht:lk A t=some v)(Hc:Hp){s:Hp} [hp:eY H Hc s](hR:R v Hc):Fin P C fn R e A H:=
 Fin.of he hp.perm hR fun a w hf _=>by rw [results_tmp hrs,nT hf ht]
theorem Fin.r2{t u:Nat}{v v2:Value}(hrs:fn.results=#[.tmp t,.tmp u])(ht:lk A t=some v)(hu:lk A u=some v2)(Hc:Hp){s:Hp} [hp:eY H Hc s](hR:R (.tuple #[v,v2]) Hc):Fin P C fn R e A H:=
 Fin.of he hp.perm hR fun a w hf _=>by rw [results_tmp2 hrs,nT hf ht,nT hf hu]
theorem Fin.c1{t ty n b:Nat}{l:LV}{T:TypeId}(hrs:fn.results=#[.cell t ty])(ht:lk A t=some (.pointer (some ⟨b,0,none⟩))) [fB P ty n] [At H b (cl l T)](hn:l.length=n)(Hc:Hp){s:Hp} [hp:eY H Hc s](hR:R (.agg l.toArray) Hc):Fin P C fn R e A H:=
 Fin.of he hp.perm hR fun a w hf hs=>by
  have:=nO (P:=P) (w:=w) (t:=ty) (b:=b) (l:=l) (T:=T) (fz:=(0,0)) (r:=l) (i:=0) hs.at (by rw [<-hn];simp) hn
  have h2:=nT hf ht
  rw [jK] at h2
  simp [results,hrs,h2,asAddr,this]
theorem Fin.c1t1{t ty n b u:Nat}{l:LV}{T:TypeId}{v2:Value}(hrs:fn.results=#[.cell t ty,.tmp u])(ht:lk A t=some (.pointer (some ⟨b,0,none⟩)))(hu:lk A u=some v2) [fB P ty n] [At H b (cl l T)](hn:l.length=n)(Hc:Hp){s:Hp} [hp:eY H Hc s](hR:R (.tuple #[.agg l.toArray,v2]) Hc):Fin P C fn R e A H:=
 Fin.of he hp.perm hR fun a w hf hs=>by
  have:=nO (P:=P) (w:=w) (t:=ty) (b:=b) (l:=l) (T:=T) (fz:=(0,0)) (r:=l) (i:=0) hs.at (by rw [<-hn];simp) hn
  have h2:=nT hf ht
  rw [results_cell_tmp hrs,h2,nT hf hu]
  simp [asAddr,this]
end
end
instance(priority:=1500) eY.here (Hs r:Hp):eY (Hs++r) Hs r:=⟨.refl _⟩
instance(priority:=2000) eY.self (Hs:Hp):eY Hs Hs []:=⟨by simp⟩
instance eY.tail(x:Nat×Obj)(H Hs r:Hp) [h:eY H Hs r]:eY (x::H) Hs (x::r):=⟨(h.perm.cons x).trans gP.symm⟩
instance eY.appR(l H Hs r:Hp) [h:eY H Hs r]:eY (l++H) Hs (l++r):=⟨by
 refine (h.perm.append_left l).trans ?_
 rw [<-aT,<-aT]
 exact List.perm_append_comm.append_right r⟩
instance eY.appL(l H Hs r:Hp) [h:eY l Hs r]:eY (l++H) Hs (r++H):=⟨by rw [<-aT];exact h.perm.append_right H⟩
instance eY.two(H A B r r':Hp) [h1:eY H A r] [h2:eY r B r']:eY H (A++B) r':=⟨by rw [aT];exact h1.perm.trans (h2.perm.append_left A)⟩
section
variable {P:Program}{C:Ctx}{Q:Exit->Fr->Hp->Prop}{A:Fr}{H H':Hp}{L rest:List Oper}{o:Oper}
theorem tH{t:TypeId}{n:Nat}(h:(P.info? t).map (·.size)=some n):∃ i,P.info? t=some i/\i.size=n:=by
 cases hq:P.info? t with
 | none=>simp [hq] at h
 | some i=>exact⟨i,rfl,by simpa [hq] using h⟩
def eQ(P:Program)(w:World)(v:Value)(size m:Nat)(ys:LV):Prop:=
 ∀ w',w'.heap=w.heap->(Builtin.lenOf v).run P w'=.ok m w'/\(Builtin.firstCells size m v).run P w'=.ok ys.toArray w'
theorem eQ.empty(w:World)(a:Option Addr)(c size:Nat):eQ P w (.slice a 0 c) size 0 []:=fun w' _=>by
 refine⟨by simp [Builtin.lenOf],?_⟩
 cases a with
 | none=>simp [Builtin.firstCells]
 | some a=>simp [Builtin.firstCells,loadCells,loadCellsFrom]
theorem eQ.block{w:World}{b i m c size:Nat}{l ys:LV}{T:TypeId}{fz:Nat×Nat}(hb:w.heap[b]?=some (.cells l.toArray T fz))(hy:(l.drop i).take (m*size)=ys)(hl:ys.length=m*size) :
  eQ P w (.slice (some ⟨b,i,none⟩) m c) size m ys:=fun w' hw=>by
 refine⟨by simp [Builtin.lenOf],?_⟩
 refine run_firstCells_some (P:=P) w' size m ⟨b,i,none⟩ m c ys hl fun j v hj=>?_
 rw [lG,aEl (by rw [hw];exact hb),<-hj,<-hy,bD]
 have:j<m*size:=by have:=(aD.1 hj).1;omega
 simp [this]
def Sl(e n:Nat)(v:Value)(xs:LV)(Hs:Hp):Prop:=
 (v=.slice none 0 0/\xs=[]/\Hs=[]) \/
 ∃ b len cap junk,v=.slice (some ⟨b,0,none⟩) len cap/\xs.length=len*n/\len*n+junk.length=cap*n/\len<=cap/\Hs=[(b,cl (xs++junk) e)]
theorem Sl.nil(e n:Nat):Sl e n (.slice none 0 0) [] []:=.inl ⟨rfl,rfl,rfl⟩
theorem Sl.mk{e n b len cap:Nat}{xs junk:LV}(h1:xs.length=len*n)(h2:len*n+junk.length=cap*n)(h3:len<=cap):Sl e n (.slice (some ⟨b,0,none⟩) len cap) xs [(b,cl (xs++junk) e)]:=
 .inr ⟨b,len,cap,junk,rfl,h1,h2,h3,rfl⟩
theorem wG(xs ys junk:LV)(hj:ys.length<=junk.length):(xs++junk).take xs.length++ys++(xs++junk).drop (xs.length+ys.length)=xs++ys++junk.drop ys.length:=by
 rw [cT]
 ·congr 1;rw [<-cG,eR];rfl
 rfl
theorem oG{w:World}{t t2:TypeId}{ty e m sLen sCap:Nat}{base:Option Addr}{sv zv:Value}{xs ys:LV}{i:TypeInfo}(ht:P.underlying t=some (.slice e))(hi:P.info? e=some i)(hz:i.zero=some zv)(h2:pA P t2) (hl1:(Builtin.lenOf sv).run P w=.ok m w) (hf1:(Builtin.firstCells i.size sLen (.slice base sLen sCap)).run P w.drew=.ok xs.toArray w.drew) (hf2:(Builtin.firstCells i.size m sv).run P w.drew=.ok ys.toArray w.drew) (hg:sCap<sLen+m) (hbytes:(sLen+m)*i.bytes<=140737488355328) (h63:sLen+m<=9223372036854775807):(Builtin.append_ #[t,t2] ty #[.slice base sLen sCap,sv]).run P w=.ok (.slice (some ⟨w.heap.size,0,none⟩) (sLen+m) (grownCap w (sLen+m) sCap e)) (w.drew.alloc (cl (xs++ys++(Builtin.zeroCells zv.cells (grownCap w (sLen+m) sCap e-(sLen+m))).toList) e)):=by
 have hn:¬ (sLen+m<=sCap):=oQ;have h63':¬ (9223372036854775807<((sLen:Int)+(m:Int))):=oQ;have h48':¬ (281474976710656<Builtin.nextslicecap (sLen+m) sCap*i.bytes):=by have:=growslice_fits hg hbytes;omega
 rcases h2.ok with ⟨e2,he2⟩|he2;all_goals
  simp [Builtin.append_,run_underlying ht,run_underlying he2,sizeOf,typeInfo,zeroValue,hi,hz,hl1,hn,h63',h48',Question.forced,hf1,hf2,newRow,grownCap];congr 2;apply Array.ext';simp
theorem yL{w:World}{t t2:TypeId}{ty e m sLen sCap b:Nat}{sv:Value}{l ys:LV}{i:TypeInfo}{T:TypeId}(ht:P.underlying t=some (.slice e))(hi:P.info? e=some i)(h2:pA P t2) (hl1:(Builtin.lenOf sv).run P w=.ok m w) (hf2:(Builtin.firstCells i.size m sv).run P w=.ok ys.toArray w) (hys:ys.length=m*i.size) (hoc:OC ys) (hb:w.heap[b]?=some (cl l T)) (hg:sLen+m<=sCap) (hfit:sLen*i.size+ys.length<=l.length):(Builtin.append_ #[t,t2] ty #[.slice (some ⟨b,0,none⟩) sLen sCap,sv]).run P w=.ok (.slice (some ⟨b,0,none⟩) (sLen+m) sCap) (w.setRow b (l.take (sLen*i.size)++ys++l.drop (sLen*i.size+ys.length)).toArray):=by
 have hst:=run_storeCells_at P b (sLen*i.size) T ys 0 l.toArray w hb (by simpa using hfit) hoc.ok;simp only [jL] at hst;rcases h2.ok with ⟨e2,he2⟩|he2;all_goals
  simp [Builtin.append_,run_underlying ht,run_underlying he2,sizeOf,typeInfo,hi,hl1,hg,hf2,lG,hst]
theorem xK{a b n c:Nat}(hn:0<n)(h:a*n*b<=c*n):a*b<=c:=by
 have e1:a*n*b=a*b*n:=by rw [pM,lF n,<-pM]
 rw [e1] at h;exact Nat.le_of_mul_le_mul_right h hn
theorem aC2{w:World}{K:List Nat}{w0:World}{t t2 e n bytes m:Nat}{ty:TypeId}{v sv:Value}{xs ys z:LV}{Hs r:Hp} [ht:cC P t e n] [hb:fQ P e bytes] [hz:cK P e z] [h2:pA P t2] (hzn:z.length=n) (hv:Sl e n v xs Hs) (hs:St K w0 (Hs++r) w) (hsrc:eQ P w sv n m ys) (hys:ys.length=m*n) (hoc:OC ys) (hn:0<n) (hbytes:(xs.length+ys.length)*bytes<=140737488355328*n) (hb1:1<=bytes):∃ v' w' Hs',(Builtin.append_ #[t,t2] ty #[v,sv]).run P w=.ok v' w'/\Sl e n v' (xs++ys) Hs'/\St K w0 (Hs'++r) w':=by
 obtain⟨i,hi,hisz⟩:=tH ht.size;have hby:i.bytes=bytes:=by have:=hb.ok;simpa [hi] using this
 obtain⟨zv,hzv,hzc⟩:=hz.ok;have hzi:i.zero=some zv:=by simpa [hi] using hzv
 have hzl:zv.cells.size=n:=by rw [hzc];simpa using hzn
 have hl1:=(hsrc w rfl).1;subst hisz hby;rcases hv with ⟨rfl,rfl,rfl⟩|⟨b,len,cap,junk,rfl,hx,hj,hlc,rfl⟩
 ·by_cases hm:m=0
  ·subst hm;have hy0:ys=[]:=by simpa using hys
   subst hy0;refine⟨.slice none 0 0,w,[],?_,.inl ⟨rfl,rfl,rfl⟩,hs⟩;have hf:=(hsrc w rfl).2;rcases h2.ok with ⟨e2,he2⟩|he2;all_goals simp [Builtin.append_,run_underlying ht.ok,run_underlying he2,sizeOf,typeInfo,hi,hl1,hf]
  have hmb:(0+m)*i.bytes<=140737488355328:=by refine xK hn ?_;simpa [hys] using hbytes
  have hm63:0+m<=9223372036854775807:=by have:(0+m)*1<=(0+m)*i.bytes:=iK _ hb1;omega
  have hrun:=oG (P:=P) (w:=w) (ty:=ty) (sLen:=0) (sCap:=0) (base:=none) (xs:=[]) ht.ok hi hzi h2 hl1 (by simp [Builtin.firstCells]) (hsrc w.drew rfl).2 oQ hmb hm63;refine⟨_,_,[(w.heap.size,_)],hrun,?_,hs.drew.alloc _⟩;have hge:=grownCap_ge w (0+m) 0 e;exact .inr ⟨w.heap.size,0+m,grownCap w (0+m) 0 e,(Builtin.zeroCells zv.cells (grownCap w (0+m) 0 e-(0+m))).toList,rfl,by simpa using hys,by rw [gU,size_zeroCells,hzl,<-Nat.add_mul];congr 1;omega,hge,rfl⟩
 have hbe:w.heap[b]?=some (cl (xs++junk) e):=hs.own b _ (by simp);have hle:len*i.size<=cap*i.size:=dC _ hlc;by_cases hg:len+m<=cap
 ·have hfit:len*i.size+ys.length<=(xs++junk).length:=by have:(len+m)*i.size<=cap*i.size:=dC _ hg;rw [Nat.add_mul] at this;rw [aB,hx,hys];omega
  have hrun:=yL (P:=P) (w:=w) (ty:=ty) (sLen:=len) (sCap:=cap) (b:=b) ht.ok hi h2 hl1 (hsrc w rfl).2 hys hoc hbe hg hfit;have hyj:ys.length<=junk.length:=by rw [aB,hx] at hfit;omega
  rw [<-hx,wG xs ys junk hyj] at hrun;refine⟨_,_,[(b,cl (xs++ys++junk.drop ys.length) e)],hrun,.inr ⟨b,len+m,cap,junk.drop ys.length,rfl,by rw [aB,hx,hys,Nat.add_mul],?_,hg,rfl⟩,?_⟩
  ·rw [bG,Nat.add_mul,hys];rw [hys] at hyj;omega
  exact hs.setRow (l:=xs++junk) (T:=e)
 have hbb:(len+m)*i.bytes<=140737488355328:=by refine xK hn ?_;rw [hx,hys,<-Nat.add_mul] at hbytes;exact hbytes
 have hm63:len+m<=9223372036854775807:=by have:(len+m)*1<=(len+m)*i.bytes:=iK _ hb1;omega
 have hold:(Builtin.firstCells i.size len (.slice (some ⟨b,0,none⟩) len cap)).run P w.drew=.ok xs.toArray w.drew:=by refine ((eQ.block (P:=P) (w:=w.drew) (i:=0) (m:=len) (c:=cap) (size:=i.size) (ys:=xs) hbe ?_ hx) w.drew rfl).2;rw [bQ,<-hx,cT];rfl
 have hrun:=oG (P:=P) (w:=w) (ty:=ty) (sLen:=len) (sCap:=cap) (base:=some ⟨b,0,none⟩) (xs:=xs) ht.ok hi hzi h2 hl1 hold (hsrc w.drew rfl).2 oQ hbb hm63;refine⟨_,_,[(w.heap.size,cl (xs++ys++(Builtin.zeroCells zv.cells (grownCap w (len+m) cap e-(len+m))).toList) e)],hrun,?_,?_⟩
 ·have hge:=grownCap_ge w (len+m) cap e;exact .inr ⟨w.heap.size,len+m,grownCap w (len+m) cap e,(Builtin.zeroCells zv.cells (grownCap w (len+m) cap e-(len+m))).toList,rfl,by rw [aB,hx,hys,Nat.add_mul],by rw [gU,size_zeroCells,hzl,<-Nat.add_mul];congr 1;omega,hge,rfl⟩
 have hs2:St K w0 r w:=(hs.perm (H':=r++[(b,cl (xs++junk) e)]) (cA (l₁:=[(b,cl (xs++junk) e)]))).drop;exact hs2.drew.alloc _
end
section
variable {P:Program}{C:Ctx}{Q:Exit->Fr->Hp->Prop}{A:Fr}{H H':Hp}{L rest:List Oper}{o:Oper}
theorem SL.append{t t2 e n bytes m:Nat}{x y:Operand}{v sv:Value}{xs ys z:LV}(Hs:Hp){r:Hp}(ho:o.op=.call { callee:=.builtin .append,args:=#[x,y],argTypes:=#[t,t2] })(hg:gd L A o=some true){d:Option Nat}(hd:dk C.n o.dst=some d)(hx:ev A x=some v)(hy:ev A y=some sv)
  [ht:cC P t e n] [hb:fQ P e bytes] [hz:cK P e z] [h2:pA P t2] [hp:eY H Hs r]
  (hv:Sl e n v xs Hs) (hsrc:∀ w,St C.K C.w0 H w->eQ P w sv n m ys) (hys:ys.length=m*n) [hoc:OC ys] (hzn:z.length=n) (hn:0<n) (hb1:1<=bytes) (hbytes:(xs.length+ys.length)*bytes<=140737488355328*n)
  (hk:∀ v' Hs',Sl e n v' (xs++ys) Hs'->SL P C L Q rest (pt A d v') (Hs'++r)):SL P C L Q (o::rest) A H:=
 mY hg hd fun a w hf hs=>by
  obtain⟨v',w',Hs',hrun,hv',hst⟩:=aC2 (P:=P) (t:=t) (t2:=t2) (ty:=o.type) hzn hv (hs.perm hp.perm) (hsrc w hs) hys hoc hn hbytes hb1
  exact⟨v',w',Hs'++r,.inl (by unfold execOp;rw [ho];simp [resolve,invoke,builtin,hf.eval hx,hf.eval hy,hrun]),hst,hk v' Hs' hv'⟩
theorem qF{t e n:Nat}{x:Operand}{b:Option Addr}{len cap:Nat}(ho:o.op=.call { callee:=.builtin .len,args:=#[x],argTypes:=#[t] })(hx:ev A x=some (.slice b len cap)) [ht:cC P t e n]:Pu P C A H o (.int .i64 len):=fun a w hf _=>by
 unfold execOp;rw [ho];simp [resolve,invoke,builtin,hf.eval hx,Builtin.len_,run_underlying ht.ok,goInt]
theorem tO{t:Nat}{x:Operand}{s:ByteArray}(ho:o.op=.call { callee:=.builtin .len,args:=#[x],argTypes:=#[t] })(hx:ev A x=some (.string s)) [ht:zX P t]:Pu P C A H o (.int .i64 s.size):=fun a w hf _=>by
 unfold execOp;rw [ho];simp [resolve,invoke,builtin,hf.eval hx,Builtin.len_,run_underlying ht.ok,goInt]
theorem tN{t n e sz:Nat}{x:Operand}{v:Value}(ho:o.op=.call { callee:=.builtin .len,args:=#[x],argTypes:=#[t] })(hx:ev A x=some v) [ht:kP P t n e sz]:Pu P C A H o (.int .i64 n):=fun a w hf _=>by
 unfold execOp;rw [ho];simp [resolve,invoke,builtin,hf.eval hx,Builtin.len_,run_underlying ht.ok,goInt]
theorem qE{t e n:Nat}{x:Operand}{b:Option Addr}{len cap:Nat}(ho:o.op=.call { callee:=.builtin .cap,args:=#[x],argTypes:=#[t] })(hx:ev A x=some (.slice b len cap)) [ht:cC P t e n]:Pu P C A H o (.int .i64 cap):=fun a w hf _=>by
 unfold execOp;rw [ho];simp [resolve,invoke,builtin,hf.eval hx,Builtin.cap_,run_underlying ht.ok,goInt]
theorem aGg{ats:Array TypeId}{x y:Operand}{k:IntKind}{m n r:Int}(ho:o.op=.call { callee:=.builtin .min,args:=#[x,y],argTypes:=ats })(hx:ev A x=some (.int k m))(hy:ev A y=some (.int k n))(hr:min m n=r):Pu P C A H o (.int k r):=fun a w hf _=>by
 have:(if n<m then n else m)=r:=by rw [<-hr];split <;> omega
 unfold execOp;rw [ho];simp [resolve,invoke,builtin,hf.eval hx,hf.eval hy,Builtin.min_,Builtin.min2,this]
theorem aGf{ats:Array TypeId}{x y:Operand}{k:IntKind}{m n r:Int}(ho:o.op=.call { callee:=.builtin .max,args:=#[x,y],argTypes:=ats })(hx:ev A x=some (.int k m))(hy:ev A y=some (.int k n))(hr:max m n=r):Pu P C A H o (.int k r):=fun a w hf _=>by
 have:(if m<n then n else m)=r:=by rw [<-hr];split <;> omega
 unfold execOp;rw [ho];simp [resolve,invoke,builtin,hf.eval hx,hf.eval hy,Builtin.max_,Builtin.max2,this]
theorem aKJ{t t':Nat}{x:Operand}{k k2:IntKind}{m r:Int}(ho:o.op=.convert t t' x)(hx:ev A x=some (.int k m))(h1:∃ d,P.underlying t=some d)(h2:P.underlying t'=some (.int k2))(hr:k2.wrap m=r):Pu P C A H o (.int k2 r):=fun a w hf _=>by
 obtain⟨d,hd⟩:=h1
 unfold execOp;rw [ho];simp [hf.eval hx,convert,run_underlying hd,run_underlying h2,Conv.intToInt,hr]
theorem rO{f:Fn}{xs ys:Array Operand}{vs us:LV}(ho:o.op=.makeFunc f xs ys)(hx:evs A xs.toList=some vs)(hy:evs A ys.toList=some us):Pu P C A H o (.func f vs.toArray us.toArray):=fun a w hf _=>by
 have h1:(xs.map a.eval)=vs.toArray:=by have:=hf.evals hx;apply Array.ext';simpa using this
 have h2:(ys.map a.eval)=us.toArray:=by have:=hf.evals hy;apply Array.ext';simpa using this
 unfold execOp;rw [ho];simp only [Instr.makeFunc,h1,h2,Sem.run_bind,Sem.run_pure,Result.andThen_ok]
def zs(z:LV)(n:Nat):LV:=(List.replicate n z).flatten
theorem aBx(z:LV)(n:Nat):(zs z n).length=n*z.length:=by simp [zs]
theorem lJ(v:Value)(n:Nat):zs [v] n=List.replicate n v:=by
 induction n with
 | zero=>rfl
 | succ n ih=>simp only [zs,fI,eU] at ih |-;rw [ih];rfl
theorem aLA(z:LV):∀ (n i:Nat),i<n*z.length->(zs z n)[i]?=z[i%z.length]?
 | 0,i,h=>by simp at h
 | n+1,i,h=>by
  have e:zs z (n+1)=z++zs z n:=by simp [zs,fI]
  rw [e];by_cases hi:i<z.length
  ·rw [aJ hi,dK hi]
  rw [aV oQ,aLA z n (i-z.length) (by rw [Nat.add_mul] at h;omega)];congr 1;rw [Nat.mod_eq_sub_mod (Nat.le_of_not_lt hi)]
theorem aAl(z:LV)(n:Nat)(hz:0<z.length):madeCells z.toArray (n*z.length)=(zs z n).toArray:=by
 apply Array.ext';apply cM;intro i;simp only [madeCells,Array.toList_map,Array.toList_range,aL];by_cases hi:i<n*z.length
 ·have hm:i%z.length<z.length:=Nat.mod_lt _ hz;rw [eI hi,aLA z n i hi];simp [hm]
 rw [bF (by simpa using hi),bF (by simpa [aBx] using hi)];rfl
theorem SL.make{t e n bytes:Nat}{x y:Operand}{kl kc:IntKind}{l c:Nat}{li ci:Int}{z:LV}(ho:o.op=.makeSlice t x y)(hg:gd L A o=some true){d:Option Nat}(hd:dk C.n o.dst=some d)(hx:ev A x=some (.int kl li))(hy:ev A y=some (.int kc ci)) [ht:cC P t e n] [hb:fQ P e bytes] [hz:cK P e z](hl:li=l)(hc:ci=c)(hzn:z.length=n)(hn:0<n)(hlc:l<=c)(hbytes:bytes*c<=281474976710656)(hb1:1<=bytes)
  (hk:∀ b,SL P C L Q rest (pt A d (.slice (some ⟨b,0,none⟩) l c)) ((b,cl (zs z c) e)::H)):SL P C L Q (o::rest) A H:=
 mY hg hd fun a w hf hs=>by
  subst hl hc
  obtain⟨i,hi,hisz⟩:=tH ht.size
  have hby:i.bytes=bytes:=by have:=hb.ok;simpa [hi] using this
  obtain⟨zv,hzv,hzc⟩:=hz.ok
  have hzi:i.zero=some zv:=by simpa [hi] using hzv
  have hcb:c<=281474976710656:=cZ (Nat.le_mul_of_pos_left c hb1) hbytes
  have hrun:=run_make (P:=P) w t e i zv ht.ok hi hzi kl kc (l:Int) (c:Int) oQ oQ (by rw [hby];have h:=zP.2 hbytes;rw [qO] at h;exact h) oQ
  have hm:madeCells zv.cells ((c:Int).toNat*i.size)=(zs z c).toArray:=by
   rw [hzc,hisz,<-hzn,aS]
   exact aAl z c (by rw [hzn];exact hn)
  rw [hm] at hrun
  simp only [aS] at hrun
  exact⟨_,_,_,.inl (by unfold execOp;rw [ho];simp [hf.eval hx,hf.eval hy,hrun]),hs.alloc _,hk w.heap.size⟩
def lI(a:Option Addr)(cap l n:Nat):Option Addr:=if cap=l then a else a.map (·.add (l*n))
theorem oF{t e n len cap l h:Nat}{x:Operand}{lo hi:Option Operand}{a:Option Addr}{vl vh:Option Value}(ho:o.op=.slice t x lo hi none)(hx:ev A x=some (.slice a len cap)) [ht:cC P t e n]
  (hl:lo=none/\l=0\/∃ y k i,lo=some y/\ev A y=some (.int k i)/\i=(l:Int)) (hh:hi=none/\h=len\/∃ y k i,hi=some y/\ev A y=some (.int k i)/\i=(h:Int)) (h1:l<=h) (h2:h<=cap) :
  Pu P C A H o (.slice (lI a cap l n) (h-l) (cap-l)):=fun ac w hf _=>by
 unfold execOp;rw [ho]
 rcases hl with ⟨rfl,rfl⟩|⟨y,k,i,rfl,hy,rfl⟩ <;> rcases hh with ⟨rfl,rfl⟩|⟨y2,k2,i2,rfl,hy2,rfl⟩
 ·simp [hf.eval hx,Instr.sliceAt,run_underlying ht.ok,Instr.slice,Instr.sliceBounds,eL ht.size,lI]
 ·simp [hf.eval hx,hf.eval hy2,Instr.sliceAt,run_underlying ht.ok,Instr.slice,Instr.sliceBounds,Instr.sliceBound,asIntOf,h2,eL ht.size,lI]
 ·simp [hf.eval hx,hf.eval hy,Instr.sliceAt,run_underlying ht.ok,Instr.slice,Instr.sliceBounds,Instr.sliceBound,asIntOf,h1,eL ht.size,lI]
 ·simp [hf.eval hx,hf.eval hy,hf.eval hy2,Instr.sliceAt,run_underlying ht.ok,Instr.slice,Instr.sliceBounds,Instr.sliceBound,asIntOf,h1,h2,eL ht.size,lI]
theorem sI{t e n len l h b j:Nat}{x:Operand}{lo hi:Option Operand}(ho:o.op=.slice t x lo hi none)(hx:ev A x=some (.pointer (some ⟨b,j,none⟩))) [ht:kP P t len e n]
  (hl:lo=none/\l=0\/∃ y k i,lo=some y/\ev A y=some (.int k i)/\i=(l:Int)) (hh:hi=none/\h=len\/∃ y k i,hi=some y/\ev A y=some (.int k i)/\i=(h:Int)) (h1:l<=h) (h2:h<=len) :
  Pu P C A H o (.slice (some (if len=l then ⟨b,j,none⟩ else ⟨b,j+l*n,none⟩)) (h-l) (len-l)):=fun ac w hf _=>by
 unfold execOp;rw [ho]
 rcases hl with ⟨rfl,rfl⟩|⟨y,k,i,rfl,hy,rfl⟩ <;> rcases hh with ⟨rfl,rfl⟩|⟨y2,k2,i2,rfl,hy2,rfl⟩
 ·simp [hf.eval hx,Instr.sliceAt,run_underlying ht.ok,Instr.sureAddr,Instr.sliceBounds,eL ht.size,lG]
 ·simp [hf.eval hx,hf.eval hy2,Instr.sliceAt,run_underlying ht.ok,Instr.sureAddr,Instr.sliceBounds,Instr.sliceBound,asIntOf,h2,eL ht.size,lG]
 ·simp [hf.eval hx,hf.eval hy,Instr.sliceAt,run_underlying ht.ok,Instr.sureAddr,Instr.sliceBounds,Instr.sliceBound,asIntOf,h1,eL ht.size,lG]
 ·simp [hf.eval hx,hf.eval hy,hf.eval hy2,Instr.sliceAt,run_underlying ht.ok,Instr.sureAddr,Instr.sliceBounds,Instr.sliceBound,asIntOf,h1,h2,eL ht.size,lG]
theorem zS{t t2 e n m b j len cap:Nat}{x y:Operand}{sv:Value}{l ys:LV}{T:TypeId}(ho:o.op=.call { callee:=.builtin .copy,args:=#[x,y],argTypes:=#[t,t2] })(hg:gd L A o=some true){d:Option Nat}(hd:dk C.n o.dst=some d)(hx:ev A x=some (.slice (some ⟨b,j,none⟩) len cap))(hy:ev A y=some sv) [ht:cC P t e n] [At H b (cl l T)]
  (hsrc:∀ w,St C.K C.w0 H w->(Builtin.lenOf sv).run P w=.ok m w/\(Builtin.firstCells n (Nat.min m len) sv).run P w=.ok ys.toArray w) [hoc:OC ys] (hfit:j+ys.length<=l.length) {l':LV} (hl:l.take j++ys++l.drop (j+ys.length)=l') [Upd H b (cl l' T) H']
  (hk:SL P C L Q rest (pt A d (.int .i64 (Nat.min m len))) H'):SL P C L Q (o::rest) A H:=
 mY hg hd fun a w hf hs=>by
  subst hl
  obtain⟨h1,h2⟩:=hsrc w hs
  have hst:=run_storeCells_at P b j T ys 0 l.toArray w hs.at (by simpa using hfit) hoc.ok
  simp only [jL] at hst
  refine⟨_,_,H',.inl ?_,hs.setRow (b:=b) (l:=l) (l':=l.take j++ys++l.drop (j+ys.length)) (T:=T),hk⟩
  unfold execOp;rw [ho]
  simp only [List.map_toArray,eE,mO,resolve,invoke,builtin,hf.eval hx,hf.eval hy,Builtin.copy_,Sem.run_bind,Sem.run_pure,Result.andThen_ok,List.getElem?_toArray,jF,List.getElem?_cons_succ,run_underlying ht.ok,h1,eL ht.size,h2,hst,goInt]
def vl:Value->LV
 | .agg cs=>cs.toList
 | v=>[v]
def bV(pl:Nat->Option (Nat×Nat)):LV->List (Nat×Value)->Option LV
 | z,[]=>some z
 | z,(i,v)::r=>
  match pl i with
  | none=>none
  | some (off,n)=>if (vl v).length=n/\off+n<=z.length then bV pl (z.take off++vl v++z.drop (off+n)) r else none
theorem aIQ(cs:LV):∀ (k:Nat) (z:LV),k+cs.length<=z.length -> ((cs.zipIdx).foldl (fun (a:Array Value) (p:Value×Nat)=>a.setIfInBounds (k+p.2) p.1) z.toArray)=(z.take k++cs++z.drop (k+cs.length)).toArray:=by
 have key:∀ (cs:LV) (k s:Nat) (z:LV),k+s+cs.length<=z.length ->
   ((cs.zipIdx s).foldl (fun (a:Array Value) (p:Value×Nat)=>a.setIfInBounds (k+p.2) p.1) z.toArray)=(z.take (k+s)++cs++z.drop (k+s+cs.length)).toArray:=by
  intro cs
  induction cs with
  | nil=>intro k s z h;simp
  | cons c r ih=>
   intro k s z h
   simp only [List.zipIdx_cons,fC,List.setIfInBounds_toArray]
   have:=ih k (s+1) (z.set (k+s) c) (by simp at h |-;omega)
   rw [this]
   congr 1
   have h2:=list_seg_step z (k+s) c r (by simp at h;omega)
   rw [show k+(s+1)=k+s+1 by omega,show k+s+(c::r).length=k+s+(r.length+1) by simp]
   exact h2
 intro k z h;exact key cs k 0 z (by simpa using h)
theorem aBT(pl:Nat->Option (Nat×Nat)):∀ (ps:List (Nat×Value)) (z r:LV),bV pl z ps=some r->Instr.fill pl z.toArray ps=some r.toArray
 | [],z,r,h=>by simp [bV] at h;simp [Instr.fill,h]
 | (i,v)::ps,z,r,h=>by
  simp only [bV] at h;simp only [Instr.fill];have hc:v.cells=(vl v).toArray:=by cases v <;> simp [Value.cells,vl]
  cases hp:pl i with
  | none=>simp [hp] at h
  | some q=>
   obtain⟨off,n⟩:=q
   simp only [hp] at h
   split at h
   ·rename_i hcond
    have hcond2:¬ (v.cells.size≠n\/off+v.cells.size>z.toArray.size):=by rw [hc];simp;omega
    simp only [hcond2]
    have:=aIQ (vl v) off z oQ
    rw [hc]
    have e:Array.foldl (fun (cs:Array Value) (x:Value×Nat)=>cs.setIfInBounds (off+x.2) x.1) z.toArray (vl v).toArray.zipIdx=((vl v).zipIdx).foldl (fun (a:Array Value) (p:Value×Nat)=>a.setIfInBounds (off+p.2) p.1) z.toArray:=by
     rw [<-Array.foldl_toList];simp
    have h3:=aBT pl ps (z.take off++vl v++z.drop (off+(vl v).length)) r (by rw [hcond.1];exact h)
    rw [<-this] at h3
    simpa [hcond.1,hcond.2] using h3
   ·cases h
def evp(A:Fr):List (Nat×Operand)->Option (List (Nat×Value))
 | []=>some []
 | (i,x)::r=>match ev A x,evp A r with
  | some v,some vs=>some ((i,v)::vs)
  | _,_=>none
theorem jS.evalp{ds:List Deferred}{n:Nat}{a:Act}(h:jS ds n A a):∀ {xs:List (Nat×Operand)} {vs:List (Nat×Value)},evp A xs=some vs->xs.map (fun (i,x)=>(i,a.eval x))=vs
 | [],vs,hx=>by simp [evp] at hx;simp [hx]
 | (i,x)::r,vs,hx=>by
  simp only [evp] at hx;cases h1:ev A x with
  | none=>simp [h1] at hx
  | some v=>
   cases h2:evp A r with
   | none=>simp [h1,h2] at hx
   | some us=>
    simp [h1,h2] at hx
    subst hx
    simp [h.eval h1,jS.evalp h h2]
theorem yN{J D:Type}(g:J->Sem D)(w:World):∀ (l:List J) (r:List D),(∀ (i:Nat) (x:J),l[i]?=some x->∃ y,r[i]?=some y/\(g x).run P w=.ok y w)->l.length=r.length->(l.mapM g).run P w=.ok r w
 | [],[],_,_=>by simp
 | [],_::_,_,h=>by simp at h
 | _::_,[],_,h=>by simp at h
 | x::l,y::r,h,hl=>by obtain⟨y',hy,hx⟩:=h 0 x (by simp);simp at hy;subst hy;have ih:=yN g w l r (fun i x hx=>by have:=h (i+1) x (by simpa using hx);simpa using this) (by simpa using hl);simp only [List.mapM_cons,Sem.run_bind,hx,Result.andThen_ok,ih,Sem.run_pure]
theorem aHm{fs:Array Field}{pl:List (Nat×Nat)}(h:fs.toList.map (fun f=>((P.info? f.type).map (·.size)).map fun n=>(f.offset,n))=pl.map some)(w:World):(fs.mapM (fun f=>do pure (f.offset,<-sizeOf f.type)):Sem (Array (Nat×Nat))).run P w=.ok pl.toArray w:=by
 rw [Array.mapM_eq_mapM_toList,Sem.run_map];have hl:fs.toList.length=pl.length:=by have:=congrArg List.length h;simpa using this
 rw [yN (P:=P) _ w fs.toList pl (fun i f hf=>?_) hl]
 ·rfl
 have hi:(fs.toList.map (fun f=>((P.info? f.type).map (·.size)).map fun n=>(f.offset,n)))[i]?=(pl.map some)[i]?:=by rw [h]
 rw [aL,aL,hf] at hi;cases hp:pl[i]? with
 | none=>rw [hp] at hi;simp at hi
 | some q=>
  refine⟨q,rfl,?_⟩
  rw [hp] at hi
  simp only [Option.map_some,cR] at hi
  cases hq:(P.info? f.type).map (·.size) with
  | none=>rw [hq] at hi;simp at hi
  | some n=>
   rw [hq] at hi
   simp at hi
   subst hi
   simp [eL hq]
theorem pQ{t:TypeId}{ps:Array (Nat×Operand)}{vs:List (Nat×Value)}{pl:List (Nat×Nat)}{z r:LV}(ho:o.op=.build t ps)(hp:evp A ps.toList=some vs) [h:dL P t pl] [hz:cK P t z](hr:bV (fun i=>pl[i]?) z vs=some r):Pu P C A H o (.agg r.toArray):=fun a w hf _=>by
 obtain⟨fs,hu,hpl⟩:=h.ok
 obtain⟨zv,hzv,hzc⟩:=hz.ok
 have he:ps.map (fun (i,x)=>(i,a.eval x))=vs.toArray:=by have:=hf.evalp hp;apply Array.ext';simpa using this
 have hfill:=aBT (fun i=>pl[i]?) vs z r hr
 have hfill2:Instr.fill (fun i=>pl.toArray[i]?) z.toArray vs=some r.toArray:=by simpa using hfill
 unfold execOp;rw [ho]
 simp only [Instr.build,Sem.run_bind,lS hzv,Result.andThen_ok,run_underlying hu,aHm hpl,hzc,he,hfill2,Sem.run_pure]
theorem nS{t len e n:Nat}{ps:Array (Nat×Operand)}{vs:List (Nat×Value)}{z r:LV}(ho:o.op=.build t ps)(hp:evp A ps.toList=some vs) [h:kP P t len e n] [hz:cK P t z](hr:bV (fun i=>some (i*n,n)) z vs=some r):Pu P C A H o (.agg r.toArray):=fun a w hf _=>by
 obtain⟨zv,hzv,hzc⟩:=hz.ok
 have he:ps.map (fun (i,x)=>(i,a.eval x))=vs.toArray:=by have:=hf.evalp hp;apply Array.ext';simpa using this
 have hfill:=aBT (fun i=>some (i*n,n)) vs z r hr
 unfold execOp;rw [ho]
 simp [Instr.build,lS hzv,run_underlying h.ok,eL h.size,hzc,he,hfill]
theorem iE{t e n len:Nat}{ps:Array (Nat×Operand)}{vs:List (Nat×Value)}{z r:LV}(ho:o.op=.buildSlice t len ps)(hg:gd L A o=some true){d:Option Nat}(hd:dk C.n o.dst=some d)(hp:evp A ps.toList=some vs) [h:cC P t e n] [hz:cK P e z](hzn:z.length=n)(hn:0<n)
  (hr:bV (fun i=>some (i*n,n)) (zs z len) vs=some r) (hsm:len*n<=16777216) (hk:∀ b,SL P C L Q rest (pt A d (.slice (some ⟨b,0,none⟩) len len)) ((b,cl r e)::H)):SL P C L Q (o::rest) A H:=
 mY hg hd fun a w hf hs=>by
  obtain⟨zv,hzv,hzc⟩:=hz.ok
  have he:ps.map (fun (i,x)=>(i,a.eval x))=vs.toArray:=by have:=hf.evalp hp;apply Array.ext';simpa using this
  have hfill:=aBT (fun i=>some (i*n,n)) vs (zs z len) r hr
  have hm:=aAl z len (by rw [hzn];exact hn)
  rw [hzn] at hm
  have hsm':¬ (16777216<len*n):=oQ
  refine⟨_,_,_,.inl ?_,hs.alloc _,hk w.heap.size⟩
  unfold execOp;rw [ho]
  by_cases h0:len*n=0
  ·have hl0:len=0:=by rcases qQ.1 h0 with h|h <;> omega
   subst hl0
   have hz0:zs z 0=[]:=rfl
   rw [hz0] at hfill
   have hr0:Array.range 0=#[]:=rfl
   simp [Instr.buildSlice,run_underlying h.ok,eL h.size,newRow,he,hr0,hfill]
  ·simp [Instr.buildSlice,run_underlying h.ok,eL h.size,hsm',h0,lS hzv,hzc,newRow,he]
   have hm2:Array.map (fun (x:Nat)=>z[x%z.length]?.getD default) (Array.range (len*n))=(zs z len).toArray:=by
    rw [<-hm];unfold madeCells;simp
   rw [hm2,hfill]
   simp
end
def xU(P:Program)(ops:Array Oper)(Q:Exit->Act->World->Prop)(S:World->Prop)(t:Nat):Nat->Array Bool->Act->World->Prop
 | 0,listed,a,w=>Region.ready .any ops listed=[]/\Q .normal a w
 | f+1,listed,a,w=>(Region.ready .any ops listed=[]->Q .normal a w) /\
  ∀ i∈Region.ready .any ops listed,wpOp P ops Q i (fun a' w'=>(i=t\/S w')/\xU P ops Q S t f (listed.setIfInBounds i true) a' w') a w
theorem xU.any{P:Program}{ops:Array Oper}{Q:Exit->Act->World->Prop}{S:World->Prop}{t:Nat}:∀ (f:Nat) (listed:Array Bool) (a:Act) (w:World),xU P ops Q S t f listed a w->wpAny P .any ops Q f listed a w
 | 0,_,_,_,h=>h
 | f+1,_,_,_,h=>⟨h.1,fun i hi=>wpOp_mono (fun a' w' h'=>xU.any f _ a' w' h'.2) (h.2 i hi)⟩
def xF(ops:Array Oper)(t i:Nat):Bool:=
 match ops[t]? with
 | none=>true
 | some o=>o.after.any fun e=>Region.binds .any e&&Nat.beq e.on i
theorem aKB{ops:Array Oper}{listed:Array Bool}{t i:Nat}(hw:xF ops t i=true)(hi:listed.getD i false=false)(hj:t∈Region.ready .any ops listed):False:=by obtain⟨_,o,ho,hall⟩:=mem_ready.1 hj;unfold xF at hw;rw [ho] at hw;obtain⟨e,he,hb⟩:=Array.any_eq_true'.1 hw;simp only [bR] at hb;have:=hall e he hb.1;rw [jY hb.2,hi] at this;cases this
theorem xU.first{P:Program}{ops:Array Oper}{Q:Exit->Act->World->Prop}{S:World->Prop}{t i:Nat}{oi:Oper}{v:Value}(hi:ops[i]?=some oi)(hsel:∀ (j:Nat) (o:Oper) cs b,ops[j]?=some o->o.op≠.select cs b) (hw:xF ops t i=true) (hQ:∀ c a w,Q (.panic c) (a.put oi.dst v) w->Q (.panic c) a w):∀ (f:Nat) (listed:Array Bool) (a:Act) (w:World), (∀ j oj,ops[j]?=some oj->j≠i->listed.getD j true=false->(∀ e∈oj.after,Region.binds .any e=true->e.on≠i)->oi.apart ops oj=true) -> i∈Region.ready .any ops listed->YieldsIf P ops S oi v a->S w -> xU P ops Q S t f (listed.setIfInBounds i true) (a.put oi.dst v) w->xU P ops Q S t (f+1) listed a w:=by
 intro f;induction f with
 | zero=>
  intro listed a w _ hr hy hS h
  refine⟨fun h0=>absurd hr (by rw [h0];exact dJ),fun j hj=>?_⟩
  rcases Decidable.em (j=i) with rfl|hne
  ·exact hy.wpOp hi hS ⟨.inr hS,h⟩
  ·have:=ready_mono hj hne
   rw [h.1] at this
   exact absurd this dJ
 | succ f ih=>
  intro listed a w hfree hr hy hS h
  have hui:=(mem_ready.1 hr).1
  refine⟨fun h0=>absurd hr (by rw [h0];exact dJ),fun j hj=>?_⟩
  rcases Decidable.em (j=i) with rfl|hne
  ·exact hy.wpOp hi hS ⟨.inr hS,h⟩
  ·obtain⟨huj,oj,hoj,hpre⟩:=mem_ready.1 hj
   have hif:listed.getD i false=false:=getD_both hui
   have hjt:j≠t:=fun e=>aKB hw hif (e▸hj)
   have hno:∀ e∈oj.after,Region.binds .any e=true->e.on≠i:=fun e he hb heq=>by
    have:=hpre e he hb
    rw [heq,hif] at this
    cases this
   have h1:=wpOp_putIf hoj (hfree j oj hoj hne huj hno) (fun cs b=>hsel i oi cs b hi) (fun cs b=>hsel j oj cs b hoj) hQ hy (h.2 j (ready_mono hj hne))
   refine wpOp_mono (fun a' w' ⟨hy',hS',hrest⟩=>?_) h1
   have hSw:S w':=hS'.resolve_left hjt
   refine⟨.inr hSw,ih _ a' w' (fun k ok hk hki hun hn=>hfree k ok hk hki ?_ hn) (ready_mono hr (Ne.symm hne)) hy' hSw (by rw [nB _ _ hne];exact hrest)⟩
   rcases Decidable.em (j=k) with rfl|hjk
   ·exact huj
   ·rwa [getD_set_ne true hjk] at hun
def SA(P:Program)(C:Ctx)(L:List Oper)(Q:Exit->Fr->Hp->Prop)(R:Hp)(t:Nat)(fuel:Nat)(listed:Array Bool)(A:Fr)(H:Hp):Prop:=
 ∀ a w,jS C.ds C.n A a->St C.K C.w0 H w->St C.K C.w0 R w->xU P L.toArray (rU C Q) (fun w=>St C.K C.w0 R w) t fuel listed a w
section
variable {P:Program}{C:Ctx}{Q:Exit->Fr->Hp->Prop}{A:Fr}{H H':Hp}{L l rest:List Oper}{o:Oper}{R:Hp}{t fuel:Nat}{listed:Array Bool}
theorem aGI{id:Nat}(R:Hp)(t:Nat)(hm:P.follows .mixedOrders=true){r:Hp} [hp:eY H R r](h:SA P C l Q R t l.length (Array.replicate l.length false) A H):SW P C (.region id l.toArray true) Q A H:=fun a w hf hs=>
 wp_region_any hm (xU.any (S:=fun w=>St C.K C.w0 R w) (t:=t) _ _ _ _ (by
  have:=h a _ hf (hs.drawn (w.drawn+1)) ((hs.perm hp.perm).drop.drawn (w.drawn+1))
  rw [rX]
  exact this))
def aEj(L:List Oper)(t:Nat)(listed:Array Bool)(i:Nat):Bool:=
 Region.noSelect L.toArray&&Region.free .any L.toArray listed i&&(Region.ready .any L.toArray listed).contains i&&xF L.toArray t i
theorem SA.put{v:Value}(i:Nat)(hi:L[i]?=some o)(hok:aEj L t listed i=true)(hQ:∀ c A H,Q (.panic c) A H->False)
  (hy:∀ a,jS C.ds C.n A a->YieldsIf P L.toArray (fun w=>St C.K C.w0 R w) o v a) {d:Option Nat} (hd:dk C.n o.dst=some d)
  (hk:SA P C L Q R t fuel (listed.setIfInBounds i true) (pt A d v) H):SA P C L Q R t (fuel+1) listed A H:=fun a w hf hs hr=>by
 simp only [aEj,bR] at hok
 obtain⟨⟨⟨h1,h2⟩,h3⟩,h4⟩:=hok
 have hi':L.toArray[i]?=some o:=by simpa using hi
 exact xU.first hi' (Region.noSelect_spec h1) h4 (fun c a w ⟨A,H,_,_,h⟩=>(hQ c A H h).elim) fuel listed a w (Region.free_spec hi' h2) (by simpa using h3) (hy a hf) hr (hk _ w (hf.put hd v) hs hr)
theorem SA.take{v:Value}(i:Nat)(hi:L[i]?=some o)(hok:aEj L t listed i=true)(hQ:∀ c A H,Q (.panic c) A H->False)(hg:gd L A o=some true){d:Option Nat}(hd:dk C.n o.dst=some d)(h:Pu P C A R o v)
  (hk:SA P C L Q R t fuel (listed.setIfInBounds i true) (pt A d v) H):SA P C L Q R t (fuel+1) listed A H:=
 SA.put i hi hok hQ (fun a hf=>.inl ⟨gW hf hg,fun w hr=>h a w hf hr⟩) hd hk
theorem SA.done(hr:(Region.ready .any L.toArray listed).isEmpty=true)(h:Q .normal A H):SA P C L Q R t fuel listed A H:=fun a w hf hs _=>by
 have hr':Region.ready .any L.toArray listed=[]:=by simpa using hr
 have hq:rU C Q .normal a w:=⟨A,H,hf,hs,h⟩
 cases fuel with
 | zero=>exact⟨hr',hq⟩
 | succ f=>exact⟨fun _=>hq,by rw [hr'];simp⟩
theorem vA{i:Nat}(hi:L[i]?=some o){K:Fr->Hp->Prop}{K':Act->World->Prop}(h:SL P C L (thn K Q) [o] A H){a:Act}{w:World}(hf:jS C.ds C.n A a)(hs:St C.K C.w0 H w) (hk:∀ ρ' H' a' w',K ρ' H'->jS C.ds C.n ρ' a'->St C.K C.w0 H' w'->K' a' w'):wpOp P L.toArray (rU C Q) i K' a w:=by
 have h1:=h a w hf hs;unfold wpList at h1;unfold wpOp;have hi':L.toArray[i]?=some o:=by simpa using hi
 simp only [hi'];have hnil:∀ a w,wpList P L.toArray (rU C (thn K Q)) [] a w->K' a w:=fun a w hq=>by unfold wpList at hq;obtain⟨ρ',H',hf',hs',hq⟩:=hq;exact hk ρ' H' a w hq hf' hs'
 split
 ·rename_i hw;rw [if_pos hw] at h1;rcases h1 with h1|⟨hasks,a',w',ρ',H',hf',hs',hq⟩
  ·refine .inl ?_;unfold Oper.wp at h1 |-;generalize (execOp a.eval o).run P w=r at h1 |-;cases r with
   | ok n w'=>
    cases n <;> simp only [Oper.upon] at h1 |-
    case value u=>exact hnil _ _ h1
    case skip=>exact hnil _ _ h1
    case defer d=>exact hnil _ _ h1
    case enter f args=>
     refine Calls.mono h1 fun e w'' he=>?_
     cases e with
     | returned u=>exact hnil _ _ he
     | panicked c=>obtain⟨ρ',H',hf',hs',hq⟩:=he;exact⟨ρ',H',hf',hs',hq⟩
     | outgrown=>obtain⟨a',w',ρ',H',hf',hs',hq⟩:=he;exact⟨a',w',ρ',H',hf',hs',hq⟩
    case row row args=>exact Rows.mono h1 fun u w'' he=>hnil _ _ he
   | halt x w'=>
    cases x <;> simp only [Oper.upon] at h1 |-
    case panic u=>obtain⟨ρ',H',hf',hs',hq⟩:=h1;exact⟨ρ',H',hf',hs',hq⟩
  exact .inr ⟨hasks,a',w',ρ',H',hf',hs',hq⟩
 rename_i hw;rw [if_neg hw] at h1;exact hnil _ _ h1
theorem xU.all{ops:Array Oper}{Q:Exit->Act->World->Prop}{S:World->Prop}{rs:List Nat}{a:Act}{w:World}(hr:Region.ready .any ops listed=rs)(hne:rs≠[])
  (h:∀ i∈rs,wpOp P ops Q i (fun a' w'=>(i=t\/S w')/\xU P ops Q S t fuel (listed.setIfInBounds i true) a' w') a w):xU P ops Q S t (fuel+1) listed a w:=
 ⟨fun h0=>absurd (hr▸h0) hne,hr▸h⟩
def Beh(P:Program)(C:Ctx)(L:List Oper)(Q:Exit->Fr->Hp->Prop)(R:Hp)(t fuel:Nat)(listed:Array Bool)(ρ':Fr)(H':Hp):Prop:=(∃ r,H'.Perm (R++r))/\SA P C L Q R t fuel listed ρ' H'
theorem Beh.mk{r:Hp} [hp:eY H R r](h:SA P C L Q R t fuel listed A H):Beh P C L Q R t fuel listed A H:=⟨⟨r,hp.perm⟩,h⟩
theorem SA.one(i:Nat)(hi:L[i]?=some o)(hok:(Region.ready .any L.toArray listed == [i])=true)(h:SL P C L (thn (Beh P C L Q R t fuel (listed.setIfInBounds i true)) Q) [o] A H):SA P C L Q R t (fuel+1) listed A H:=fun a w hf hs hr=>
 xU.all (rs:=[i]) (by simpa using hok) (by simp) fun j hj=>by
  rw [bW.1 hj]
  exact vA hi h hf hs fun ρ' H' a' w' ⟨⟨r,hp⟩,hsa⟩ hf' hs'=>by
   have:=(hs'.perm hp).drop
   exact⟨.inr this,hsa a' w' hf' hs' this⟩
theorem SA.last(hi:L[t]?=some o)(hok:(Region.ready .any L.toArray listed == [t]&&(Region.ready .any L.toArray (listed.setIfInBounds t true)).isEmpty)=true)(h:SL P C L Q [o] A H):SA P C L Q R t (fuel+1) listed A H:=fun a w hf hs hr=>by
 simp only [bR] at hok
 refine xU.all (rs:=[t]) (by simpa using hok.1) (by simp) fun j hj=>?_
 rw [bW.1 hj]
 have h':SL P C L (thn (fun ρ' H'=>Q .normal ρ' H') Q) [o] A H:=fun a w hf hs=>by
  have:=h a w hf hs
  have e:rU C (thn (fun ρ' H'=>Q .normal ρ' H') Q)=rU C Q:=by
   funext e a w;unfold rU;cases e <;> rfl
  rw [e];exact this
 have hr2:Region.ready .any L.toArray (listed.setIfInBounds t true)=[]:=by simpa using hok.2
 refine vA hi h' hf hs fun ρ' H' a' w' hq hf' hs'=>⟨.inl rfl,?_⟩
 cases fuel with
 | zero=>exact⟨hr2,ρ',H',hf',hs',hq⟩
 | succ f=>exact⟨fun _=>⟨ρ',H',hf',hs',hq⟩,by rw [hr2];simp⟩
end
def Rd(K:List Nat)(w:World)(n:Nat)(v:Value)(ys:LV):Prop:=
 ∃ a len cap,v=.slice a len cap/\ys.length=len*n/\len<=cap /\
  (len=0\/∃ (b o:Nat) (l:LV) (T:TypeId) (fz:Nat×Nat),a=some ⟨b,o,none⟩/\w.heap[b]?=some (.cells l.toArray T fz)/\b∉K/\(l.drop o).take (len*n)=ys)
theorem Rd.nil(K:List Nat)(w:World)(n:Nat):Rd K w n (.slice none 0 0) []:=⟨none,0,0,rfl,by simp,Nat.le_refl _,.inl rfl⟩
theorem Rd.empty(K:List Nat)(w:World)(n:Nat)(a:Option Addr)(c:Nat):Rd K w n (.slice a 0 c) []:=⟨a,0,c,rfl,by simp,Nat.zero_le _,.inl rfl⟩
theorem St.lt0{K:List Nat}{w0 w:World}{H:Hp}(h:St K w0 H w){b:Nat}{o:Obj}(hb:w0.heap[b]?=some o)(hk:b∉K){Hc r:Hp}(hp:H.Perm (Hc++r)):b∉Hc.map Prod.fst:=fun hm=>by
 obtain⟨⟨x,o'⟩,hx,rfl⟩:=bM.1 hm
 have hlt:=(gH.1 hb).1
 rcases h.fresh x o' (hp.mem_iff.2 (aO _ hx)) with h1|h1
 ·exact hk h1
 ·simp at hlt;omega
theorem Rd.ro{K:List Nat}{w0 w:World}{H Hc r:Hp}{n:Nat}{v:Value}{ys:LV}(h:Rd K w0 n v ys)(hs:St K w0 H w) [hp:eY H Hc r]:Rd (Hc.map Prod.fst) w n v ys:=by obtain⟨a,len,cap,rfl,hl,hc,hb⟩:=h;refine⟨a,len,cap,rfl,hl,hc,hb.imp id fun⟨b,o,l,T,fz,ha,hb,hk,hy⟩=>⟨b,o,l,T,fz,ha,hs.ro hb hk,hs.lt0 hb hk hp.perm,hy⟩⟩
theorem Rd.own{K:List Nat}{w0 w:World}{H Hc Hs r:Hp}{e n:Nat}{v:Value}{ys:LV}(hv:Sl e n v ys Hs)(hs:St K w0 H w)(hp:eY H (Hc++Hs) r):Rd (Hc.map Prod.fst) w n v ys:=by
 rcases hv with ⟨rfl,rfl,rfl⟩|⟨b,len,cap,junk,rfl,hx,hj,hlc,rfl⟩
 ·exact Rd.nil _ _ _
 have hs2:=hs.perm hp.perm;have hn:=hs2.nodup;refine⟨some ⟨b,0,none⟩,len,cap,rfl,hx,hlc,.inr ⟨b,0,ys++junk,e,(0,0),rfl,hs2.own b (cl (ys++junk) e) (by simp),fun hm=>?_,by rw [bQ,<-hx,cT];rfl⟩⟩;simp only [aZ,aT] at hn;exact (fO.1 hn).2.2 b hm b (by simp) rfl
theorem Rd.src{P:Program}{K:List Nat}{w:World}{n:Nat}{v:Value}{ys:LV}(h:Rd K w n v ys):∃ m,eQ P w v n m ys/\ys.length=m*n:=by
 obtain⟨a,len,cap,rfl,hl,hc,hb⟩:=h;refine⟨len,?_,hl⟩;rcases hb with rfl|⟨b,o,l,T,fz,rfl,hb,hk,hy⟩
 ·have:ys=[]:=by simpa using hl
  subst this;exact eQ.empty _ _ _ _
 exact eQ.block hb hy hl
theorem Rd.srcAt{P:Program}{K:List Nat}{w0 w:World}{H:Hp}{n:Nat}{a:Option Addr}{len cap:Nat}{ys:LV}(h:Rd K w0 n (.slice a len cap) ys)(hs:St K w0 H w):eQ P w (.slice a len cap) n len ys:=by
 obtain⟨a',len',cap',he,hl,hc,hb⟩:=h;cases he;rcases hb with rfl|⟨b,o,l,T,fz,rfl,hb,hk,hy⟩
 ·have:ys=[]:=by simpa using hl
  subst this;exact eQ.empty _ _ _ _
 exact eQ.block (hs.ro hb hk) hy hl
theorem Sl.srcAt{P:Program}{K:List Nat}{w0 w:World}{H Hs r:Hp}{e n:Nat}{a:Option Addr}{len cap:Nat}{ys:LV}(hv:Sl e n (.slice a len cap) ys Hs)(hs:St K w0 H w)(hp:eY H Hs r):eQ P w (.slice a len cap) n len ys:=by
 have hs2:=(hs.perm hp.perm);rcases hv with ⟨he,rfl,rfl⟩|⟨b,len,cap,junk,he,hx,hj,hlc,rfl⟩
 ·cases he;exact eQ.empty _ _ _ _
 cases he;exact eQ.block (hs2.own b (cl (ys++junk) e) (by simp)) (by rw [bQ,<-hx,cT];rfl) hx
section
variable {P:Program}{C:Ctx}{A:Fr}{H:Hp}{fn:Func}{R:Value->Hp->Prop}{e:Exit}(he:e=.ret\/e=.normal)
include he
theorem Fin.s0(hrs:fn.results=#[])(hR:R (.tuple #[]) H):Fin P C fn R e A H:=Fin.r0 he hrs H hR
theorem Fin.s1{t:Nat}{v:Value}(hrs:fn.results=#[.tmp t])(ht:lk A t=some v)(hR:R v H):Fin P C fn R e A H:=Fin.r1 he hrs ht H hR
theorem Fin.s2{t u:Nat}{v v2:Value}(hrs:fn.results=#[.tmp t,.tmp u])(ht:lk A t=some v)(hu:lk A u=some v2)(hR:R (.tuple #[v,v2]) H):Fin P C fn R e A H:=Fin.r2 he hrs ht hu H hR
end
theorem aEs(A X B:LV)(i j:Nat)(hj:j=A.length+i)(hi:i<X.length):(A++(X++B))[j]?=X[i]?:=by subst hj;rw [aV (jP _ _),dB,aJ hi]
theorem aE0(A X B:LV)(i j:Nat)(v:Value)(hj:j=A.length+i)(hi:i<X.length):(A++(X++B)).set j v=A++(X.set i v++B):=by subst hj;rw [bY _ _ (jP _ _),dB,gI _ _ hi]
theorem aGy(A X B:LV)(i n j:Nat)(hj:j=A.length+i)(hi:i+n<=X.length):((A++(X++B)).drop j).take n=(X.drop i).take n:=by
 subst hj;rw [<-cG,eR]
 ·rw [cJ oQ,bU (by simp;omega)]
 rfl
theorem aC8(A X B r:LV)(i j:Nat)(hj:j=A.length+i)(hi:i+r.length<=X.length):(A++(X++B)).take j++r++(A++(X++B)).drop (j+r.length)=A++(X.take i++r++X.drop (i+r.length)++B):=by subst hj;rw [iO,gM,bU oQ,dB,aK oQ];rw [cQ oQ,lQ,dB,cJ oQ];simp
theorem lX{J:Type}(f:J->LV)(n:Nat):∀ (l:List J),(∀ x∈l,(f x).length=n)->(l.flatMap f).length=l.length*n
 | [],_=>by simp
 | x::l,h=>by rw [dE,aB,h x (by simp),lX f n l (fun y hy=>h y (by simp [hy])),aW,Nat.add_mul];omega
theorem qA{J:Type}(f:J->LV)(l:List J)(k:Nat)(x:J)(hx:l[k]?=some x):l.flatMap f=(l.take k).flatMap f++(f x++(l.drop (k+1)).flatMap f):=by
 obtain⟨hk,rfl⟩:=aD.1 hx;have h1:l=l.take k++(l[k]::l.drop (k+1)):=by rw [List.getElem_cons_drop,dF]
 have h2:=congrArg (List.flatMap f) h1;rwa [cP,dE] at h2
theorem aGZ{J:Type}(f:J->LV)(l:List J)(k:Nat)(x:J)(hk:k<l.length):(l.set k x).flatMap f=(l.take k).flatMap f++(f x++(l.drop (k+1)).flatMap f):=by rw [fY,if_pos hk,cP,dE]
section
variable {P:Program}{C:Ctx}{Q:Exit->Fr->Hp->Prop}{A:Fr}{H:Hp}{J:Type}
def rW(F:J->Fr)(G:J->Hp)(M:J->Nat)(I:J->Prop)(a:J)(A:Fr)(H:Hp):Prop:=∃ a' s,M a'<M a/\subF (F a') A/\H.Perm (G a'++s)/\I a'
theorem rW.mk{F:J->Fr}{G:J->Hp}{M:J->Nat}{I:J->Prop}{a:J}(a':J){s:Hp}(hM:M a'<M a)(hr:subF (F a') A)(hp:eY H (G a') s)(hi:I a'):rW F G M I a A H:=⟨a',s,hM,hr,hp.perm,hi⟩
theorem rW.eq{F:J->Fr}{G:J->Hp}{M:J->Nat}{I:J->Prop}{a:J}(a':J)(hM:M a'<M a)(hr:subF (F a') A)(hH:H=G a')(hi:I a'):rW F G M I a A H:=⟨a',[],hM,hr,by rw [hH,aG],hi⟩
theorem zV{c:Code}(F:J->Fr)(G:J->Hp)(M:J->Nat)(I:J->Prop)(a0:J){s:Hp}(hr:subF (F a0) A)(hp:eY H (G a0) s)(h0:I a0)
  (round:∀ a,I a->SW P C c (thn (rW F G M I a) Q) (F a) (G a)):SW P C (.loop c) Q A H:=
 aLP (fun m A H=>∃ a,I a/\M a=m/\A=F a/\H=G a) (M a0) hr hp ⟨a0,h0,rfl,rfl,rfl⟩ fun k A H ⟨a,hi,hm,h1,h2⟩=>by
  subst hm h1 h2
  refine SW.mono (round a hi) fun e ρ' H' hq=>?_
  cases e <;> first
   | exact hq
   | exact (let ⟨a',s,hM,hr,hp,hi⟩:=hq;⟨M a',F a',G a',s,hM,hr,hp,a',hi,rfl,rfl,rfl⟩)
end
section
variable {P:Program}{C:Ctx}{Q:Exit->Fr->Hp->Prop}{Q':Fr->Prop}{A:Fr}{H:Hp}{L rest:List Oper}{d:Option Tmp}{ty:TypeId}{pos:String}{af:Array Edge}{g:Option (Nat×Bool)}{gg:Nat×Bool}{op:Op}
theorem aDu{x:Operand}(h:SL P C L Q (⟨d,.move x,ty,pos,af,g⟩::rest) A H):SL P C L Q (⟨d,.move x,ty,pos,af,g⟩::rest) A H:=h
theorem aIC{x:Operand}(h:SQ P C L Q' (⟨d,.move x,ty,pos,af,g⟩::rest) A H):SQ P C L Q' (⟨d,.move x,ty,pos,af,g⟩::rest) A H:=h
theorem aBy{x:Operand}(h:SL P C L Q (⟨d,.assign x,ty,pos,af,g⟩::rest) A H):SL P C L Q (⟨d,.assign x,ty,pos,af,g⟩::rest) A H:=h
theorem aFs{x:Operand}(h:SQ P C L Q' (⟨d,.assign x,ty,pos,af,g⟩::rest) A H):SQ P C L Q' (⟨d,.assign x,ty,pos,af,g⟩::rest) A H:=h
theorem aDv{c x y:Operand}(h:SL P C L Q (⟨d,.pick c x y,ty,pos,af,g⟩::rest) A H):SL P C L Q (⟨d,.pick c x y,ty,pos,af,g⟩::rest) A H:=h
theorem aCb{t:TypeId}(h:SL P C L Q (⟨d,.alloc t,ty,pos,af,g⟩::rest) A H):SL P C L Q (⟨d,.alloc t,ty,pos,af,g⟩::rest) A H:=h
theorem aFp{t:TypeId}{x:Operand}(h:SL P C L Q (⟨d,.box t x,ty,pos,af,g⟩::rest) A H):SL P C L Q (⟨d,.box t x,ty,pos,af,g⟩::rest) A H:=h
theorem aCc{t:TypeId}{ps:Array (Nat×Operand)}(h:SL P C L Q (⟨d,.build t ps,ty,pos,af,g⟩::rest) A H):SL P C L Q (⟨d,.build t ps,ty,pos,af,g⟩::rest) A H:=h
theorem aDs{t:TypeId}{x:Operand}(h:SL P C L Q (⟨d,.load t x,ty,pos,af,g⟩::rest) A H):SL P C L Q (⟨d,.load t x,ty,pos,af,g⟩::rest) A H:=h
theorem aIB{t:TypeId}{x:Operand}(h:SQ P C L Q' (⟨d,.load t x,ty,pos,af,g⟩::rest) A H):SQ P C L Q' (⟨d,.load t x,ty,pos,af,g⟩::rest) A H:=h
theorem aCe{t:TypeId}{x y:Operand}(h:SL P C L Q (⟨d,.store t x y,ty,pos,af,g⟩::rest) A H):SL P C L Q (⟨d,.store t x y,ty,pos,af,g⟩::rest) A H:=h
theorem aFr{x:Operand}(h:SL P C L Q (⟨d,.nilCheck x,ty,pos,af,g⟩::rest) A H):SL P C L Q (⟨d,.nilCheck x,ty,pos,af,g⟩::rest) A H:=h
theorem aJO{x:Operand}(h:SQ P C L Q' (⟨d,.nilCheck x,ty,pos,af,g⟩::rest) A H):SQ P C L Q' (⟨d,.nilCheck x,ty,pos,af,g⟩::rest) A H:=h
theorem aHz{u:UnOp}{t:TypeId}{x:Operand}(h:SL P C L Q (⟨d,.unOp u t x,ty,pos,af,g⟩::rest) A H):SL P C L Q (⟨d,.unOp u t x,ty,pos,af,g⟩::rest) A H:=h
theorem aDt{f:Fn}{xs ys:Array Operand}(h:SL P C L Q (⟨d,.makeFunc f xs ys,ty,pos,af,g⟩::rest) A H):SL P C L Q (⟨d,.makeFunc f xs ys,ty,pos,af,g⟩::rest) A H:=h
theorem aDr{t:TypeId}{x:Operand}{n:Nat}(h:SL P C L Q (⟨d,.fieldAddr t x n,ty,pos,af,g⟩::rest) A H):SL P C L Q (⟨d,.fieldAddr t x n,ty,pos,af,g⟩::rest) A H:=h
theorem aIA{t:TypeId}{x:Operand}{n:Nat}(h:SQ P C L Q' (⟨d,.fieldAddr t x n,ty,pos,af,g⟩::rest) A H):SQ P C L Q' (⟨d,.fieldAddr t x n,ty,pos,af,g⟩::rest) A H:=h
theorem aFq{t:TypeId}{x:Operand}{n:Nat}(h:SL P C L Q (⟨d,.field t x n,ty,pos,af,g⟩::rest) A H):SL P C L Q (⟨d,.field t x n,ty,pos,af,g⟩::rest) A H:=h
theorem aCd{b:Builtin}{xs:Array Operand}{ats:Array TypeId}(h:SL P C L Q (⟨d,.call { callee:=.builtin b,args:=xs,argTypes:=ats },ty,pos,af,g⟩::rest) A H):SL P C L Q (⟨d,.call { callee:=.builtin b,args:=xs,argTypes:=ats },ty,pos,af,g⟩::rest) A H:=h
theorem pB{f:Operand}{xs:Array Operand}{ats:Array TypeId}(h:SL P C L Q (⟨d,.call { callee:=.value f,args:=xs,argTypes:=ats },ty,pos,af,g⟩::rest) A H):SL P C L Q (⟨d,.call { callee:=.value f,args:=xs,argTypes:=ats },ty,pos,af,g⟩::rest) A H:=h
theorem sB(h:SL P C L Q (⟨d,op,ty,pos,af,some gg⟩::rest) A H):SL P C L Q (⟨d,op,ty,pos,af,some gg⟩::rest) A H:=h
theorem aFd{t t2:TypeId}{x y:Operand}(h:SL P C L Q (⟨d,.binOp .add t x y t2,ty,pos,af,g⟩::rest) A H):SL P C L Q (⟨d,.binOp .add t x y t2,ty,pos,af,g⟩::rest) A H:=h
theorem aFn{t t2:TypeId}{x y:Operand}(h:SL P C L Q (⟨d,.binOp .sub t x y t2,ty,pos,af,g⟩::rest) A H):SL P C L Q (⟨d,.binOp .sub t x y t2,ty,pos,af,g⟩::rest) A H:=h
theorem aFj{t t2:TypeId}{x y:Operand}(h:SL P C L Q (⟨d,.binOp .mul t x y t2,ty,pos,af,g⟩::rest) A H):SL P C L Q (⟨d,.binOp .mul t x y t2,ty,pos,af,g⟩::rest) A H:=h
theorem aFl{t t2:TypeId}{x y:Operand}(h:SL P C L Q (⟨d,.binOp .quo t x y t2,ty,pos,af,g⟩::rest) A H):SL P C L Q (⟨d,.binOp .quo t x y t2,ty,pos,af,g⟩::rest) A H:=h
theorem aFm{t t2:TypeId}{x y:Operand}(h:SL P C L Q (⟨d,.binOp .rem t x y t2,ty,pos,af,g⟩::rest) A H):SL P C L Q (⟨d,.binOp .rem t x y t2,ty,pos,af,g⟩::rest) A H:=h
theorem aFi{t t2:TypeId}{x y:Operand}(h:SL P C L Q (⟨d,.binOp .lss t x y t2,ty,pos,af,g⟩::rest) A H):SL P C L Q (⟨d,.binOp .lss t x y t2,ty,pos,af,g⟩::rest) A H:=h
theorem aFh{t t2:TypeId}{x y:Operand}(h:SL P C L Q (⟨d,.binOp .leq t x y t2,ty,pos,af,g⟩::rest) A H):SL P C L Q (⟨d,.binOp .leq t x y t2,ty,pos,af,g⟩::rest) A H:=h
theorem aFg{t t2:TypeId}{x y:Operand}(h:SL P C L Q (⟨d,.binOp .gtr t x y t2,ty,pos,af,g⟩::rest) A H):SL P C L Q (⟨d,.binOp .gtr t x y t2,ty,pos,af,g⟩::rest) A H:=h
theorem aFf{t t2:TypeId}{x y:Operand}(h:SL P C L Q (⟨d,.binOp .geq t x y t2,ty,pos,af,g⟩::rest) A H):SL P C L Q (⟨d,.binOp .geq t x y t2,ty,pos,af,g⟩::rest) A H:=h
theorem aFe{t t2:TypeId}{x y:Operand}(h:SL P C L Q (⟨d,.binOp .eql t x y t2,ty,pos,af,g⟩::rest) A H):SL P C L Q (⟨d,.binOp .eql t x y t2,ty,pos,af,g⟩::rest) A H:=h
theorem aFk{t t2:TypeId}{x y:Operand}(h:SL P C L Q (⟨d,.binOp .neq t x y t2,ty,pos,af,g⟩::rest) A H):SL P C L Q (⟨d,.binOp .neq t x y t2,ty,pos,af,g⟩::rest) A H:=h
theorem aJN{t t2:TypeId}{x y:Operand}(h:SQ P C L Q' (⟨d,.binOp .leq t x y t2,ty,pos,af,g⟩::rest) A H):SQ P C L Q' (⟨d,.binOp .leq t x y t2,ty,pos,af,g⟩::rest) A H:=h
end
theorem Tri.frame{P:Program}{f:FuncId}{vs:LV}{Hc H r:Hp}{Pre Pre':World->Prop}{R:Value->Hp->Prop}(h:Tri P f vs Hc Pre R)(hp:H.Perm (Hc++r))(hpre:∀ w,Own H w->Pre' w->Pre w) :
  Tri P f vs H Pre' (fun v H'=>∃ H1,H'=H1++r/\R v H1):=fun w ho hq=>by
 have hs:=(St.start ho).perm hp
 exact (h w hs.drop.toOwn (hpre w ho hq)).mono fun e w' ⟨v,H1,he,hst,hR⟩=>⟨v,H1++r,he,hs.comp hst,H1,rfl,hR⟩
theorem Sl.form{e n:Nat}{v:Value}{xs:LV}{H:Hp}(h:Sl e n v xs H):∃ a len cap,v=.slice a len cap/\xs.length=len*n:=by
 rcases h with ⟨rfl,rfl,_⟩|⟨b,len,cap,junk,rfl,hl,_⟩
 ·exact⟨none,0,0,rfl,by simp⟩
 exact⟨_,len,cap,rfl,hl⟩
theorem Fin.np{P:Program}{C:Ctx}{fn:Func}{R:Value->Hp->Prop}{c:_}{A:Fr}{H:Hp}(h:Fin P C fn R (.panic c) A H):False:=h
theorem St.tail{K:List Nat}{w0 w:World}{H r:Hp}{b:Nat}{o:Obj}(hp:H.Perm ((b,o)::r))(h:St K w0 H w):St K w0 r w:=by have h1:H.Perm (r++[(b,o)]):=hp.trans (cA (l₁:=[(b,o)]));exact (h.perm h1).drop
theorem Fin.rm{P:Program}{C:Ctx}{fn:Func}{R:Value->Hp->Prop}{e:Exit}{A:Fr}{H r:Hp}(b:Nat){o:Obj} [hp:Out H b o r](h:Fin P C fn R e A r):Fin P C fn R e A H:=by
 have hq:=hp.perm;cases e <;> first
  | exact h
  | (obtain⟨v,Hc,s,h1,h2,h3⟩:=h;exact⟨v,Hc,(b,o)::s,hq.trans ((h1.cons _).trans (gP.symm)),h2,fun a w hf hs=>h3 a w hf (hs.tail hq)⟩)
theorem Fin.perm{P:Program}{C:Ctx}{fn:Func}{R:Value->Hp->Prop}{e:Exit}{A:Fr}{H H':Hp}(hp:H.Perm H')(h:Fin P C fn R e A H'):Fin P C fn R e A H:=by
 cases e <;> first
  | exact h
  | (obtain⟨v,Hc,s,h1,h2,h3⟩:=h;exact⟨v,Hc,s,hp.trans h1,h2,fun a w hf hs=>h3 a w hf (hs.perm hp)⟩)
theorem Fin.drop{P:Program}{C:Ctx}{fn:Func}{R:Value->Hp->Prop}{e:Exit}{A:Fr}{H r:Hp}(Hs:Hp) [hp:eY H Hs r](h:Fin P C fn R e A r):Fin P C fn R e A H:=by
 have hq:H.Perm (r++Hs):=hp.perm.trans cA;cases e <;> first
  | exact h
  | (obtain⟨v,Hc,s,h1,h2,h3⟩:=h;exact⟨v,Hc,s++Hs,by rw [<-aT];exact hq.trans (h1.append_right Hs),h2,fun a w hf hs=>h3 a w hf (hs.perm hq).drop⟩)
theorem Fin.c1e{P:Program}{C:Ctx}{fn:Func}{R:Value->Hp->Prop}{e:Exit}{A:Fr}{H r:Hp}(he:e=.ret\/e=.normal){t ty n b:Nat}{l:LV}{T:TypeId}(l2:LV)(hrs:fn.results=#[.cell t ty])(ht:lk A t=some (.pointer (some ⟨b,0,none⟩))) [fB P ty n] [hp:Out H b (cl l T) r](hl:l=l2)(hn:l2.length=n)(hR:R (.agg l2.toArray) r):Fin P C fn R e A H:=by subst hl;have:At H b (cl l T):=⟨hp.perm.mem_iff.2 (by simp)⟩;have:eY H r [(b,cl l T)]:=⟨hp.perm.trans (cA (l₁:=[(b,cl l T)]))⟩;exact Fin.c1 he hrs ht hn r hR
theorem uC{pl:Nat->Option (Nat×Nat)}{i off n:Nat}{v:Value}{z x:LV}{r:List (Nat×Value)}(z':LV)(hp:pl i=some (off,n))(hv:(vl v).length=n)(ho:off+n<=z.length)(h:z.take off++vl v++z.drop (off+n)=z')(hr:bV pl z' r=some x):bV pl z ((i,v)::r)=some x:=by subst h;unfold bV;rw [hp];dsimp only;rw [if_pos ⟨hv,ho⟩];exact hr
theorem yQ{P:Program}{C:Ctx}{Q:Exit->Fr->Hp->Prop}{A:Fr}{H H':Hp}{L rest:List Oper}{o:Oper}{t:TypeId}{n:Nat}{x y:Operand}{b:Nat}{l r:LV}{T:TypeId}(ho:o.op=.store t x y)(hg:gd L A o=some true){d:Option Nat}(hd:dk C.n o.dst=some d)
  (hx:ev A x=some (.pointer (some ⟨b,0,none⟩))) (hy:ev A y=some (.agg r.toArray)) [fB P t n] (hr:r.length=n) [OC r] [At H b (cl l T)] (hz:l.length=n) [Upd H b (cl r T) H']
  (hk:SL P C L Q rest (pt A d undef) H'):SL P C L Q (o::rest) A H:=
 uB (l':=r) ho hg hd hx hy hr oQ (by rw [cU,List.nil_append,cQ oQ,aG]) hk
theorem aJc(l r:Hp)(a b:Nat×Obj):(l++a::b::r).Perm (a::b::(l++r)):=gP.trans (List.perm_middle.cons a)
class Sel(H:Hp)(bs:List Nat)(R:outParam Hp)(r:outParam Hp):Prop where
 perm:H.Perm (R++r)
 keys:R.map Prod.fst=bs
instance Sel.nil(H:Hp):Sel H [] [] H:=⟨.refl _,rfl⟩
instance Sel.cons(H:Hp)(b:Nat)(o:Obj)(bs:List Nat)(R r r':Hp) [h1:Out H b o r] [h2:Sel r bs R r']:Sel H (b::bs) ((b,o)::R) r':=⟨h1.perm.trans (h2.perm.cons _),by rw [eE,h2.keys]⟩
theorem Rd.ownB{K:List Nat}{w0 w:World}{H Hc Hs r r2:Hp}{e n:Nat}{v:Value}{ys:LV}(bs:List Nat)(hv:Sl e n v ys Hs)(hs:St K w0 H w) [hp:Sel H bs Hc r] [hq:eY r Hs r2]:Rd bs w n v ys:=by have:=Rd.own (Hc:=Hc) hv hs (r:=r2) ⟨by rw [aT];exact hp.perm.trans (hq.perm.append_left Hc)⟩;rwa [hp.keys] at this
theorem mH{P:Program}{C:Ctx}{Q:Exit->Fr->Hp->Prop}{A:Fr}{H:Hp}{l:List Oper}{id:Nat}(bs:List Nat)(t:Nat)(hm:P.follows .mixedOrders=true){R r:Hp} [hp:Sel H bs R r](h:SA P C l Q R t l.length (Array.replicate l.length false) A H):SW P C (.region id l.toArray true) Q A H:=
 aGI R t hm (hp:=⟨hp.perm⟩) h
theorem aFo{P:Program}{C:Ctx}{Q:Exit->Fr->Hp->Prop}{A:Fr}{H:Hp}{L rest:List Oper}{o:Oper}{f:FuncId}{xs:Array Operand}{ats:Array TypeId}{vs:LV}(bs:List Nat){Hc r:Hp} [hp:Sel H bs Hc r]{Pre:World->Prop}{R:Value->Hp->Prop}(ho:o.op=.call { callee:=.value (.func f),args:=xs,argTypes:=ats })(hg:gd L A o=some true){d:Option Nat}(hd:dk C.n o.dst=some d)(hx:evs A xs.toList=some vs) [bC P f](ht:Tri P f vs Hc Pre R)(hpre:∀ w,St C.K C.w0 H w->Pre w)
  (hk:∀ v H',R v H'->SL P C L Q rest (pt A d v) (H'++r)):SL P C L Q (o::rest) A H:=
 have:eY H Hc r:=⟨hp.perm⟩
 nX Hc ho hg hd hx ht hpre hk
section
variable {P:Program}{C:Ctx}{A:Fr}{H:Hp}{o:Oper}
theorem yD(op:BinOp)(t:TypeId)(x y:Operand)(w:World)(a b:Option Addr)(n c n' c':Nat):(eqGuard op t x y (.slice a n c) (.slice b n' c')).run P w=.ok () w:=by cases op <;> simp [eqGuard]
theorem aAC{t e n:Nat} [h:cC P t e n](a:Option Addr)(m c:Nat)(w:World):(Op.equal t (.slice a m c) (.slice none 0 0)).run P w=.ok a.isNone w:=by
 have he:=h.ok;cases a with
 | none=>unfold Op.equal Op.maxDepth Op.equalIn;simp [run_underlying he]
 | some a=>unfold Op.equal Op.maxDepth Op.equalIn;simp [run_underlying he]
theorem tL{t e n t':Nat}{x y:Operand}{a:Option Addr}{m c:Nat}(ho:o.op=.binOp .eql t x y t')(hx:ev A x=some (.slice a m c))(hy:ev A y=some (.slice none 0 0)) [h:cC P t e n]:Pu P C A H o (.bool a.isNone):=fun ac w hf _=>by
 unfold execOp;rw [ho];simp [hf.eval hx,hf.eval hy,yD,binOp,aAC (h:=h)]
theorem tQ{t e n t':Nat}{x y:Operand}{a:Option Addr}{m c:Nat}(ho:o.op=.binOp .neq t x y t')(hx:ev A x=some (.slice a m c))(hy:ev A y=some (.slice none 0 0)) [h:cC P t e n]:Pu P C A H o (.bool a.isSome):=fun ac w hf _=>by
 unfold execOp;rw [ho];cases a <;> simp [hf.eval hx,hf.eval hy,yD,binOp,aAC (h:=h)]
end
structure AOp where
 i:Nat
 d:Nat
 val:Nat->Value
 obj:Obj
def aBu(l:Array Bool)(is:List Nat):Array Bool:=is.foldl (fun a i=>a.setIfInBounds i true) l
theorem aC6(is:List Nat):∀ (l:Array Bool) (j:Nat),(aBu l is)[j]?=if j∈is then l[j]?.map (fun _=>true) else l[j]?:=by
 induction is with
 | nil=>intro l j;simp [aBu]
 | cons i is ih=>
  intro l j
  show (aBu (l.setIfInBounds i true) is)[j]?=_
  rw [ih,gY]
  by_cases h1:i=j
  ·subst h1
   by_cases h2:i<l.size
   ·simp [h2]
   ·simp [h2]
  ·by_cases h2:j∈is
   ·simp [h1,h2]
   ·simp [h1,h2,Ne.symm h1]
theorem aEZ(l:Array Bool)(is:List Nat)(i:Nat)(hi:i∈is)(hn:is.Nodup):aBu (l.setIfInBounds i true) (is.erase i)=aBu l is:=by
 apply Array.ext_getElem?;intro j;rw [aC6,aC6,gY];have hme:j∈is.erase i↔j≠i/\j∈is:=List.Nodup.mem_erase_iff hn;simp only [hme];by_cases h1:i=j
 ·subst h1;by_cases h2:i<l.size
  ·simp [h2,hi]
  simp [h2,hi]
 by_cases h2:j∈is
 ·simp [h1,h2,Ne.symm h1]
 simp [h1,h2]
def aGU(L:List Oper):Nat->List Nat->Array Bool->Bool
 | 0,is,_=>is.isEmpty
 | n+1,is,listed=>(Region.ready .any L.toArray listed == is)&&!is.isEmpty&&is.all fun i=>aGU L n (is.erase i) (listed.setIfInBounds i true)
section
variable {P:Program}{C:Ctx}{Q:Exit->Fr->Hp->Prop}{L:List Oper}{R:Hp}{t:Nat}
theorem aLL{listed:Array Bool}{fuel:Nat}{A:Fr}{H:Hp}(is:List Nat)(hok:Region.ready .any L.toArray listed=is)(hne:is≠[])
  (h:∀ i∈is,∃ o,L[i]?=some o/\SL P C L (thn (Beh P C L Q R t fuel (listed.setIfInBounds i true)) Q) [o] A H):SA P C L Q R t (fuel+1) listed A H:=fun a w hf hs hr=>
 xU.all (rs:=is) hok hne fun k hk=>by
  obtain⟨o,hi,h⟩:=h k hk
  exact vA hi h hf hs fun ρ' H' a' w' ⟨⟨r,hp⟩,hsa⟩ hf' hs'=>by
   have:=(hs'.perm hp).drop
   exact⟨.inr this,hsa a' w' hf' hs' this⟩
theorem aCC{r:Fr}{d:Nat}(h:d∉r.map Prod.fst){A:Fr}(hs:subF r A)(v:Value):subF r ((d,v)::A):=by
 induction r with
 | nil=>trivial
 | cons x r ih=>
  obtain⟨k,u⟩:=x
  simp only [eE,cD,not_or] at h
  refine⟨?_,ih h.2 hs.2⟩
  show (bif Nat.beq d k then some v else lk A k)=some u
  have:Nat.beq d k=false:=by
   cases hb:Nat.beq d k with
   | false=>rfl
   | true=>exact absurd (jY hb) h.1
  rw [this];exact hs.1
theorem aBF:∀ (l:List AOp) (x:AOp),x∈l->(l.map AOp.i).Nodup->l.Perm (x::l.filter fun y=>y.i != x.i)
 | [],x,h,_=>by cases h
 | y::l,x,h,hn=>by
  simp only [eE,kE] at hn;rcases cD.1 h with rfl|h
  ·have h1:l.filter (fun z=>z.i != x.i)=l:=List.filter_eq_self.2 fun z hz=>by have:z.i≠x.i:=fun e=>hn.1 (e▸bM.2 ⟨z,hz,rfl⟩);simpa using this
   rw [List.filter_cons_of_neg (by simp),h1]
  have hne:y.i≠x.i:=fun e=>hn.1 (e▸bM.2 ⟨x,h,rfl⟩);rw [List.filter_cons_of_pos (by simpa using hne)];exact ((aBF l x h hn.2).cons y).trans (.swap _ _ _)
theorem aDq{listed:Array Bool}{fuel:Nat}{A:Fr}{H:Hp}(ρ1:Fr)(H1:Hp)(hr:subF ρ1 A)(hp:H.Perm H1)(h:SA P C L Q R t fuel listed ρ1 H1):SA P C L Q R t fuel listed A H:=fun a w hf hs hR=>h a w (hf.sub hr) (hs.perm hp) hR
theorem aAN(base0:Fr):∀ (n:Nat) (todo:List AOp) (base:Fr) (listed:Array Bool) (fuel:Nat) (A:Fr) (H:Hp),todo.length=n->(todo.map AOp.i).Nodup->(todo.map AOp.d).Nodup->(∀ x∈todo,x.d∉base.map Prod.fst)->(∀ x∈todo,x.d∉base0.map Prod.fst) ->
  aGU L n (todo.map AOp.i) listed=true->subF base A->subF base0 A->(∃ r,H.Perm (R++r)) ->
  (∀ x∈todo,∃ o,L[x.i]?=some o/\∀ (K:Fr->Hp->Prop) (A:Fr) (H:Hp),subF base0 A->(∀ b,K ((x.d,x.val b)::A) ((b,x.obj)::H))->SL P C L (thn K Q) [o] A H) ->
  (∀ (f:Nat->Nat) (ρ':Fr) (H':Hp),subF base ρ'->(∀ x∈todo,lk ρ' x.d=some (x.val (f x.i)))->H'.Perm (todo.map (fun x=>(f x.i,x.obj))++H)->SA P C L Q R t fuel (aBu listed (todo.map AOp.i)) ρ' H') ->
  SA P C L Q R t (fuel+n) listed A H
 | 0,todo,base,listed,fuel,A,H,hlen,_,_,_,_,_,hb,_,_,_,hk=>by have:todo=[]:=bI hlen;subst this;exact hk id A H hb (by simp) (by simp)
 | n+1,todo,base,listed,fuel,A,H,hlen,hni,hnd,hdb,hdb0,hc,hb,hb0,hr,hst,hk=>by
  unfold aGU at hc;simp only [bR,sU,beq_iff_eq] at hc;obtain⟨⟨hc1,hc2⟩,hc3⟩:=hc;refine aLL (todo.map AOp.i) hc1 (by intro h0;rw [h0] at hc2;simp at hc2) fun i hi=>?_;obtain⟨x,hx,rfl⟩:=bM.1 hi;obtain⟨o,ho,hstep⟩:=hst x hx;have hper:=aBF todo x hx hni;have hmf:(todo.filter fun y=>y.i != x.i).map AOp.i=(todo.map AOp.i).erase x.i:=by rw [List.Nodup.erase_eq_filter hni,List.filter_map];rfl
  have hlf:(todo.filter fun y=>y.i != x.i).length=n:=by have:=hper.length_eq;simp only [aW] at this;omega
  have hsub:∀ y∈todo.filter (fun y=>y.i != x.i),y∈todo/\y.i≠x.i:=fun y hy=>by have:=List.mem_filter.1 hy;exact⟨this.1,by simpa using this.2⟩
  have hdn:((x::todo.filter fun y=>y.i != x.i).map AOp.d).Nodup:=(hper.map AOp.d).nodup_iff.1 hnd;simp only [eE,kE] at hdn;refine⟨o,ho,hstep _ A H hb0 fun b=>⟨?_,?_⟩⟩
  ·obtain⟨r,hp⟩:=hr;exact⟨(b,x.obj)::r,(hp.cons _).trans gP.symm⟩
  refine aAN base0 n (todo.filter fun y=>y.i != x.i) ((x.d,x.val b)::base) (listed.setIfInBounds x.i true) fuel _ _ hlf (by rw [hmf];exact hni.erase _) hdn.2 (fun y hy=>?_) (fun y hy=>hdb0 y (hsub y hy).1) (by rw [hmf];exact hc3 _ hi)
   ⟨?_,aCC (hdb x hx) hb _⟩ (aCC (hdb0 x hx) hb0 _) ?_ (fun y hy=>hst y (hsub y hy).1) fun f ρ' H' h1 h2 h3=>?_
  ·simp only [eE,cD,not_or];refine⟨fun e=>hdn.1 (e▸bM.2 ⟨y,hy,rfl⟩),hdb y (hsub y hy).1⟩
  ·show (bif Nat.beq x.d x.d then some (x.val b) else lk A x.d)=some (x.val b);rw [zQ];rfl
  ·obtain⟨r,hp⟩:=hr;exact⟨(b,x.obj)::r,(hp.cons _).trans gP.symm⟩
  rw [hmf,aEZ _ _ _ hi hni];refine hk (fun j=>if j=x.i then b else f j) ρ' H' h1.2 (fun y hy=>?_) (h3.trans ?_)
  ·rcases cD.1 (hper.mem_iff.1 hy) with rfl|hy2
   ·rw [if_pos rfl];exact h1.1
   rw [if_neg (hsub y hy2).2];exact h2 y hy2
  have e1:(todo.filter fun y=>y.i != x.i).map (fun y=>(f y.i,y.obj))=(todo.filter fun y=>y.i != x.i).map (fun y=>((if y.i=x.i then b else f y.i),y.obj)):=
   eJ fun y hy=>by rw [if_neg (hsub y hy).2]
  rw [e1];refine gP.trans ?_;have:=(hper.map (fun y:AOp=>((if y.i=x.i then b else f y.i),y.obj))).append_right H;simp only [eE,if_true,dX] at this;exact this.symm
end
end Go.Proofs.YtdfclocfackkmaaGreat
