/- A small separation logic over the kit's walk rules: frames are association lists, the blocks that a call owns are a list; each operation has one lemma, and a proof steps by 'refine'. It speaks of no program. The walk's rules over frames and blocks as lists: control, regions, and the operations that only read. The operations that only read: what each yields. The operations that make or write memory, calls, and a function's beginning and end. Slices: make, reslice, append, copy; structs and arrays built; small builtins. Slices, structs and small builtins, as the walk meets them. A region that draws its order: what only reads is taken first, the rest comes in whatever order. Slices that are only read; parts of lists. A contract with more than it needs. Allocations that come in any order. -/
import Derived.WalkSpells
import Derived.WalkLawsBesides
import Derived.StillTail
import Derived.Deep.Quiet
import Derived.Laws.CopyRow
import Derived.Deep.LoopGhost
import Derived.OrdersHeld
import Derived.Test.YtnhnpjokpelkbaaGreatPp0
set_option linter.unusedVariables false
set_option linter.unusedSimpArgs false
set_option linter.unusedSectionVars false
namespace Go.Proofs.YtnhnpjokpelkbaaGreat
open Go
abbrev Fr:=List (Nat×Value)
abbrev Hp:=List (Nat×Obj)
abbrev cl(l:List Value)(T:TypeId):Obj:=.cells l.toArray T (0,0)
def lk:Fr→Nat→Option Value
 | [],_=>none
 | (k,v)::r,t=>bif Nat.beq k t then some v else lk r t
def ev(ρ:Fr):Operand→Option Value
 | .tmp t=>lk ρ t
 | .const v=>some v
 | .global g=>some (.pointer (some ⟨g,0,none⟩))
 | .func f=>some (.func (.func f) #[] #[])
def evs(ρ:Fr):List Operand→Option (List Value)
 | []=>some []
 | x::r=>match ev ρ x,evs ρ r with
  | some v,some vs=>some (v::vs)
  | _,_=>none
def pt(ρ:Fr)(d:Option Nat)(v:Value):Fr:=match d with|some d=>(d,v)::ρ|none=>ρ
def dk(n:Nat)(x:Option Nat):Option (Option Nat):=
 match x with
 | none=>some none
 | some k=>bif Nat.blt k n then some (some k) else none
structure jV(ds:List Deferred)(n:Nat)(ρ:Fr)(a:Act):Prop where
 d:a.defers=ds
 s:a.tmps.size=n
 t:∀ t v,lk ρ t=some v→a.tmps[t]?=some v
theorem aEa(k:Nat)(v:Value)(r:Fr)(t:Nat):lk ((k,v)::r) t=if k=t then some v else lk r t:=by
 by_cases h:k=t
 ·subst h;simp [lk]
 ·have:Nat.beq k t=false:=by
   cases hb:Nat.beq k t with
   | false=>rfl
   | true=>exact absurd (kC hb) h
  simp [lk,this,h]
theorem jV.eval{ds:List Deferred}{n:Nat}{ρ:Fr}{a:Act}(h:jV ds n ρ a){x:Operand}{v:Value}(hx:ev ρ x=some v):a.eval x=v:=by
 cases x with
 | tmp t=>simp only [ev] at hx;have:=h.t t v hx;simp [Act.eval,jO,this]
 | const u=>simp only [ev,cV] at hx;simp [Act.eval,hx]
 | global g=>simp only [ev,cV] at hx;simp [Act.eval,hx]
 | func f=>simp only [ev,cV] at hx;simp [Act.eval,hx]
theorem jV.evals{ds:List Deferred}{n:Nat}{ρ:Fr}{a:Act}(h:jV ds n ρ a):∀ {xs:List Operand} {vs:List Value},evs ρ xs=some vs→xs.map a.eval=vs
 | [],vs,hx=>by simp [evs] at hx;simp [hx]
 | x::r,vs,hx=>by
  simp only [evs] at hx
  cases h1:ev ρ x with
  | none=>simp [h1] at hx
  | some v=>
   cases h2:evs ρ r with
   | none=>simp [h1,h2] at hx
   | some us=>
    simp [h1,h2] at hx
    subst hx
    simp [h.eval h1,jV.evals h h2]
theorem jV.put{ds:List Deferred}{n:Nat}{ρ:Fr}{a:Act}(h:jV ds n ρ a){x d:Option Nat}(hd:dk n x=some d)(v:Value):jV ds n (pt ρ d v) (a.put x v):=by
 cases x with
 | none=>simp only [dk,cV] at hd;subst hd;exact h
 | some k=>
  cases hb:Nat.blt k n with
  | false=>simp [dk,hb] at hd
  | true=>
   simp only [dk,hb,cond_true,cV] at hd
   subst hd
   have hdn:k<n:=fK hb
   refine⟨h.d,by simp [Act.put,h.s],fun t u hu=>?_⟩
   simp only [pt,aEa] at hu
   simp only [Act.put,iC]
   by_cases hk:k=t
   ·subst hk
    simp only [if_true] at hu ⊢
    rw [if_pos (by rw [h.s];exact hdn)]
    exact hu
   ·simp only [hk,if_false] at hu ⊢
    exact h.t t u hu
def subF:Fr→Fr→Prop
 | [],_=>True
 | (t,v)::r,ρ=>lk ρ t=some v∧subF r ρ
theorem subF.lk{ρ:Fr}:∀ {r:Fr} (_:subF r ρ) {t:Nat} {v:Value},lk r t=some v→lk ρ t=some v
 | [],_,t,v,h=>by simp [Proofs.YtnhnpjokpelkbaaGreat.lk] at h
 | (k,u)::r,hs,t,v,h=>by
  rw [aEa] at h
  by_cases hk:k=t
  ·subst hk;simp at h;subst h;exact hs.1
  ·simp [hk] at h;exact subF.lk hs.2 h
theorem jV.sub{ds:List Deferred}{n:Nat}{ρ r:Fr}{a:Act}(h:jV ds n ρ a)(hs:subF r ρ):jV ds n r a:=⟨h.d,h.s,fun t v hv=>h.t t v (hs.lk hv)⟩
structure St(K:List Nat)(w0:World)(H:Hp)(w:World):Prop where
 own:∀ b o,(b,o)∈H→w.heap[b]?=some o
 nodup:(H.map Prod.fst).Nodup
 fresh:∀ b o,(b,o)∈H→b∈K∨w0.heap.size≤b
 os:w.os=w0.os
 tape:w.tape=w0.tape
 out:w.output=w0.output
 size:w0.heap.size≤w.heap.size
 keep:∀ b,b<w0.heap.size→b∉K→w.heap[b]?=w0.heap[b]?
theorem aIp{w w':World}{a:Addr}(h:w'.heap[a.block]?=w.heap[a.block]?):w'.frozen? a=w.frozen? a:=by
 unfold World.frozen?;rw [h]
structure Own(H:Hp)(w:World):Prop where
 own:∀ b o,(b,o)∈H→w.heap[b]?=some o
 nodup:(H.map Prod.fst).Nodup
theorem Own.nil(w:World):Own [] w:=⟨by simp,by simp⟩
theorem St.start{H:Hp}{w:World}(h:Own H w):St (H.map Prod.fst) w H w:=
 ⟨h.own,h.nodup,fun b o hb=>.inl (bH.2 ⟨(b,o),hb,rfl⟩),rfl,rfl,rfl,Nat.le_refl _,fun _ _ _=>rfl⟩
theorem St.toOwn{K:List Nat}{w0:World}{H:Hp}{w:World}(h:St K w0 H w):Own H w:=⟨h.own,h.nodup⟩
section
variable {K:List Nat}{w0 w:World}{H:Hp}
theorem St.lt(h:St K w0 H w){b:Nat}{o:Obj}(hb:(b,o)∈H):b<w.heap.size:=(gK.1 (h.own b o hb)).1
theorem St.drew(h:St K w0 H w):St K w0 H w.drew:=⟨h.own,h.nodup,h.fresh,h.os,h.tape,h.out,h.size,h.keep⟩
theorem St.drawn(h:St K w0 H w)(n:Nat):St K w0 H { w with drawn:=n }:=⟨h.own,h.nodup,h.fresh,h.os,h.tape,h.out,h.size,h.keep⟩
theorem aAW(w:World)(o:Obj)(i:Nat):(w.alloc o).heap[i]?=if i=w.heap.size then some o else w.heap[i]?:=by
 show (w.heap.push o)[i]?=_
 rw [Array.getElem?_push]
theorem St.alloc(h:St K w0 H w)(o:Obj):St K w0 ((w.heap.size,o)::H) (w.alloc o):=by
 refine⟨fun b o' hb=>?_,?_,fun b o' hb=>?_,h.os,h.tape,h.out,by simp;exact Nat.le_succ_of_le h.size,fun b hb hk=>?_⟩
 ·rcases bZ.1 hb with e|hb
  ·cases e;rw [aAW];simp
  ·have:=h.lt hb
   rw [aAW,if_neg oQ]
   exact h.own b o' hb
 ·simp only [dP,kJ]
  refine⟨fun hm=>?_,h.nodup⟩
  obtain⟨⟨b,o'⟩,hb,e⟩:=bH.1 hm
  have:=h.lt hb
  simp at e
  omega
 ·rcases bZ.1 hb with e|hb
  ·cases e;exact .inr h.size
  ·exact h.fresh b o' hb
 ·have:=h.size
  rw [aAW,if_neg oQ]
  exact h.keep b hb hk
class At(H:Hp)(b:Nat)(o:outParam Obj):Prop where
 mem:(b,o)∈H
instance At.head(b:Nat)(o:Obj)(r:Hp):At ((b,o)::r) b o:=⟨by simp⟩
instance At.tail(x:Nat×Obj)(r:Hp)(b:Nat)(o:Obj) [h:At r b o]:At (x::r) b o:=⟨cX _ h.mem⟩
class Upd(H:Hp)(b:Nat)(o':Obj)(H':outParam Hp):Prop where
 split:∃ l o r,H=l++(b,o)::r∧H'=l++(b,o')::r
instance Upd.head(b:Nat)(o o':Obj)(r:Hp):Upd ((b,o)::r) b o' ((b,o')::r):=⟨[],o,r,rfl,rfl⟩
instance Upd.tail(x:Nat×Obj)(r r':Hp)(b:Nat)(o':Obj) [h:Upd r b o' r']:Upd (x::r) b o' (x::r'):=
 ⟨let ⟨l,o,s,e1,e2⟩:=h.split;⟨x::l,o,s,by rw [e1];rfl,by rw [e2];rfl⟩⟩
class Out(H:Hp)(b:Nat)(o:outParam Obj)(r:outParam Hp):Prop where
 perm:H.Perm ((b,o)::r)
instance Out.head(b:Nat)(o:Obj)(r:Hp):Out ((b,o)::r) b o r:=⟨.refl _⟩
instance Out.tail(x:Nat×Obj)(r r':Hp)(b:Nat)(o:Obj) [h:Out r b o r']:Out (x::r) b o (x::r'):=⟨(h.perm.cons x).trans (.swap _ _ _)⟩
class fA(H:Hp)(Hc:Hp)(r:outParam Hp):Prop where
 perm:H.Perm (Hc++r)
instance fA.nil(H:Hp):fA H [] H:=⟨.refl _⟩
instance(priority:=1200) fA.cons (H:Hp) (b:Nat) (o:Obj) (Hc r r':Hp) [h1:Out H b o r] [h2:fA r Hc r']:fA H ((b,o)::Hc) r':=⟨h1.perm.trans (h2.perm.cons _)⟩
theorem St.perm(h:St K w0 H w){H':Hp}(hp:H.Perm H'):St K w0 H' w:=
 ⟨fun b o hb=>h.own b o (hp.mem_iff.2 hb),(hp.map _).nodup_iff.1 h.nodup,fun b o hb=>h.fresh b o (hp.mem_iff.2 hb),h.os,h.tape,h.out,h.size,h.keep⟩
theorem St.drop{Hc r:Hp}(h:St K w0 (Hc++r) w):St K w0 Hc w:=
 ⟨fun b o hb=>h.own b o (aO _ hb),(by have:=h.nodup;rw [aV] at this;exact (fS.1 this).1),fun b o hb=>h.fresh b o (aO _ hb),h.os,h.tape,h.out,h.size,h.keep⟩
theorem St.set(h:St K w0 H w){b:Nat}{o':Obj}{H':Hp} [hu:Upd H b o' H']{w':World}(hs:w'.heap.size=w.heap.size)(hb:w'.heap[b]?=some o')(ho:∀ k,k≠b→w'.heap[k]?=w.heap[k]?)
  (hos:w'.os=w.os) (htp:w'.tape=w.tape) (hot:w'.output=w.output):St K w0 H' w':=by
 obtain⟨l,o,r,e1,e2⟩:=hu.split
 subst e1 e2
 have hn:=h.nodup
 simp only [aV,dP] at hn
 refine⟨fun k o2 hk=>?_,by simpa using hn,fun k o2 hk=>?_,hos.trans h.os,htp.trans h.tape,hot.trans h.out,by rw [hs];exact h.size,fun k hk hK=>?_⟩
 ·by_cases e:k=b
  ·subst e
   rw [hb]
   rcases bK.1 hk with hk|hk
   ·exfalso
    have h1:k∈l.map Prod.fst:=bH.2 ⟨_,hk,rfl⟩
    exact (fS.1 hn).2.2 k h1 k (by simp) rfl
   ·rcases bZ.1 hk with hk|hk
    ·cases hk;rfl
    ·exfalso
     have h1:k∈r.map Prod.fst:=bH.2 ⟨_,hk,rfl⟩
     have:=(fS.1 hn).2.1
     simp only [kJ] at this
     exact this.1 h1
  ·rw [ho k e]
   refine h.own k o2 ?_
   rcases bK.1 hk with hk|hk
   ·exact aO _ hk
   ·rcases bZ.1 hk with hk|hk
    ·cases hk;exact absurd rfl e
    ·exact aN _ (cX _ hk)
 ·rcases bK.1 hk with hk|hk
  ·exact h.fresh k o2 (aO _ hk)
  ·rcases bZ.1 hk with hk|hk
   ·cases hk;exact h.fresh b o (by simp)
   ·exact h.fresh k o2 (aN _ (cX _ hk))
 ·by_cases e:k=b
  ·subst e
   rcases h.fresh k o (by simp) with h1|h1
   ·exact absurd h1 hK
   ·omega
  ·rw [ho k e];exact h.keep k hk hK
theorem St.comp{Hc Hf H':Hp}{w':World}(h:St K w0 (Hc++Hf) w)(hc:St (Hc.map Prod.fst) w H' w'):St K w0 (H'++Hf) w':=by
 have hn:=h.nodup
 rw [aV] at hn
 obtain⟨n1,n2,n3⟩:=fS.1 hn
 have hlt:∀ b o,(b,o)∈Hf→b<w.heap.size:=fun b o hb=>h.lt (aN _ hb)
 have hap:∀ b o,(b,o)∈Hf→b∉Hc.map Prod.fst:=fun b o hb hm=>n3 b hm b (bH.2 ⟨_,hb,rfl⟩) rfl
 refine⟨fun b o hb=>?_,?_,fun b o hb=>?_,hc.os.trans h.os,hc.tape.trans h.tape,hc.out.trans h.out,fN h.size hc.size,fun b hb hK=>?_⟩
 ·rcases bK.1 hb with hb|hb
  ·exact hc.own b o hb
  ·rw [hc.keep b (hlt b o hb) (hap b o hb)];exact h.own b o (aN _ hb)
 ·rw [aV]
  refine fS.2 ⟨hc.nodup,n2,fun a ha b hb e=>?_⟩
  subst e
  obtain⟨⟨x,o⟩,hx,rfl⟩:=bH.1 ha
  obtain⟨⟨y,o2⟩,hy,hxy⟩:=bH.1 hb
  simp only at hxy
  subst hxy
  rcases hc.fresh y o hx with h1|h1
  ·exact hap y o2 hy h1
  ·have:=hlt y o2 hy;omega
 ·rcases bK.1 hb with hb|hb
  ·rcases hc.fresh b o hb with h1|h1
   ·obtain⟨⟨x,o2⟩,hx,rfl⟩:=bH.1 h1
    exact h.fresh x o2 (aO _ hx)
   ·exact .inr (fN h.size h1)
  ·exact h.fresh b o (aN _ hb)
 ·have:b∉Hc.map Prod.fst:=fun hm=>by
   obtain⟨⟨x,o⟩,hx,rfl⟩:=bH.1 hm
   rcases h.fresh x o (aO _ hx) with h1|h1
   ·exact hK h1
   ·omega
  rw [hc.keep b (Nat.lt_of_lt_of_le hb h.size) this]
  exact h.keep b hb hK
theorem St.ro(h:St K w0 H w){b:Nat}{o:Obj}(hb:w0.heap[b]?=some o)(hk:b∉K):w.heap[b]?=some o:=by
 rw [h.keep b (gK.1 hb).1 hk];exact hb
theorem St.at(h:St K w0 H w){b:Nat}{o:Obj} [ha:At H b o]:w.heap[b]?=some o:=h.own b o ha.mem
end
structure Ctx where
 n:Nat
 K:List Nat
 w0:World
 ds:List Deferred:=[]
def sI(C:Ctx)(Q:Exit→Fr→Hp→Prop):Exit→Act→World→Prop:=fun e a w=>∃ ρ H,jV C.ds C.n ρ a∧St C.K C.w0 H w∧Q e ρ H
def SW(P:Program)(C:Ctx)(c:Code)(Q:Exit→Fr→Hp→Prop)(ρ:Fr)(H:Hp):Prop:=∀ a w,jV C.ds C.n ρ a→St C.K C.w0 H w→c.wp P (sI C Q) a w
def SL(P:Program)(C:Ctx)(L:List Oper)(Q:Exit→Fr→Hp→Prop)(l:List Oper)(ρ:Fr)(H:Hp):Prop:=
 ∀ a w,jV C.ds C.n ρ a→St C.K C.w0 H w→wpList P L.toArray (sI C Q) l a w
def SQ(P:Program)(C:Ctx)(L:List Oper)(Q:Fr→Prop)(l:List Oper)(ρ:Fr)(H:Hp):Prop:=
 ∀ a,jV C.ds C.n ρ a→wpQuiet P L.toArray (fun w=>St C.K C.w0 H w) (fun a'=>∃ ρ',jV C.ds C.n ρ' a'∧Q ρ') l a
def SH(P:Program)(C:Ctx)(L:List Oper)(Q:Fr→Prop)(l:List Oper)(ρ:Fr)(H:Hp):Prop:=
 ∀ a w,jV C.ds C.n ρ a→St C.K C.w0 H w→wpStill P L.toArray w (fun a'=>∃ ρ',jV C.ds C.n ρ' a'∧Q ρ') l a
def Pu(P:Program)(C:Ctx)(ρ:Fr)(H:Hp)(o:Oper)(v:Value):Prop:=∀ a w,jV C.ds C.n ρ a→St C.K C.w0 H w→(execOp a.eval o).run P w=.ok (.value v) w
def thn(K:Fr→Hp→Prop)(Q:Exit→Fr→Hp→Prop):Exit→Fr→Hp→Prop
 | .normal,ρ,H=>K ρ H
 | .exit id,ρ,H=>Q (.exit id) ρ H
 | .goto l,ρ,H=>Q (.goto l) ρ H
 | .ret,ρ,H=>Q .ret ρ H
 | .panic c,ρ,H=>Q (.panic c) ρ H
 | .outgrown,ρ,H=>Q .outgrown ρ H
def blk(id:Nat)(Q:Exit→Fr→Hp→Prop):Exit→Fr→Hp→Prop
 | .normal,ρ,H=>Q .normal ρ H
 | .exit id',ρ,H=>bif Nat.beq id' id then Q .normal ρ H else Q (.exit id') ρ H
 | .goto l,ρ,H=>Q (.goto l) ρ H
 | .ret,ρ,H=>Q .ret ρ H
 | .panic c,ρ,H=>Q (.panic c) ρ H
 | .outgrown,ρ,H=>Q .outgrown ρ H
section
variable {P:Program}{C:Ctx}{Q:Exit→Fr→Hp→Prop}{ρ:Fr}{H:Hp}{L l rest:List Oper}{o:Oper}
theorem vO{a b:Nat}(h:a≠b):Nat.beq a b=false:=by
 cases hb:Nat.beq a b with
 | false=>rfl
 | true=>exact absurd (kC hb) h
theorem pL{x y:Code}(h:SW P C x (thn (SW P C y Q) Q) ρ H):SW P C (.seq x y) Q ρ H:=fun a w hf hs=>
 wp_seq (wp_mono (h a w hf hs) fun e a w ⟨ρ,H,hf,hs,hq⟩=>by cases e <;> first|exact hq a w hf hs|exact⟨ρ,H,hf,hs,hq⟩)
theorem SW.block{id:Nat}{c:Code}(h:SW P C c (blk id Q) ρ H):SW P C (.block id c) Q ρ H:=fun a w hf hs=>
 wp_block (wp_mono (h a w hf hs) fun e a w ⟨ρ,H,hf,hs,hq⟩=>by
  cases e with
  | exit id'=>
   simp only [Exit.inBlock]
   by_cases hid:id'=id
   ·subst hid
    rw [if_pos rfl]
    have:Nat.beq id' id'=true:=zO id'
    simp only [blk,this,cond_true] at hq
    exact⟨ρ,H,hf,hs,hq⟩
   ·rw [if_neg hid]
    simp only [blk,vO hid,cond_false] at hq
    exact⟨ρ,H,hf,hs,hq⟩
  | _=>exact⟨ρ,H,hf,hs,hq⟩)
theorem SW.skip(h:Q .normal ρ H):SW P C .skip Q ρ H:=fun _ _ hf hs=>wp_skip ⟨ρ,H,hf,hs,h⟩
theorem aDV{id:Nat}(h:Q (.exit id) ρ H):SW P C (.exit id) Q ρ H:=fun _ _ hf hs=>wp_exit ⟨ρ,H,hf,hs,h⟩
theorem aGi(h:Q .ret ρ H):SW P C .ret Q ρ H:=fun _ _ hf hs=>wp_ret ⟨ρ,H,hf,hs,h⟩
theorem aAO{c:Operand}{x y:Code}(hc:ev ρ c=some (.bool true))(h:SW P C x Q ρ H):SW P C (.cond c x y) Q ρ H:=fun a w hf hs=>wp_cond_true (hf.eval hc) (h a w hf hs)
theorem aAN{c:Operand}{x y:Code}(hc:ev ρ c=some (.bool false))(h:SW P C y Q ρ H):SW P C (.cond c x y) Q ρ H:=fun a w hf hs=>wp_cond_false (hf.eval hc) (h a w hf hs)
theorem jK{c:Operand}{x y:Code}{b:Bool}(hc:ev ρ c=some (.bool b))(ht:b=true→SW P C x Q ρ H)(hf:b=false→SW P C y Q ρ H):SW P C (.cond c x y) Q ρ H:=fun a w hF hs=>
 wp_cond_split (hF.eval hc) (fun e=>ht e a w hF hs) (fun e=>hf e a w hF hs)
theorem aAP{c:Code}{r:Fr}{Hc s:Hp}(hr:subF r ρ)(hp:fA H Hc s)(h:SW P C c Q r Hc):SW P C c Q ρ H:=fun a w hf hs=>h a w (hf.sub hr) ((hs.perm hp.perm).drop)
theorem SW.mono{c:Code}{Q':Exit→Fr→Hp→Prop}(h:SW P C c Q' ρ H)(hq:∀ e ρ H,Q' e ρ H→Q e ρ H):SW P C c Q ρ H:=fun a w hf hs=>
 wp_mono (h a w hf hs) fun e _ _ ⟨ρ,H,hf,hs,h⟩=>⟨ρ,H,hf,hs,hq e ρ H h⟩
def aPF(I:Nat→Fr→Hp→Prop)(k:Nat)(ρ:Fr)(H:Hp):Prop:=∃ k' ρ' Hc s,k'<k∧subF ρ' ρ∧H.Perm (Hc++s)∧I k' ρ' Hc
theorem aLb{c:Code}(I:Nat→Fr→Hp→Prop)(k0:Nat){r:Fr}{Hc s:Hp}(hr:subF r ρ)(hp:fA H Hc s)(h0:I k0 r Hc)
  (round:∀ k ρ H,I k ρ H→SW P C c (thn (aPF I k) Q) ρ H):SW P C (.loop c) Q ρ H:=fun a w hf hs=>
 wp_loop_ghost (fun k a w=>∃ ρ H,jV C.ds C.n ρ a∧St C.K C.w0 H w∧I k ρ H) k0 ⟨r,Hc,hf.sub hr,(hs.perm hp.perm).drop,h0⟩ fun k a w ⟨ρ,H,hf,hs,hI⟩=>
  wp_mono (round k ρ H hI a w hf hs) fun e a w ⟨ρ,H,hf,hs,hq⟩=>by
   cases e <;> first
    | exact⟨ρ,H,hf,hs,hq⟩
    | exact (let ⟨k',ρ',Hc,s,hk,hr,hp,hI⟩:=hq;⟨k',hk,ρ',Hc,hf.sub hr,(hs.perm hp).drop,hI⟩)
theorem mZ{id:Nat}(h:SL P C l Q l ρ H):SW P C (.region id l.toArray false) Q ρ H:=fun a w hf hs=>wp_region_lit (h a w hf hs)
theorem aGg{id:Nat}(hm:P.follows .mixedOrders=true)(hB:Region.lexB .any l.toArray=true)(h:SQ P C l (fun ρ'=>Q .normal ρ' H) l ρ H):SW P C (.region id l.toArray true) Q ρ H:=fun a w hf hs=>
 wp_region_quiet (C:=fun w=>St C.K C.w0 H w) hm hB (hs.drawn _) (by
  have:=h a hf
  have h2:∀ (l2:List Oper) (a:Act) (Q1 Q2:Act→Prop),(∀ a,Q1 a→Q2 a)→wpQuiet P l.toArray (fun w=>St C.K C.w0 H w) Q1 l2 a→wpQuiet P l.toArray (fun w=>St C.K C.w0 H w) Q2 l2 a:=by
   intro l2
   induction l2 with
   | nil=>intro a Q1 Q2 h12 h;exact h12 a h
   | cons x r ih=>
    intro a Q1 Q2 h12 h
    simp only [wpQuiet] at h ⊢
    split
    ·rename_i hw;rw [if_pos hw] at h;exact Oper.quiet_mono (fun a=>ih a Q1 Q2 h12) h
    ·rename_i hw;rw [if_neg hw] at h;exact ih _ Q1 Q2 h12 h
  simpa using h2 l a _ _ (fun a' ⟨ρ',hf',hq⟩ w' hw'=>⟨ρ',H,hf',hw',hq⟩) this)
theorem jG(h:Q .normal ρ H):SL P C L Q [] ρ H:=fun _ _ hf hs=>⟨ρ,H,hf,hs,h⟩
theorem aM8{Q:Fr→Prop}(h:Q ρ):SQ P C L Q [] ρ H:=fun _ hf=>⟨ρ,hf,h⟩
def gd(L:List Oper)(ρ:Fr)(o:Oper):Option Bool:=
 match o.guard with
 | none=>some true
 | some (j,want)=>
  match L[j]? with
  | some oj=>
   match oj.dst with
   | some d=>
    match lk ρ d with
    | some (.bool b)=>some (bif want then b else !b)
    | some (.tuple _)=>some false
    | _=>none
   | none=>none
  | none=>none
theorem gZ{a:Act}(hf:jV C.ds C.n ρ a){b:Bool}(h:gd L ρ o=some b):Region.wanted o (yielded L.toArray a.tmps)=b:=by
 unfold gd at h
 unfold Region.wanted
 split at h
 ·rename_i hg;rw [hg];simpa using h
 ·rename_i j want hg
  rw [hg]
  dsimp only
  split at h
  ·rename_i oj hj
   split at h
   ·rename_i d hd
    have hy:((L.toArray[j]?).bind (·.dst))=some d:=by simp [hj,hd]
    split at h
    ·rename_i b' hl
     have:=hf.t _ _ hl
     simp only [yielded,hy,Option.bind_some,this]
     simp only [cV] at h
     subst h
     cases want <;> cases b' <;> rfl
    ·rename_i cs hl
     have:=hf.t _ _ hl
     simp only [yielded,hy,Option.bind_some,this]
     simpa using h
    ·cases h
   ·cases h
  ·cases h
theorem bP{v:Value}(h:Pu P C ρ H o v)(hg:gd L ρ o=some true){d:Option Nat}(hd:dk C.n o.dst=some d)(hk:SL P C L Q rest (pt ρ d v) H):SL P C L Q (o::rest) ρ H:=fun a w hf hs=>by
 unfold wpList
 rw [if_pos (gZ hf hg)]
 refine .inl ?_
 unfold Oper.wp
 rw [h a w hf hs,Oper.upon_value]
 exact hk _ _ (hf.put hd v) hs
theorem gN{Q:Fr→Prop}{v:Value}(h:Pu P C ρ H o v)(hg:gd L ρ o=some true){d:Option Nat}(hd:dk C.n o.dst=some d)(hk:SQ P C L Q rest (pt ρ d v) H):SQ P C L Q (o::rest) ρ H:=fun a hf=>by
 unfold wpQuiet
 rw [if_pos (gZ hf hg)]
 refine⟨v,fun w hs=>?_,hk _ (hf.put hd v)⟩
 unfold Oper.quietAt
 rw [h a w hf hs]
 exact⟨rfl,rfl⟩
theorem zR(hg:gd L ρ o=some false){d:Option Nat}(hd:dk C.n o.dst=some d)(hk:SL P C L Q rest (pt ρ d undef) H):SL P C L Q (o::rest) ρ H:=fun a w hf hs=>by
 unfold wpList
 rw [if_neg (by rw [gZ hf hg];decide)]
 exact hk _ _ (hf.put hd _) hs
theorem dX{p:Prop} [Decidable p](h:Pu P C ρ H o (.bool (decide p)))(hg:gd L ρ o=some true){d:Option Nat}(hd:dk C.n o.dst=some d)(ht:p→SL P C L Q rest (pt ρ d (.bool true)) H)(hf:¬ p→SL P C L Q rest (pt ρ d (.bool false)) H) :
  SL P C L Q (o::rest) ρ H:=by
 by_cases hp:p
 ·exact bP (by rw [decide_eq_true hp] at h;exact h) hg hd (ht hp)
 ·exact bP (by rw [decide_eq_false hp] at h;exact h) hg hd (hf hp)
theorem aAL{Q:Fr→Prop}{p:Prop} [Decidable p](h:Pu P C ρ H o (.bool (decide p)))(hg:gd L ρ o=some true){d:Option Nat}(hd:dk C.n o.dst=some d)(ht:p→SQ P C L Q rest (pt ρ d (.bool true)) H)(hf:¬ p→SQ P C L Q rest (pt ρ d (.bool false)) H) :
  SQ P C L Q (o::rest) ρ H:=by
 by_cases hp:p
 ·exact gN (by rw [decide_eq_true hp] at h;exact h) hg hd (ht hp)
 ·exact gN (by rw [decide_eq_false hp] at h;exact h) hg hd (hf hp)
end
section
variable {P:Program}{C:Ctx}{ρ:Fr}{H:Hp}{o:Oper}
theorem sX(t:TypeId) [h:cG P t](w:World):(isAgg t).run P w=.ok false w:=by
 obtain⟨d,hd,hr⟩:=h.ok
 unfold isAgg
 rw [Sem.run_bind,run_underlying hd w]
 cases d <;> simp_all [TypeDesc.isRow]
theorem aBv(t:TypeId){n:Nat} [h:fC P t n](w:World):(isAgg t).run P w=.ok true w:=by
 obtain⟨d,hd,hr⟩:=h.ok
 unfold isAgg
 rw [Sem.run_bind,run_underlying hd w]
 cases d <;> simp_all [TypeDesc.isRow]
theorem eQ{t:TypeId}{n:Nat}(h:(P.info? t).map (·.size)=some n)(w:World):(sizeOf t).run P w=.ok n w:=by
 cases hq:P.info? t with
 | none=>simp [hq] at h
 | some i=>simp [hq] at h;simp [sizeOf,typeInfo,hq,h]
theorem aD3{w:World}{b:Nat}{l:List Value}{T:TypeId}{fz:Nat×Nat}(hb:w.heap[b]?=some (.cells l.toArray T fz))(i:Nat):w.cell? ⟨b,i,none⟩=l[i]?:=by
 rw [cell_of_row w b i _ T fz hb];simp
theorem lN(b o j:Nat):(⟨b,o,none⟩:Addr).add j=⟨b,o+j,none⟩:=by unfold Addr.add;split <;> simp_all
theorem zG{w:World}{t:TypeId} [cG P t]{b i:Nat}{l:List Value}{T:TypeId}{fz:Nat×Nat}{v:Value}(hb:w.heap[b]?=some (.cells l.toArray T fz))(hv:l[i]?=some v) :
  (loadVar t ⟨b,i,none⟩).run P w=.ok v w:=by
 simp [loadVar,sX,aD3 hb,hv]
theorem nY{w:World}{t:TypeId}{n:Nat} [hr:fC P t n]{b i:Nat}{l:List Value}{T:TypeId}{fz:Nat×Nat}(hb:w.heap[b]?=some (.cells l.toArray T fz)){r:List Value}(hv:(l.drop i).take n=r)(hn:r.length=n) :
  (loadVar t ⟨b,i,none⟩).run P w=.ok (.agg r.toArray) w:=by
 obtain⟨d,hd,hdr⟩:=hr.ok
 refine run_loadVar_mid w b i t r d (fun j v hj=>?_) hd hdr (by rw [hn];exact hr.size)
 rw [aD3 hb,← hj,← hv,bE]
 have:j<n:=by have:=(aE.1 hj).1;omega
 simp [this]
theorem fB{x:Operand}{v:Value}(ho:o.op=.move x)(hx:ev ρ x=some v):Pu P C ρ H o v:=fun a w hf _=>by
 unfold execOp;rw [ho];simp [hf.eval hx]
theorem rY{x:Operand}{v:Value}(ho:o.op=.assign x)(hx:ev ρ x=some v):Pu P C ρ H o v:=fun a w hf _=>by
 unfold execOp;rw [ho];simp [hf.eval hx]
theorem wO{c x y:Operand}{v:Value}(ho:o.op=.pick c x y)(hc:ev ρ c=some (.bool true))(hx:ev ρ x=some v):Pu P C ρ H o v:=fun a w hf _=>by
 unfold execOp;rw [ho];simp [hf.eval hc,hf.eval hx,asBool]
theorem wN{c x y:Operand}{v:Value}(ho:o.op=.pick c x y)(hc:ev ρ c=some (.bool false))(hx:ev ρ y=some v):Pu P C ρ H o v:=fun a w hf _=>by
 unfold execOp;rw [ho];simp [hf.eval hc,hf.eval hx,asBool]
theorem jI{t:TypeId}{x:Operand}{b i:Nat}{l:List Value}{T:TypeId}{v:Value}(ho:o.op=.load t x)(hx:ev ρ x=some (.pointer (some ⟨b,i,none⟩))) [cG P t] [At H b (cl l T)](hv:l[i]?=some v):Pu P C ρ H o v:=fun a w hf hs=>by
 unfold execOp;rw [ho];simp [hf.eval hx,Instr.loadAt,Instr.sureAddr,zG hs.at hv]
theorem mS{t:TypeId}{n:Nat}{x:Operand}{b i:Nat}{l r:List Value}{T:TypeId}(ho:o.op=.load t x)(hx:ev ρ x=some (.pointer (some ⟨b,i,none⟩))) [fC P t n] [At H b (cl l T)](hv:(l.drop i).take n=r)(hn:r.length=n):Pu P C ρ H o (.agg r.toArray):=fun a w hf hs=>by
 unfold execOp;rw [ho];simp [hf.eval hx,Instr.loadAt,Instr.sureAddr,nY hs.at hv hn]
theorem uA{t:TypeId}{x:Operand}{b i:Nat}{l:List Value}{T:TypeId}{fz:Nat×Nat}{v:Value}(ho:o.op=.load t x)(hx:ev ρ x=some (.pointer (some ⟨b,i,none⟩))) [cG P t](hb:C.w0.heap[b]?=some (.cells l.toArray T fz))(hk:b∉C.K)(hv:l[i]?=some v):Pu P C ρ H o v:=fun a w hf hs=>by
 unfold execOp;rw [ho];simp [hf.eval hx,Instr.loadAt,Instr.sureAddr,zG (hs.ro hb hk) hv]
theorem aA4{t:TypeId}{n:Nat}{x:Operand}{b i:Nat}{l r:List Value}{T:TypeId}{fz:Nat×Nat}(ho:o.op=.load t x)(hx:ev ρ x=some (.pointer (some ⟨b,i,none⟩))) [fC P t n](hb:C.w0.heap[b]?=some (.cells l.toArray T fz))(hk:b∉C.K)(hv:(l.drop i).take n=r)(hn:r.length=n):Pu P C ρ H o (.agg r.toArray):=fun a w hf hs=>by
 unfold execOp;rw [ho];simp [hf.eval hx,Instr.loadAt,Instr.sureAddr,nY (hs.ro hb hk) hv hn]
theorem sA{x:Operand}{ad:Addr}(ho:o.op=.nilCheck x)(hx:ev ρ x=some (.pointer (some ad))):Pu P C ρ H o (.pointer (some ad)):=fun a w hf _=>by
 unfold execOp;rw [ho];simp [hf.eval hx]
theorem gM{s i t off:Nat}{x:Operand}{b j:Nat}(ho:o.op=.fieldAddr s x i)(hx:ev ρ x=some (.pointer (some ⟨b,j,none⟩))) [h:aU P s i t off]{j':Nat}(hj:j+off=j'):Pu P C ρ H o (.pointer (some ⟨b,j',none⟩)):=fun a w hf _=>by
 obtain⟨fs,f,hu,hi,hof,ht⟩:=h.ok
 obtain⟨m,hm,hm0⟩:=h.nz
 subst hj
 unfold execOp;rw [ho]
 simp [hf.eval hx,Instr.fieldAt,run_underlying hu,hi,Instr.sureAddr,fieldPlace,eQ (ht▸hm),hm0,lN,hof]
theorem sV{s i t off:Nat}{x:Operand}{l:List Value}{v:Value}(ho:o.op=.field s x i)(hx:ev ρ x=some (.agg l.toArray)) [h:aU P s i t off] [cG P t](hv:l[off]?=some v):Pu P C ρ H o v:=fun a w hf _=>by
 obtain⟨fs,f,hu,hi,hof,ht⟩:=h.ok
 subst hof ht
 unfold execOp;rw [ho]
 simp [hf.eval hx,Instr.field,run_underlying hu,hi,asAgg,part,sX,hv]
theorem tX{s i t off n:Nat}{x:Operand}{l r:List Value}(ho:o.op=.field s x i)(hx:ev ρ x=some (.agg l.toArray)) [h:aU P s i t off] [hr:fC P t n](hv:(l.drop off).take n=r):Pu P C ρ H o (.agg r.toArray):=fun a w hf _=>by
 obtain⟨fs,f,hu,hi,hof,ht⟩:=h.ok
 subst hof ht
 unfold execOp;rw [ho]
 simp [hf.eval hx,Instr.field,run_underlying hu,hi,asAgg,part,aBv,eQ hr.size,← hv,List.take_drop]
theorem gY{t e n:Nat}{x y:Operand}{b j len cap:Nat}{kk:IntKind}{i:Int}(ho:o.op=.indexAddr t x y)(hx:ev ρ x=some (.slice (some ⟨b,j,none⟩) len cap))(hy:ev ρ y=some (.int kk i)) [h:cI P t e n]
  (h0:0≤i) (h1:i<len) {j':Nat} (hj:j+i.toNat*n=j'):Pu P C ρ H o (.pointer (some ⟨b,j',none⟩)):=fun a w hf _=>by
 subst hj
 unfold execOp;rw [ho]
 simp [hf.eval hx,hf.eval hy,Instr.indexAt,run_underlying h.ok,asIntOf,h0,h1,eQ h.size,lN]
theorem aBy{t e n len:Nat}{x y:Operand}{b j:Nat}{kk:IntKind}{i:Int}(ho:o.op=.indexAddr t x y)(hx:ev ρ x=some (.pointer (some ⟨b,j,none⟩)))(hy:ev ρ y=some (.int kk i)) [h:kZ P t len e n]
  (h0:0≤i) (h1:i<len) {j':Nat} (hj:j+i.toNat*n=j'):Pu P C ρ H o (.pointer (some ⟨b,j',none⟩)):=fun a w hf _=>by
 subst hj
 unfold execOp;rw [ho]
 simp [hf.eval hx,hf.eval hy,Instr.indexAt,run_underlying h.ok,asIntOf,Instr.sureAddr,h0,h1,eQ h.size,lN]
theorem aLT{t e n len:Nat}{x y:Operand}{l:List Value}{kk:IntKind}{i:Int}{v:Value}(ho:o.op=.index t x y)(hx:ev ρ x=some (.agg l.toArray))(hy:ev ρ y=some (.int kk i)) [h:kZ P t len e n] [cG P e]
  (h0:0≤i) (h1:i<len) (hv:l[i.toNat*n]?=some v):Pu P C ρ H o v:=fun a w hf _=>by
 unfold execOp;rw [ho]
 simp [hf.eval hx,hf.eval hy,Instr.index,run_underlying h.ok,asIntOf,h0,h1,eQ h.size,part,sX,hv]
section
variable {t t':TypeId}{x y:Operand}{k:IntKind}{m n r:Int}
theorem iI(op:BinOp)(w:World)(k k':IntKind)(m n:Int):(eqGuard op t x y (.int k m) (.int k' n)).run P w=.ok () w:=by
 cases op <;> simp [eqGuard]
theorem tV(ho:o.op=.binOp .add t x y t')(hx:ev ρ x=some (.int k m))(hy:ev ρ y=some (.int k n))(hr:k.wrap (m+n)=r):Pu P C ρ H o (.int k r):=fun a w hf _=>by
 subst hr;unfold execOp;rw [ho];simp [hf.eval hx,hf.eval hy,iI,binOp,Op.intArith]
theorem aDt(ho:o.op=.binOp .sub t x y t')(hx:ev ρ x=some (.int k m))(hy:ev ρ y=some (.int k n))(hr:k.wrap (m-n)=r):Pu P C ρ H o (.int k r):=fun a w hf _=>by
 subst hr;unfold execOp;rw [ho];simp [hf.eval hx,hf.eval hy,iI,binOp,Op.intArith]
theorem kR(ho:o.op=.binOp .mul t x y t')(hx:ev ρ x=some (.int k m))(hy:ev ρ y=some (.int k n))(hr:k.wrap (m*n)=r):Pu P C ρ H o (.int k r):=fun a w hf _=>by
 subst hr;unfold execOp;rw [ho];simp [hf.eval hx,hf.eval hy,iI,binOp,Op.intArith]
theorem aCv(ho:o.op=.binOp .quo t x y t')(hx:ev ρ x=some (.int k m))(hy:ev ρ y=some (.int k n))(hn:n≠0)(hr:k.wrap (m.tdiv n)=r):Pu P C ρ H o (.int k r):=fun a w hf _=>by
 subst hr;unfold execOp;rw [ho];simp [hf.eval hx,hf.eval hy,iI,binOp,Op.intDiv,hn]
theorem aCw(ho:o.op=.binOp .rem t x y t')(hx:ev ρ x=some (.int k m))(hy:ev ρ y=some (.int k n))(hn:n≠0)(hr:m.tmod n=r):Pu P C ρ H o (.int k r):=fun a w hf _=>by
 subst hr;unfold execOp;rw [ho];simp [hf.eval hx,hf.eval hy,iI,binOp,Op.intDiv,hn]
theorem pH(ho:o.op=.binOp .lss t x y t')(hx:ev ρ x=some (.int k m))(hy:ev ρ y=some (.int k n)):Pu P C ρ H o (.bool (decide (m<n))):=fun a w hf _=>by
 unfold execOp;rw [ho];simp [hf.eval hx,hf.eval hy,iI,binOp,Op.intCmp]
theorem pG(ho:o.op=.binOp .leq t x y t')(hx:ev ρ x=some (.int k m))(hy:ev ρ y=some (.int k n)):Pu P C ρ H o (.bool (decide (m≤n))):=fun a w hf _=>by
 unfold execOp;rw [ho];simp [hf.eval hx,hf.eval hy,iI,binOp,Op.intCmp]
theorem pF(ho:o.op=.binOp .gtr t x y t')(hx:ev ρ x=some (.int k m))(hy:ev ρ y=some (.int k n)):Pu P C ρ H o (.bool (decide (n<m))):=fun a w hf _=>by
 unfold execOp;rw [ho];simp [hf.eval hx,hf.eval hy,iI,binOp,Op.intCmp]
theorem pE(ho:o.op=.binOp .geq t x y t')(hx:ev ρ x=some (.int k m))(hy:ev ρ y=some (.int k n)):Pu P C ρ H o (.bool (decide (n≤m))):=fun a w hf _=>by
 unfold execOp;rw [ho];simp [hf.eval hx,hf.eval hy,iI,binOp,Op.intCmp]
theorem nE(ho:o.op=.binOp .eql t x y t')(hx:ev ρ x=some (.int k m))(hy:ev ρ y=some (.int k n)):Pu P C ρ H o (.bool (decide (m=n))):=fun a w hf _=>by
 unfold execOp;rw [ho];simp [hf.eval hx,hf.eval hy,iI,binOp,Op.intCmp];rfl
theorem pI(ho:o.op=.binOp .neq t x y t')(hx:ev ρ x=some (.int k m))(hy:ev ρ y=some (.int k n)):Pu P C ρ H o (.bool (decide (m≠n))):=fun a w hf _=>by
 unfold execOp;rw [ho];simp [hf.eval hx,hf.eval hy,iI,binOp,Op.intCmp,bne];rfl
theorem aFN{b:Bool}(ho:o.op=.unOp .not t x)(hx:ev ρ x=some (.bool b)):Pu P C ρ H o (.bool (!b)):=fun a w hf _=>by
 unfold execOp;rw [ho];simp [hf.eval hx,Op.unary]
theorem aPe(ho:o.op=.binOp .and t x y t')(hx:ev ρ x=some (.int k m))(hy:ev ρ y=some (.int k n))(hr:k.wrap ((BitVec.ofInt k.bits m &&& BitVec.ofInt k.bits n).toNat)=r):Pu P C ρ H o (.int k r):=fun a w hf _=>by
 subst hr;unfold execOp;rw [ho];simp only [hf.eval hx,hf.eval hy,Sem.run_bind,iI,Result.andThen_ok,binOp,Op.intBits,ne_eq,not_true_eq_false,if_false,Sem.run_pure]
theorem aCf(op:BinOp)(hop:op=.shl∨op=.shr)(w:World)(a b:Value):(eqGuard op t x y a b).run P w=.ok () w:=by
 rcases hop with rfl|rfl <;> simp [eqGuard]
theorem aPk{k2:IntKind}(ho:o.op=.binOp .shl t x y t')(hx:ev ρ x=some (.int k m))(hy:ev ρ y=some (.int k2 n))(hn:0≤n)(hr:k.wrap (m*2^(min n.toNat k.bits))=r):Pu P C ρ H o (.int k r):=fun a w hf _=>by
 have:¬ n<0:=oQ
 subst hr;unfold execOp;rw [ho];simp only [hf.eval hx,hf.eval hy,Sem.run_bind,aCf _ (.inl rfl),Result.andThen_ok,binOp,Op.shift,this,if_false,Sem.run_pure]
theorem aPl{k2:IntKind}(ho:o.op=.binOp .shr t x y t')(hx:ev ρ x=some (.int k m))(hy:ev ρ y=some (.int k2 n))(hn:0≤n)(hr:m.fdiv (2^(min n.toNat k.bits))=r):Pu P C ρ H o (.int k r):=fun a w hf _=>by
 have:¬ n<0:=oQ
 subst hr;unfold execOp;rw [ho];simp only [hf.eval hx,hf.eval hy,Sem.run_bind,aCf _ (.inr rfl),Result.andThen_ok,binOp,Op.shift,this,if_false,Sem.run_pure]
end
theorem w64{n:Int}(h : -9223372036854775808≤n∧n≤9223372036854775807):IntKind.i64.wrap n=n:=IntWalk.i64_in n h
theorem Pu.t{p:Prop} [Decidable p](h:Pu P C ρ H o (.bool (decide p)))(hp:p):Pu P C ρ H o (.bool true):=by rw [decide_eq_true hp] at h;exact h
theorem Pu.f{p:Prop} [Decidable p](h:Pu P C ρ H o (.bool (decide p)))(hp:¬ p):Pu P C ρ H o (.bool false):=by rw [decide_eq_false hp] at h;exact h
theorem aBm(op:BinOp)(t:TypeId)(x y:Operand)(w:World)(p q:Option Addr):(eqGuard op t x y (.pointer p) (.pointer q)).run P w=.ok () w:=by
 cases op <;> simp [eqGuard]
theorem aCL{t:TypeId} [h:qA P t](p:Option Addr)(w:World):(Op.equal t (.pointer p) (.pointer none)).run P w=.ok p.isNone w:=by
 obtain⟨e,he⟩:=h.ok
 cases p with
 | none=>unfold Op.equal Op.maxDepth Op.equalIn;simp [run_underlying he]
 | some a=>unfold Op.equal Op.maxDepth Op.equalIn;simp [run_underlying he]
theorem aAl{t t':TypeId}{x y:Operand}{p:Option Addr}(ho:o.op=.binOp .eql t x y t')(hx:ev ρ x=some (.pointer p))(hy:ev ρ y=some (.pointer none)) [qA P t]:Pu P C ρ H o (.bool p.isNone):=fun a w hf _=>by
 unfold execOp;rw [ho];simp [hf.eval hx,hf.eval hy,aBm,binOp,aCL]
theorem aAn{t t':TypeId}{x y:Operand}{p:Option Addr}(ho:o.op=.binOp .neq t x y t')(hx:ev ρ x=some (.pointer p))(hy:ev ρ y=some (.pointer none)) [qA P t]:Pu P C ρ H o (.bool p.isSome):=fun a w hf _=>by
 unfold execOp;rw [ho];cases p <;> simp [hf.eval hx,hf.eval hy,aBm,binOp,aCL]
end
class One(v:Value):Prop where
 ok:v.oneCell'=true
class OC(l:List Value):Prop where
 ok:∀ v∈l,v.oneCell'=true
instance(b:Bool):One (.bool b):=⟨rfl⟩
instance(k:IntKind)(n:Int):One (.int k n):=⟨rfl⟩
instance(p:Option Addr):One (.pointer p):=⟨rfl⟩
instance(p:Option Addr)(n c:Nat):One (.slice p n c):=⟨rfl⟩
instance(f:Fn)(x y:Array Value):One (.func f x y):=⟨rfl⟩
instance:OC []:=⟨by simp⟩
instance(v:Value)(l:List Value) [h1:One v] [h2:OC l]:OC (v::l):=⟨fun u hu=>by
 rcases bZ.1 hu with rfl|hu
 ·exact h1.ok
 ·exact h2.ok u hu⟩
instance(l r:List Value) [h1:OC l] [h2:OC r]:OC (l++r):=⟨fun u hu=>by
 rcases bK.1 hu with hu|hu
 ·exact h1.ok u hu
 ·exact h2.ok u hu⟩
instance(n:Nat)(v:Value) [h1:One v]:OC (List.replicate n v):=⟨fun u hu=>by rw [nK hu];exact h1.ok⟩
instance(n:Nat)(l:List Value) [h:OC l]:OC (l.take n):=⟨fun u hu=>h.ok u (dU hu)⟩
instance(n:Nat)(l:List Value) [h:OC l]:OC (l.drop n):=⟨fun u hu=>h.ok u (kN hu)⟩
instance(n:Nat)(l:List Value)(v:Value) [h:OC l] [h1:One v]:OC (l.set n v):=⟨fun u hu=>by
 rcases eY hu with hu|rfl
 ·exact h.ok u hu
 ·exact h1.ok⟩
instance{α:Type}(f:α→Value)(l:List α) [h:∀ x,One (f x)]:OC (l.map f):=⟨fun u hu=>by
 obtain⟨x,_,rfl⟩:=bH.1 hu
 exact (h x).ok⟩
instance{α:Type}(f:α→List Value)(l:List α) [h:∀ x,OC (f x)]:OC (l.flatMap f):=⟨fun u hu=>by
 obtain⟨x,_,hx⟩:=List.mem_flatMap.1 hu
 exact (h x).ok u hx⟩
instance At.appL(l r:Hp)(b:Nat)(o:Obj) [h:At l b o]:At (l++r) b o:=⟨aO _ h.mem⟩
instance At.appR(l r:Hp)(b:Nat)(o:Obj) [h:At r b o]:At (l++r) b o:=⟨aN _ h.mem⟩
instance Upd.appL(l l' r:Hp)(b:Nat)(o':Obj) [h:Upd l b o' l']:Upd (l++r) b o' (l'++r):=
 ⟨let ⟨x,o,y,e1,e2⟩:=h.split;⟨x,o,y++r,by rw [e1];simp,by rw [e2];simp⟩⟩
instance Upd.appR(l r r':Hp)(b:Nat)(o':Obj) [h:Upd r b o' r']:Upd (l++r) b o' (l++r'):=
 ⟨let ⟨x,o,y,e1,e2⟩:=h.split;⟨l++x,o,y,by rw [e1];simp,by rw [e2];simp⟩⟩
instance Out.appL(l r r':Hp)(b:Nat)(o:Obj) [h:Out l b o r']:Out (l++r) b o (r'++r):=⟨by simpa using h.perm.append_right r⟩
instance Out.appR(l r r':Hp)(b:Nat)(o:Obj) [h:Out r b o r']:Out (l++r) b o (l++r'):=⟨(h.perm.append_left l).trans gR⟩
def Tri(P:Program)(f:FuncId)(vs:List Value)(Hc:Hp)(Pre:World→Prop)(R:Value→Hp→Prop):Prop:=
 ∀ w,Own Hc w→Pre w→Calls P f vs.toArray w fun e w'=>∃ v H',e=.returned v∧St (Hc.map Prod.fst) w H' w'∧R v H'
def aGw(vs:List Value):Nat→Fr
 | k=>match vs with
  | []=>[]
  | v::r=>(k,v)::aGw r (k+1)
section
variable {P:Program}{C:Ctx}{Q:Exit→Fr→Hp→Prop}{ρ:Fr}{H H':Hp}{L rest:List Oper}{o:Oper}
theorem aC3{l:List Value}{i:Nat}(v:Value)(hi:i<l.length):l.take i++[v]++l.drop (i+1)=l.set i v:=by
 rw [gC,if_pos hi];simp
theorem St.setRow{K:List Nat}{w0 w:World}(h:St K w0 H w){b:Nat}{l l':List Value}{T:TypeId} [At H b (cl l T)] [Upd H b (cl l' T) H']:St K w0 H' (w.setRow b l'.toArray):=
 h.set (b:=b) (o':=cl l' T) (by simp) (setRow_heap w b _ _ T _ h.at) (fun k hk=>setRow_other w b k _ hk) rfl rfl rfl
theorem aC1{w:World}{t:TypeId} [ht:jX P t]{b i:Nat}{l:List Value}{T:TypeId}{v:Value} [h1:One v](hb:w.heap[b]?=some (cl l T))(hi:i<l.length) :
  (storeVar t ⟨b,i,none⟩ v).run P w=.ok () (w.setRow b (l.set i v).toArray):=by
 have hv:v.cells=#[v]:=by have:=h1.ok;cases v <;> first|rfl|simp [Value.oneCell'] at this
 have:=run_storeCells_at P b i T [v] 0 l.toArray w hb (by simp;omega) (by simp [h1.ok])
 simp only [jQ,cO,aC3 v hi] at this
 simp [storeVar,eQ ht.size,hv,this]
theorem aC2{w:World}{t:TypeId}{n:Nat} [ht:fC P t n]{b i:Nat}{l r:List Value}{T:TypeId} [h1:OC r](hr:r.length=n)(hb:w.heap[b]?=some (cl l T))(hi:i+n≤l.length) :
  (storeVar t ⟨b,i,none⟩ (.agg r.toArray)).run P w=.ok () (w.setRow b (l.take i++r++l.drop (i+n)).toArray):=by
 have:=run_storeCells_at P b i T r 0 l.toArray w hb (by simp;omega) h1.ok
 simp only [jQ,hr] at this
 simp [storeVar,eQ ht.size,Value.cells,hr,this]
theorem nH(hg:gd L ρ o=some true){d:Option Nat}(hd:dk C.n o.dst=some d)
  (h:∀ a w,jV C.ds C.n ρ a→St C.K C.w0 H w→∃ v w' H',((execOp a.eval o).run P w=.ok (.value v) w'∨(execOp a.eval o).run P w=.ok .skip w'∧v=undef)∧St C.K C.w0 H' w'∧SL P C L Q rest (pt ρ d v) H') :
  SL P C L Q (o::rest) ρ H:=fun a w hf hs=>by
 obtain⟨v,w',H',he,hs',hk⟩:=h a w hf hs
 unfold wpList
 rw [if_pos (gZ hf hg)]
 refine .inl ?_
 unfold Oper.wp
 rcases he with he|⟨he,rfl⟩
 ·rw [he,Oper.upon_value];exact hk _ _ (hf.put hd v) hs'
 ·rw [he,Oper.upon_skip];exact hk _ _ (hf.put hd _) hs'
theorem SL.store{t:TypeId}{x y:Operand}{b i:Nat}{l:List Value}{T:TypeId}{v:Value}(ho:o.op=.store t x y)(hg:gd L ρ o=some true){d:Option Nat}(hd:dk C.n o.dst=some d)
  (hx:ev ρ x=some (.pointer (some ⟨b,i,none⟩))) (hy:ev ρ y=some v) [jX P t] [One v] [At H b (cl l T)] (hi:i<l.length) [Upd H b (cl (l.set i v) T) H']
  (hk:SL P C L Q rest (pt ρ d undef) H'):SL P C L Q (o::rest) ρ H:=
 nH hg hd fun a w hf hs=>⟨undef,w.setRow b (l.set i v).toArray,H',.inr ⟨by unfold execOp;rw [ho];simp only [hf.eval hx,hf.eval hy,Instr.storeAt,Instr.sureAddr,Sem.run_bind,Sem.run_pure,Result.andThen_ok,aC1 hs.at hi],rfl⟩,hs.setRow (l:=l) (T:=T),hk⟩
theorem uN{t:TypeId}{n:Nat}{x y:Operand}{b i:Nat}{l r:List Value}{T:TypeId}(ho:o.op=.store t x y)(hg:gd L ρ o=some true){d:Option Nat}(hd:dk C.n o.dst=some d)
  (hx:ev ρ x=some (.pointer (some ⟨b,i,none⟩))) (hy:ev ρ y=some (.agg r.toArray)) [fC P t n] (hr:r.length=n) [OC r] [At H b (cl l T)] (hi:i+n≤l.length) {l':List Value} (hl:l.take i++r++l.drop (i+n)=l') [Upd H b (cl l' T) H']
  (hk:SL P C L Q rest (pt ρ d undef) H'):SL P C L Q (o::rest) ρ H:=
 nH hg hd fun a w hf hs=>⟨undef,w.setRow b l'.toArray,H',.inr ⟨by subst hl;unfold execOp;rw [ho];simp only [hf.eval hx,hf.eval hy,Instr.storeAt,Instr.sureAddr,Sem.run_bind,Sem.run_pure,Result.andThen_ok,aC2 hr hs.at hi],rfl⟩,hs.setRow (l:=l) (T:=T),hk⟩
theorem mB{t:TypeId}{v:Value}(h:((P.info? t).map fun i=>i.zero)=some (some v))(w:World):(zeroValue t).run P w=.ok v w:=by
 cases hq:P.info? t with
 | none=>simp [hq] at h
 | some i=>simp [hq] at h;simp [zeroValue,typeInfo,hq,h]
theorem SL.alloc{t:TypeId}{z:List Value}(ho:o.op=.alloc t)(hg:gd L ρ o=some true){d:Option Nat}(hd:dk C.n o.dst=some d) [hz:cN P t z]
  (hk:∀ b,SL P C L Q rest (pt ρ d (.pointer (some ⟨b,0,none⟩))) ((b,cl z t)::H)):SL P C L Q (o::rest) ρ H:=
 nH hg hd fun a w hf hs=>by
  obtain⟨v,hv,hc⟩:=hz.ok
  exact⟨_,_,_,.inl (by unfold execOp;rw [ho];simp [Instr.alloc,mB hv,newVar,newRow,hc]),hs.alloc _,hk w.heap.size⟩
theorem aGb{t:TypeId}{x:Operand}{v:Value}(ho:o.op=.box t x)(hg:gd L ρ o=some true){d:Option Nat}(hd:dk C.n o.dst=some d)(hx:ev ρ x=some v) [h1:One v]
  (hk:∀ b,SL P C L Q rest (pt ρ d (.pointer (some ⟨b,0,none⟩))) ((b,cl [v] t)::H)):SL P C L Q (o::rest) ρ H:=
 nH hg hd fun a w hf hs=>by
  have hv:v.cells=#[v]:=by have:=h1.ok;cases v <;> first|rfl|simp [Value.oneCell'] at this
  exact⟨_,_,_,.inl (by unfold execOp;rw [ho];simp [Instr.box,newVar,newRow,hf.eval hx,hv]),hs.alloc _,hk w.heap.size⟩
theorem aBV{t:TypeId}{x:Operand}{l:List Value}(ho:o.op=.box t x)(hg:gd L ρ o=some true){d:Option Nat}(hd:dk C.n o.dst=some d)(hx:ev ρ x=some (.agg l.toArray))
  (hk:∀ b,SL P C L Q rest (pt ρ d (.pointer (some ⟨b,0,none⟩))) ((b,cl l t)::H)):SL P C L Q (o::rest) ρ H:=
 nH hg hd fun a w hf hs=>⟨_,_,_,.inl (by unfold execOp;rw [ho];simp [Instr.box,newVar,newRow,hf.eval hx,Value.cells]),hs.alloc _,hk w.heap.size⟩
theorem rD{f:FuncId} [h:bD P f](args:Array Value)(w:World):(callFunc f args).run P w=.ok (.enter f args) w:=by
 obtain⟨fn,h1,h2,h3⟩:=h.ok
 unfold callFunc
 simp only [Sem.run_bind,run_program,Result.andThen_ok,h1,h2,h3,iV,if_false,Sem.run_pure]
theorem yP{f:FuncId}{vs:List Value}(Hc:Hp){r:Hp}{Pre:World→Prop}{R:Value→Hp→Prop}(hg:gd L ρ o=some true){d:Option Nat}(hd:dk C.n o.dst=some d)
  (he:∀ a w,jV C.ds C.n ρ a→(execOp a.eval o).run P w=.ok (.enter f vs.toArray) w) [hp:fA H Hc r] (ht:Tri P f vs Hc Pre R) (hpre:∀ w,St C.K C.w0 H w→Pre w)
  (hk:∀ v H',R v H'→SL P C L Q rest (pt ρ d v) (H'++r)):SL P C L Q (o::rest) ρ H:=fun a w hf hs=>by
 unfold wpList
 rw [if_pos (gZ hf hg)]
 refine .inl ?_
 unfold Oper.wp
 rw [he a w hf,Oper.upon_enter]
 have hs2:=hs.perm hp.perm
 refine (ht w hs2.drop.toOwn (hpre w hs)).mono fun e w' ⟨v,H',he,hst,hR⟩=>?_
 subst he
 exact hk v H' hR _ _ (hf.put hd v) (hs2.comp hst)
theorem oM{f:FuncId}{xs:Array Operand}{ats:Array TypeId}{vs:List Value}(Hc:Hp){r:Hp}{Pre:World→Prop}{R:Value→Hp→Prop}(ho:o.op=.call { callee:=.value (.func f),args:=xs,argTypes:=ats })(hg:gd L ρ o=some true){d:Option Nat}(hd:dk C.n o.dst=some d)(hx:evs ρ xs.toList=some vs) [bD P f] [fA H Hc r](ht:Tri P f vs Hc Pre R)(hpre:∀ w,St C.K C.w0 H w→Pre w)
  (hk:∀ v H',R v H'→SL P C L Q rest (pt ρ d v) (H'++r)):SL P C L Q (o::rest) ρ H:=
 yP Hc hg hd (fun a w hf=>by
  have h1:(xs.map a.eval)=vs.toArray:=by have:=hf.evals hx;apply Array.ext';simpa using this
  unfold execOp;rw [ho]
  simp [resolve,Deferred.ofValue,invoke,Act.eval,rD]
  exact h1) ht hpre hk
theorem dV{f:FuncId}{y:Operand}{xs:Array Operand}{ats:Array TypeId}{us vs fs cs:List Value}(Hc:Hp){r:Hp}{Pre:World→Prop}{R:Value→Hp→Prop}(ho:o.op=.call { callee:=.value y,args:=xs,argTypes:=ats })(hg:gd L ρ o=some true){d:Option Nat}(hd:dk C.n o.dst=some d)(hy:ev ρ y=some (.func (.func f) fs.toArray cs.toArray))(hx:evs ρ xs.toList=some us)(hv:fs++us++cs=vs) [bD P f] [fA H Hc r](ht:Tri P f vs Hc Pre R)(hpre:∀ w,St C.K C.w0 H w→Pre w)
  (hk:∀ v H',R v H'→SL P C L Q rest (pt ρ d v) (H'++r)):SL P C L Q (o::rest) ρ H:=
 yP Hc hg hd (fun a w hf=>by
  subst hv
  have h1:(xs.map a.eval)=us.toArray:=by have:=hf.evals hx;apply Array.ext';simpa using this
  unfold execOp;rw [ho]
  simp only [resolve,Deferred.ofValue,invoke,hf.eval hy,Sem.run_bind,Sem.run_pure,Result.andThen_ok,rD,h1]
  simp) ht hpre hk
def Fin(P:Program)(C:Ctx)(fn:Func)(R:Value→Hp→Prop):Exit→Fr→Hp→Prop
 | .normal,ρ,H|.ret,ρ,H=>∃ v Hc s,H.Perm (Hc++s)∧R v Hc∧∀ a w,jV C.ds C.n ρ a→St C.K C.w0 H w→(results fn a.tmps).run P w=.ok v w
 | _,_,_=>False
theorem aDo(vs:List Value)(n:Nat)(hn:vs.length≤n):jV [] n (aGw vs 0) { tmps:=vs.toArray++Array.replicate (n-vs.toArray.size) undef,defers:=[] }:=by
 refine⟨rfl,by simp;omega,?_⟩
 have key:∀ (us:List Value) (k t:Nat) (v:Value),lk (aGw us k) t=some v→k≤t∧us[t-k]?=some v:=by
  intro us
  induction us with
  | nil=>intro k t v h;simp [aGw,lk] at h
  | cons u r ih=>
   intro k t v h
   simp only [aGw,aEa] at h
   by_cases hk:k=t
   ·subst hk;simp at h;simp [h]
   ·simp only [hk,if_false] at h
    obtain⟨h1,h2⟩:=ih _ _ _ h
    refine⟨by omega,?_⟩
    rw [show t-k=(t-(k+1))+1 by omega]
    simpa using h2
 intro t v h
 obtain⟨_,h2⟩:=key vs 0 t v h
 have hlt:t<vs.length:=(aE.1 h2).1
 rw [Array.getElem?_append_left (by simpa using hlt)]
 simpa using h2
theorem Tri.mk{f:FuncId}{fn:Func}{c:Code}{n:Nat}{vs:List Value}{Hc:Hp}{Pre:World→Prop}{R:Value→Hp→Prop}(hf:P.funcs[f]?=some fn)(hb:fn.body=some c)(hn:fn.ntmps=n)(hl:Nat.ble vs.length n=true)
  (h:∀ w,Pre w→SW P ⟨n,Hc.map Prod.fst,w,[]⟩ c (Fin P ⟨n,Hc.map Prod.fst,w,[]⟩ fn R) (aGw vs 0) Hc):Tri P f vs Hc Pre R:=fun w ho hp=>by
 refine calls_of_wp hf hb ?_
 rw [hn]
 refine wp_mono (h w hp _ w (aDo vs n (fK hl)) (St.start ho)) fun e a w' ⟨ρ,H,hfit,hst,hq⟩=>?_
 cases e <;> first
  | exact hq.elim
  | exact (let ⟨v,Hc',s,hp,hR,hres⟩:=hq;⟨hfit.d,v,hres a w' hfit hst,v,Hc',rfl,(hst.perm hp).drop,hR⟩)
theorem Tri.mono{f:FuncId}{vs:List Value}{Hc:Hp}{Pre:World→Prop}{R R':Value→Hp→Prop}(h:Tri P f vs Hc Pre R)(hr:∀ v H,R v H→R' v H):Tri P f vs Hc Pre R':=fun w ho hp=>
 (h w ho hp).mono fun e w' ⟨v,H',he,hst,hR⟩=>⟨v,H',he,hst,hr v H' hR⟩
theorem oF{ds:List Deferred}{n t:Nat}{a:Act}{v:Value}(hf:jV ds n ρ a)(h:lk ρ t=some v):a.tmps.getD t undef=v:=by
 have:=hf.t t v h;simp [jO,this]
section
variable {fn:Func}{R:Value→Hp→Prop}{e:Exit}(he:e=.ret∨e=.normal)
include he
theorem Fin.of{v:Value}{Hc s:Hp}(hp:H.Perm (Hc++s))(hR:R v Hc)(hr:∀ a w,jV C.ds C.n ρ a→St C.K C.w0 H w→(results fn a.tmps).run P w=.ok v w):Fin P C fn R e ρ H:=by
 rcases he with rfl|rfl <;> exact⟨v,Hc,s,hp,hR,hr⟩
theorem Fin.r0(hrs:fn.results=#[])(Hc:Hp){s:Hp} [hp:fA H Hc s](hR:R (.tuple #[]) Hc):Fin P C fn R e ρ H:=
 Fin.of he hp.perm hR fun a w _ _=>results_none hrs _ _ _
theorem Fin.r1{t:Nat}{v:Value}(hrs:fn.results=#[.tmp t])(ht:lk ρ t=some v)(Hc:Hp){s:Hp} [hp:fA H Hc s](hR:R v Hc):Fin P C fn R e ρ H:=
 Fin.of he hp.perm hR fun a w hf _=>by rw [results_tmp hrs,oF hf ht]
theorem Fin.r2{t u:Nat}{v v2:Value}(hrs:fn.results=#[.tmp t,.tmp u])(ht:lk ρ t=some v)(hu:lk ρ u=some v2)(Hc:Hp){s:Hp} [hp:fA H Hc s](hR:R (.tuple #[v,v2]) Hc):Fin P C fn R e ρ H:=
 Fin.of he hp.perm hR fun a w hf _=>by rw [results_tmp2 hrs,oF hf ht,oF hf hu]
theorem Fin.c1{t ty n b:Nat}{l:List Value}{T:TypeId}(hrs:fn.results=#[.cell t ty])(ht:lk ρ t=some (.pointer (some ⟨b,0,none⟩))) [fC P ty n] [At H b (cl l T)](hn:l.length=n)(Hc:Hp){s:Hp} [hp:fA H Hc s](hR:R (.agg l.toArray) Hc):Fin P C fn R e ρ H:=
 Fin.of he hp.perm hR fun a w hf hs=>by
  have:=nY (P:=P) (w:=w) (t:=ty) (b:=b) (l:=l) (T:=T) (fz:=(0,0)) (r:=l) (i:=0) hs.at (by rw [← hn];simp) hn
  have h2:=oF hf ht
  rw [jO] at h2
  simp [results,hrs,h2,asAddr,this]
theorem Fin.c1t1{t ty n b u:Nat}{l:List Value}{T:TypeId}{v2:Value}(hrs:fn.results=#[.cell t ty,.tmp u])(ht:lk ρ t=some (.pointer (some ⟨b,0,none⟩)))(hu:lk ρ u=some v2) [fC P ty n] [At H b (cl l T)](hn:l.length=n)(Hc:Hp){s:Hp} [hp:fA H Hc s](hR:R (.tuple #[.agg l.toArray,v2]) Hc):Fin P C fn R e ρ H:=
 Fin.of he hp.perm hR fun a w hf hs=>by
  have:=nY (P:=P) (w:=w) (t:=ty) (b:=b) (l:=l) (T:=T) (fz:=(0,0)) (r:=l) (i:=0) hs.at (by rw [← hn];simp) hn
  have h2:=oF hf ht
  rw [results_cell_tmp hrs,h2,oF hf hu]
  simp [asAddr,this]
end
end
instance(priority:=1500) fA.here (Hs r:Hp):fA (Hs++r) Hs r:=⟨.refl _⟩
instance(priority:=2000) fA.self (Hs:Hp):fA Hs Hs []:=⟨by simp⟩
instance fA.tail(x:Nat×Obj)(H Hs r:Hp) [h:fA H Hs r]:fA (x::H) Hs (x::r):=⟨(h.perm.cons x).trans gR.symm⟩
instance fA.appR(l H Hs r:Hp) [h:fA H Hs r]:fA (l++H) Hs (l++r):=⟨by
 refine (h.perm.append_left l).trans ?_
 rw [← aM,← aM]
 exact List.perm_append_comm.append_right r⟩
instance fA.appL(l H Hs r:Hp) [h:fA l Hs r]:fA (l++H) Hs (r++H):=⟨by rw [← aM];exact h.perm.append_right H⟩
instance fA.two(H A B r r':Hp) [h1:fA H A r] [h2:fA r B r']:fA H (A++B) r':=⟨by rw [aM];exact h1.perm.trans (h2.perm.append_left A)⟩
section
variable {P:Program}{C:Ctx}{Q:Exit→Fr→Hp→Prop}{ρ:Fr}{H H':Hp}{L rest:List Oper}{o:Oper}
theorem tS{t:TypeId}{n:Nat}(h:(P.info? t).map (·.size)=some n):∃ i,P.info? t=some i∧i.size=n:=by
 cases hq:P.info? t with
 | none=>simp [hq] at h
 | some i=>exact⟨i,rfl,by simpa [hq] using h⟩
def eU(P:Program)(w:World)(v:Value)(size m:Nat)(ys:List Value):Prop:=
 ∀ w',w'.heap=w.heap→(Builtin.lenOf v).run P w'=.ok m w'∧(Builtin.firstCells size m v).run P w'=.ok ys.toArray w'
theorem eU.empty(w:World)(a:Option Addr)(c size:Nat):eU P w (.slice a 0 c) size 0 []:=fun w' _=>by
 refine⟨by simp [Builtin.lenOf],?_⟩
 cases a with
 | none=>simp [Builtin.firstCells]
 | some a=>simp [Builtin.firstCells,loadCells,loadCellsFrom]
theorem eU.block{w:World}{b i m c size:Nat}{l ys:List Value}{T:TypeId}{fz:Nat×Nat}(hb:w.heap[b]?=some (.cells l.toArray T fz))(hy:(l.drop i).take (m*size)=ys)(hl:ys.length=m*size) :
  eU P w (.slice (some ⟨b,i,none⟩) m c) size m ys:=fun w' hw=>by
 refine⟨by simp [Builtin.lenOf],?_⟩
 refine run_firstCells_some (P:=P) w' size m ⟨b,i,none⟩ m c ys hl fun j v hj=>?_
 rw [lN,aD3 (by rw [hw];exact hb),← hj,← hy,bE]
 have:j<m*size:=by have:=(aE.1 hj).1;omega
 simp [this]
def Sl(e n:Nat)(v:Value)(xs:List Value)(Hs:Hp):Prop:=
 (v=.slice none 0 0∧xs=[]∧Hs=[]) ∨
 ∃ b len cap junk,v=.slice (some ⟨b,0,none⟩) len cap∧xs.length=len*n∧len*n+junk.length=cap*n∧len≤cap∧Hs=[(b,cl (xs++junk) e)]
theorem Sl.nil(e n:Nat):Sl e n (.slice none 0 0) [] []:=.inl ⟨rfl,rfl,rfl⟩
theorem Sl.mk{e n b len cap:Nat}{xs junk:List Value}(h1:xs.length=len*n)(h2:len*n+junk.length=cap*n)(h3:len≤cap):Sl e n (.slice (some ⟨b,0,none⟩) len cap) xs [(b,cl (xs++junk) e)]:=
 .inr ⟨b,len,cap,junk,rfl,h1,h2,h3,rfl⟩
theorem wL(xs ys junk:List Value)(hj:ys.length≤junk.length):(xs++junk).take xs.length++ys++(xs++junk).drop (xs.length+ys.length)=xs++ys++junk.drop ys.length:=by
 rw [cW]
 ·congr 1
  rw [← cJ,eW]
  rfl
 ·rfl
theorem oZ{w:World}{t t2:TypeId}{ty e m sLen sCap:Nat}{base:Option Addr}{sv zv:Value}{xs ys:List Value}{i:TypeInfo}(ht:P.underlying t=some (.slice e))(hi:P.info? e=some i)(hz:i.zero=some zv)(h2:pJ P t2)
  (hl1:(Builtin.lenOf sv).run P w=.ok m w) (hf1:(Builtin.firstCells i.size sLen (.slice base sLen sCap)).run P w.drew=.ok xs.toArray w.drew) (hf2:(Builtin.firstCells i.size m sv).run P w.drew=.ok ys.toArray w.drew)
  (hg:sCap<sLen+m) (hbytes:(sLen+m)*i.bytes≤140737488355328) (h63:sLen+m≤9223372036854775807) :
  (Builtin.append_ #[t,t2] ty #[.slice base sLen sCap,sv]).run P w=.ok (.slice (some ⟨w.heap.size,0,none⟩) (sLen+m) (grownCap w (sLen+m) sCap e))
   (w.drew.alloc (cl (xs++ys++(Builtin.zeroCells zv.cells (grownCap w (sLen+m) sCap e-(sLen+m))).toList) e)):=by
 have hn:¬ (sLen+m≤sCap):=oQ
 have h63':¬ (9223372036854775807<((sLen:Int)+(m:Int))):=oQ
 have h48':¬ (281474976710656<Builtin.nextslicecap (sLen+m) sCap*i.bytes):=by have:=growslice_fits hg hbytes;omega
 rcases h2.ok with ⟨e2,he2⟩|he2
 all_goals
  simp [Builtin.append_,run_underlying ht,run_underlying he2,sizeOf,typeInfo,zeroValue,hi,hz,hl1,hn,h63',h48',Question.forced,hf1,hf2,newRow,grownCap]
  congr 2
  apply Array.ext'
  simp
theorem yL{w:World}{t t2:TypeId}{ty e m sLen sCap b:Nat}{sv:Value}{l ys:List Value}{i:TypeInfo}{T:TypeId}(ht:P.underlying t=some (.slice e))(hi:P.info? e=some i)(h2:pJ P t2)
  (hl1:(Builtin.lenOf sv).run P w=.ok m w) (hf2:(Builtin.firstCells i.size m sv).run P w=.ok ys.toArray w) (hys:ys.length=m*i.size) (hoc:OC ys)
  (hb:w.heap[b]?=some (cl l T)) (hg:sLen+m≤sCap) (hfit:sLen*i.size+ys.length≤l.length) :
  (Builtin.append_ #[t,t2] ty #[.slice (some ⟨b,0,none⟩) sLen sCap,sv]).run P w=.ok (.slice (some ⟨b,0,none⟩) (sLen+m) sCap)
   (w.setRow b (l.take (sLen*i.size)++ys++l.drop (sLen*i.size+ys.length)).toArray):=by
 have hst:=run_storeCells_at P b (sLen*i.size) T ys 0 l.toArray w hb (by simpa using hfit) hoc.ok
 simp only [jQ] at hst
 rcases h2.ok with ⟨e2,he2⟩|he2
 all_goals
  simp [Builtin.append_,run_underlying ht,run_underlying he2,sizeOf,typeInfo,hi,hl1,hg,hf2,lN,hst]
theorem xL{a b n c:Nat}(hn:0<n)(h:a*n*b≤c*n):a*b≤c:=by
 have e1:a*n*b=a*b*n:=by rw [pR,lM n,← pR]
 rw [e1] at h
 exact Nat.le_of_mul_le_mul_right h hn
theorem aCJ{w:World}{K:List Nat}{w0:World}{t t2 e n bytes m:Nat}{ty:TypeId}{v sv:Value}{xs ys z:List Value}{Hs r:Hp} [ht:cI P t e n] [hb:fV P e bytes] [hz:cN P e z] [h2:pJ P t2]
  (hzn:z.length=n) (hv:Sl e n v xs Hs) (hs:St K w0 (Hs++r) w) (hsrc:eU P w sv n m ys) (hys:ys.length=m*n) (hoc:OC ys) (hn:0<n) (hbytes:(xs.length+ys.length)*bytes≤140737488355328*n) (hb1:1≤bytes) :
  ∃ v' w' Hs',(Builtin.append_ #[t,t2] ty #[v,sv]).run P w=.ok v' w'∧Sl e n v' (xs++ys) Hs'∧St K w0 (Hs'++r) w':=by
 obtain⟨i,hi,hisz⟩:=tS ht.size
 have hby:i.bytes=bytes:=by have:=hb.ok;simpa [hi] using this
 obtain⟨zv,hzv,hzc⟩:=hz.ok
 have hzi:i.zero=some zv:=by simpa [hi] using hzv
 have hzl:zv.cells.size=n:=by rw [hzc];simpa using hzn
 have hl1:=(hsrc w rfl).1
 subst hisz hby
 rcases hv with ⟨rfl,rfl,rfl⟩|⟨b,len,cap,junk,rfl,hx,hj,hlc,rfl⟩
 ·by_cases hm:m=0
  ·subst hm
   have hy0:ys=[]:=by simpa using hys
   subst hy0
   refine⟨.slice none 0 0,w,[],?_,.inl ⟨rfl,rfl,rfl⟩,hs⟩
   have hf:=(hsrc w rfl).2
   rcases h2.ok with ⟨e2,he2⟩|he2
   all_goals simp [Builtin.append_,run_underlying ht.ok,run_underlying he2,sizeOf,typeInfo,hi,hl1,hf]
  ·have hmb:(0+m)*i.bytes≤140737488355328:=by
    refine xL hn ?_
    simpa [hys] using hbytes
   have hm63:0+m≤9223372036854775807:=by
    have:(0+m)*1≤(0+m)*i.bytes:=iP _ hb1
    omega
   have hrun:=oZ (P:=P) (w:=w) (ty:=ty) (sLen:=0) (sCap:=0) (base:=none) (xs:=[]) ht.ok hi hzi h2 hl1 (by simp [Builtin.firstCells]) (hsrc w.drew rfl).2 oQ hmb hm63
   refine⟨_,_,[(w.heap.size,_)],hrun,?_,hs.drew.alloc _⟩
   have hge:=grownCap_ge w (0+m) 0 e
   exact .inr ⟨w.heap.size,0+m,grownCap w (0+m) 0 e,(Builtin.zeroCells zv.cells (grownCap w (0+m) 0 e-(0+m))).toList,rfl,by simpa using hys,by rw [gW,size_zeroCells,hzl,← Nat.add_mul];congr 1;omega,hge,rfl⟩
 ·have hbe:w.heap[b]?=some (cl (xs++junk) e):=hs.own b _ (by simp)
  have hle:len*i.size≤cap*i.size:=dD _ hlc
  by_cases hg:len+m≤cap
  ·have hfit:len*i.size+ys.length≤(xs++junk).length:=by
    have:(len+m)*i.size≤cap*i.size:=dD _ hg
    rw [Nat.add_mul] at this
    rw [aB,hx,hys];omega
   have hrun:=yL (P:=P) (w:=w) (ty:=ty) (sLen:=len) (sCap:=cap) (b:=b) ht.ok hi h2 hl1 (hsrc w rfl).2 hys hoc hbe hg hfit
   have hyj:ys.length≤junk.length:=by rw [aB,hx] at hfit;omega
   rw [← hx,wL xs ys junk hyj] at hrun
   refine⟨_,_,[(b,cl (xs++ys++junk.drop ys.length) e)],hrun,.inr ⟨b,len+m,cap,junk.drop ys.length,rfl,by rw [aB,hx,hys,Nat.add_mul],?_,hg,rfl⟩,?_⟩
   ·rw [bG,Nat.add_mul,hys];rw [hys] at hyj;omega
   ·exact hs.setRow (l:=xs++junk) (T:=e)
  ·have hbb:(len+m)*i.bytes≤140737488355328:=by
    refine xL hn ?_
    rw [hx,hys,← Nat.add_mul] at hbytes
    exact hbytes
   have hm63:len+m≤9223372036854775807:=by
    have:(len+m)*1≤(len+m)*i.bytes:=iP _ hb1
    omega
   have hold:(Builtin.firstCells i.size len (.slice (some ⟨b,0,none⟩) len cap)).run P w.drew=.ok xs.toArray w.drew:=by
    refine ((eU.block (P:=P) (w:=w.drew) (i:=0) (m:=len) (c:=cap) (size:=i.size) (ys:=xs) hbe ?_ hx) w.drew rfl).2
    rw [bR,← hx,cW];rfl
   have hrun:=oZ (P:=P) (w:=w) (ty:=ty) (sLen:=len) (sCap:=cap) (base:=some ⟨b,0,none⟩) (xs:=xs) ht.ok hi hzi h2 hl1 hold (hsrc w.drew rfl).2 oQ hbb hm63
   refine⟨_,_,[(w.heap.size,cl (xs++ys++(Builtin.zeroCells zv.cells (grownCap w (len+m) cap e-(len+m))).toList) e)],hrun,?_,?_⟩
   ·have hge:=grownCap_ge w (len+m) cap e
    exact .inr ⟨w.heap.size,len+m,grownCap w (len+m) cap e,(Builtin.zeroCells zv.cells (grownCap w (len+m) cap e-(len+m))).toList,rfl,by rw [aB,hx,hys,Nat.add_mul],by rw [gW,size_zeroCells,hzl,← Nat.add_mul];congr 1;omega,hge,rfl⟩
   ·have hs2:St K w0 r w:=(hs.perm (H':=r++[(b,cl (xs++junk) e)]) (cD (l₁:=[(b,cl (xs++junk) e)]))).drop
    exact hs2.drew.alloc _
end
section
variable {P:Program}{C:Ctx}{Q:Exit→Fr→Hp→Prop}{ρ:Fr}{H H':Hp}{L rest:List Oper}{o:Oper}
theorem SL.append{t t2 e n bytes m:Nat}{x y:Operand}{v sv:Value}{xs ys z:List Value}(Hs:Hp){r:Hp}(ho:o.op=.call { callee:=.builtin .append,args:=#[x,y],argTypes:=#[t,t2] })(hg:gd L ρ o=some true){d:Option Nat}(hd:dk C.n o.dst=some d)(hx:ev ρ x=some v)(hy:ev ρ y=some sv)
  [ht:cI P t e n] [hb:fV P e bytes] [hz:cN P e z] [h2:pJ P t2] [hp:fA H Hs r]
  (hv:Sl e n v xs Hs) (hsrc:∀ w,St C.K C.w0 H w→eU P w sv n m ys) (hys:ys.length=m*n) [hoc:OC ys] (hzn:z.length=n) (hn:0<n) (hb1:1≤bytes) (hbytes:(xs.length+ys.length)*bytes≤140737488355328*n)
  (hk:∀ v' Hs',Sl e n v' (xs++ys) Hs'→SL P C L Q rest (pt ρ d v') (Hs'++r)):SL P C L Q (o::rest) ρ H:=
 nH hg hd fun a w hf hs=>by
  obtain⟨v',w',Hs',hrun,hv',hst⟩:=aCJ (P:=P) (t:=t) (t2:=t2) (ty:=o.type) hzn hv (hs.perm hp.perm) (hsrc w hs) hys hoc hn hbytes hb1
  exact⟨v',w',Hs'++r,.inl (by unfold execOp;rw [ho];simp [resolve,invoke,builtin,hf.eval hx,hf.eval hy,hrun]),hst,hk v' Hs' hv'⟩
theorem qJ{t e n:Nat}{x:Operand}{b:Option Addr}{len cap:Nat}(ho:o.op=.call { callee:=.builtin .len,args:=#[x],argTypes:=#[t] })(hx:ev ρ x=some (.slice b len cap)) [ht:cI P t e n]:Pu P C ρ H o (.int .i64 len):=fun a w hf _=>by
 unfold execOp;rw [ho];simp [resolve,invoke,builtin,hf.eval hx,Builtin.len_,run_underlying ht.ok,goInt]
theorem tZ{t:Nat}{x:Operand}{s:ByteArray}(ho:o.op=.call { callee:=.builtin .len,args:=#[x],argTypes:=#[t] })(hx:ev ρ x=some (.string s)) [ht:zV P t]:Pu P C ρ H o (.int .i64 s.size):=fun a w hf _=>by
 unfold execOp;rw [ho];simp [resolve,invoke,builtin,hf.eval hx,Builtin.len_,run_underlying ht.ok,goInt]
theorem tY{t n e sz:Nat}{x:Operand}{v:Value}(ho:o.op=.call { callee:=.builtin .len,args:=#[x],argTypes:=#[t] })(hx:ev ρ x=some v) [ht:kZ P t n e sz]:Pu P C ρ H o (.int .i64 n):=fun a w hf _=>by
 unfold execOp;rw [ho];simp [resolve,invoke,builtin,hf.eval hx,Builtin.len_,run_underlying ht.ok,goInt]
theorem qI{t e n:Nat}{x:Operand}{b:Option Addr}{len cap:Nat}(ho:o.op=.call { callee:=.builtin .cap,args:=#[x],argTypes:=#[t] })(hx:ev ρ x=some (.slice b len cap)) [ht:cI P t e n]:Pu P C ρ H o (.int .i64 cap):=fun a w hf _=>by
 unfold execOp;rw [ho];simp [resolve,invoke,builtin,hf.eval hx,Builtin.cap_,run_underlying ht.ok,goInt]
theorem aFM{ats:Array TypeId}{x y:Operand}{k:IntKind}{m n r:Int}(ho:o.op=.call { callee:=.builtin .min,args:=#[x,y],argTypes:=ats })(hx:ev ρ x=some (.int k m))(hy:ev ρ y=some (.int k n))(hr:min m n=r):Pu P C ρ H o (.int k r):=fun a w hf _=>by
 have:(if n<m then n else m)=r:=by rw [← hr];split <;> omega
 unfold execOp;rw [ho];simp [resolve,invoke,builtin,hf.eval hx,hf.eval hy,Builtin.min_,Builtin.min2,this]
theorem aFL{ats:Array TypeId}{x y:Operand}{k:IntKind}{m n r:Int}(ho:o.op=.call { callee:=.builtin .max,args:=#[x,y],argTypes:=ats })(hx:ev ρ x=some (.int k m))(hy:ev ρ y=some (.int k n))(hr:max m n=r):Pu P C ρ H o (.int k r):=fun a w hf _=>by
 have:(if m<n then n else m)=r:=by rw [← hr];split <;> omega
 unfold execOp;rw [ho];simp [resolve,invoke,builtin,hf.eval hx,hf.eval hy,Builtin.max_,Builtin.max2,this]
theorem aJ9{t t':Nat}{x:Operand}{k k2:IntKind}{m r:Int}(ho:o.op=.convert t t' x)(hx:ev ρ x=some (.int k m))(h1:∃ d,P.underlying t=some d)(h2:P.underlying t'=some (.int k2))(hr:k2.wrap m=r):Pu P C ρ H o (.int k2 r):=fun a w hf _=>by
 obtain⟨d,hd⟩:=h1
 unfold execOp;rw [ho];simp [hf.eval hx,convert,run_underlying hd,run_underlying h2,Conv.intToInt,hr]
theorem rZ{f:Fn}{xs ys:Array Operand}{vs us:List Value}(ho:o.op=.makeFunc f xs ys)(hx:evs ρ xs.toList=some vs)(hy:evs ρ ys.toList=some us):Pu P C ρ H o (.func f vs.toArray us.toArray):=fun a w hf _=>by
 have h1:(xs.map a.eval)=vs.toArray:=by have:=hf.evals hx;apply Array.ext';simpa using this
 have h2:(ys.map a.eval)=us.toArray:=by have:=hf.evals hy;apply Array.ext';simpa using this
 unfold execOp;rw [ho];simp only [Instr.makeFunc,h1,h2,Sem.run_bind,Sem.run_pure,Result.andThen_ok]
def zs(z:List Value)(n:Nat):List Value:=(List.replicate n z).flatten
theorem aBj(z:List Value)(n:Nat):(zs z n).length=n*z.length:=by simp [zs]
theorem lH(v:Value)(n:Nat):zs [v] n=List.replicate n v:=by
 induction n with
 | zero=>rfl
 | succ n ih=>simp only [zs,fM,dK] at ih ⊢;rw [ih];rfl
theorem aKY(z:List Value):∀ (n i:Nat),i<n*z.length→(zs z n)[i]?=z[i%z.length]?
 | 0,i,h=>by simp at h
 | n+1,i,h=>by
  have e:zs z (n+1)=z++zs z n:=by simp [zs,fM]
  rw [e]
  by_cases hi:i<z.length
  ·rw [aL hi,dO hi]
  ·rw [aY oQ,aKY z n (i-z.length) (by rw [Nat.add_mul] at h;omega)]
   congr 1
   rw [Nat.mod_eq_sub_mod (Nat.le_of_not_lt hi)]
theorem aAi(z:List Value)(n:Nat)(hz:0<z.length):madeCells z.toArray (n*z.length)=(zs z n).toArray:=by
 apply Array.ext'
 apply cB
 intro i
 simp only [madeCells,Array.toList_map,Array.toList_range,aJ]
 by_cases hi:i<n*z.length
 ·have hm:i%z.length<z.length:=Nat.mod_lt _ hz
  rw [eN hi,aKY z n i hi]
  simp [hm]
 ·rw [bB (by simpa using hi),bB (by simpa [aBj] using hi)]
  rfl
theorem SL.make{t e n bytes:Nat}{x y:Operand}{kl kc:IntKind}{l c:Nat}{li ci:Int}{z:List Value}(ho:o.op=.makeSlice t x y)(hg:gd L ρ o=some true){d:Option Nat}(hd:dk C.n o.dst=some d)(hx:ev ρ x=some (.int kl li))(hy:ev ρ y=some (.int kc ci)) [ht:cI P t e n] [hb:fV P e bytes] [hz:cN P e z](hl:li=l)(hc:ci=c)(hzn:z.length=n)(hn:0<n)(hlc:l≤c)(hbytes:bytes*c≤281474976710656)(hb1:1≤bytes)
  (hk:∀ b,SL P C L Q rest (pt ρ d (.slice (some ⟨b,0,none⟩) l c)) ((b,cl (zs z c) e)::H)):SL P C L Q (o::rest) ρ H:=
 nH hg hd fun a w hf hs=>by
  subst hl hc
  obtain⟨i,hi,hisz⟩:=tS ht.size
  have hby:i.bytes=bytes:=by have:=hb.ok;simpa [hi] using this
  obtain⟨zv,hzv,hzc⟩:=hz.ok
  have hzi:i.zero=some zv:=by simpa [hi] using hzv
  have hcb:c≤281474976710656:=fN (Nat.le_mul_of_pos_left c hb1) hbytes
  have hrun:=run_make (P:=P) w t e i zv ht.ok hi hzi kl kc (l:Int) (c:Int) oQ oQ (by rw [hby];have h:=zN.2 hbytes;rw [qQ] at h;exact h) oQ
  have hm:madeCells zv.cells ((c:Int).toNat*i.size)=(zs z c).toArray:=by
   rw [hzc,hisz,← hzn,aP]
   exact aAi z c (by rw [hzn];exact hn)
  rw [hm] at hrun
  simp only [aP] at hrun
  exact⟨_,_,_,.inl (by unfold execOp;rw [ho];simp [hf.eval hx,hf.eval hy,hrun]),hs.alloc _,hk w.heap.size⟩
def lR(a:Option Addr)(cap l n:Nat):Option Addr:=if cap=l then a else a.map (·.add (l*n))
theorem oW{t e n len cap l h:Nat}{x:Operand}{lo hi:Option Operand}{a:Option Addr}{vl vh:Option Value}(ho:o.op=.slice t x lo hi none)(hx:ev ρ x=some (.slice a len cap)) [ht:cI P t e n]
  (hl:lo=none∧l=0∨∃ y k i,lo=some y∧ev ρ y=some (.int k i)∧i=(l:Int)) (hh:hi=none∧h=len∨∃ y k i,hi=some y∧ev ρ y=some (.int k i)∧i=(h:Int)) (h1:l≤h) (h2:h≤cap) :
  Pu P C ρ H o (.slice (lR a cap l n) (h-l) (cap-l)):=fun ac w hf _=>by
 unfold execOp;rw [ho]
 rcases hl with ⟨rfl,rfl⟩|⟨y,k,i,rfl,hy,rfl⟩ <;> rcases hh with ⟨rfl,rfl⟩|⟨y2,k2,i2,rfl,hy2,rfl⟩
 ·simp [hf.eval hx,Instr.sliceAt,run_underlying ht.ok,Instr.slice,Instr.sliceBounds,eQ ht.size,lR]
 ·simp [hf.eval hx,hf.eval hy2,Instr.sliceAt,run_underlying ht.ok,Instr.slice,Instr.sliceBounds,Instr.sliceBound,asIntOf,h2,eQ ht.size,lR]
 ·simp [hf.eval hx,hf.eval hy,Instr.sliceAt,run_underlying ht.ok,Instr.slice,Instr.sliceBounds,Instr.sliceBound,asIntOf,h1,eQ ht.size,lR]
 ·simp [hf.eval hx,hf.eval hy,hf.eval hy2,Instr.sliceAt,run_underlying ht.ok,Instr.slice,Instr.sliceBounds,Instr.sliceBound,asIntOf,h1,h2,eQ ht.size,lR]
theorem sW{t e n len l h b j:Nat}{x:Operand}{lo hi:Option Operand}(ho:o.op=.slice t x lo hi none)(hx:ev ρ x=some (.pointer (some ⟨b,j,none⟩))) [ht:kZ P t len e n]
  (hl:lo=none∧l=0∨∃ y k i,lo=some y∧ev ρ y=some (.int k i)∧i=(l:Int)) (hh:hi=none∧h=len∨∃ y k i,hi=some y∧ev ρ y=some (.int k i)∧i=(h:Int)) (h1:l≤h) (h2:h≤len) :
  Pu P C ρ H o (.slice (some (if len=l then ⟨b,j,none⟩ else ⟨b,j+l*n,none⟩)) (h-l) (len-l)):=fun ac w hf _=>by
 unfold execOp;rw [ho]
 rcases hl with ⟨rfl,rfl⟩|⟨y,k,i,rfl,hy,rfl⟩ <;> rcases hh with ⟨rfl,rfl⟩|⟨y2,k2,i2,rfl,hy2,rfl⟩
 ·simp [hf.eval hx,Instr.sliceAt,run_underlying ht.ok,Instr.sureAddr,Instr.sliceBounds,eQ ht.size,lN]
 ·simp [hf.eval hx,hf.eval hy2,Instr.sliceAt,run_underlying ht.ok,Instr.sureAddr,Instr.sliceBounds,Instr.sliceBound,asIntOf,h2,eQ ht.size,lN]
 ·simp [hf.eval hx,hf.eval hy,Instr.sliceAt,run_underlying ht.ok,Instr.sureAddr,Instr.sliceBounds,Instr.sliceBound,asIntOf,h1,eQ ht.size,lN]
 ·simp [hf.eval hx,hf.eval hy,hf.eval hy2,Instr.sliceAt,run_underlying ht.ok,Instr.sureAddr,Instr.sliceBounds,Instr.sliceBound,asIntOf,h1,h2,eQ ht.size,lN]
theorem zQ{t t2 e n m b j len cap:Nat}{x y:Operand}{sv:Value}{l ys:List Value}{T:TypeId}(ho:o.op=.call { callee:=.builtin .copy,args:=#[x,y],argTypes:=#[t,t2] })(hg:gd L ρ o=some true){d:Option Nat}(hd:dk C.n o.dst=some d)(hx:ev ρ x=some (.slice (some ⟨b,j,none⟩) len cap))(hy:ev ρ y=some sv) [ht:cI P t e n] [At H b (cl l T)]
  (hsrc:∀ w,St C.K C.w0 H w→(Builtin.lenOf sv).run P w=.ok m w∧(Builtin.firstCells n (Nat.min m len) sv).run P w=.ok ys.toArray w) [hoc:OC ys] (hfit:j+ys.length≤l.length) {l':List Value} (hl:l.take j++ys++l.drop (j+ys.length)=l') [Upd H b (cl l' T) H']
  (hk:SL P C L Q rest (pt ρ d (.int .i64 (Nat.min m len))) H'):SL P C L Q (o::rest) ρ H:=
 nH hg hd fun a w hf hs=>by
  subst hl
  obtain⟨h1,h2⟩:=hsrc w hs
  have hst:=run_storeCells_at P b j T ys 0 l.toArray w hs.at (by simpa using hfit) hoc.ok
  simp only [jQ] at hst
  refine⟨_,_,H',.inl ?_,hs.setRow (b:=b) (l:=l) (l':=l.take j++ys++l.drop (j+ys.length)) (T:=T),hk⟩
  unfold execOp;rw [ho]
  simp only [List.map_toArray,dP,mX,resolve,invoke,builtin,hf.eval hx,hf.eval hy,Builtin.copy_,Sem.run_bind,Sem.run_pure,Result.andThen_ok,List.getElem?_toArray,jJ,List.getElem?_cons_succ,run_underlying ht.ok,h1,eQ ht.size,h2,hst,goInt]
def vl:Value→List Value
 | .agg cs=>cs.toList
 | v=>[v]
def bX(pl:Nat→Option (Nat×Nat)):List Value→List (Nat×Value)→Option (List Value)
 | z,[]=>some z
 | z,(i,v)::r=>
  match pl i with
  | none=>none
  | some (off,n)=>if (vl v).length=n∧off+n≤z.length then bX pl (z.take off++vl v++z.drop (off+n)) r else none
theorem aIo(cs:List Value):∀ (k:Nat) (z:List Value),k+cs.length≤z.length →
  ((cs.zipIdx).foldl (fun (a:Array Value) (p:Value×Nat)=>a.setIfInBounds (k+p.2) p.1) z.toArray)=(z.take k++cs++z.drop (k+cs.length)).toArray:=by
 have key:∀ (cs:List Value) (k s:Nat) (z:List Value),k+s+cs.length≤z.length →
   ((cs.zipIdx s).foldl (fun (a:Array Value) (p:Value×Nat)=>a.setIfInBounds (k+p.2) p.1) z.toArray)=(z.take (k+s)++cs++z.drop (k+s+cs.length)).toArray:=by
  intro cs
  induction cs with
  | nil=>intro k s z h;simp
  | cons c r ih=>
   intro k s z h
   simp only [List.zipIdx_cons,dS,List.setIfInBounds_toArray]
   have:=ih k (s+1) (z.set (k+s) c) (by simp at h ⊢;omega)
   rw [this]
   congr 1
   have h2:=list_seg_step z (k+s) c r (by simp at h;omega)
   rw [show k+(s+1)=k+s+1 by omega,show k+s+(c::r).length=k+s+(r.length+1) by simp]
   exact h2
 intro k z h
 exact key cs k 0 z (by simpa using h)
theorem aBF(pl:Nat→Option (Nat×Nat)):∀ (ps:List (Nat×Value)) (z r:List Value),bX pl z ps=some r→Instr.fill pl z.toArray ps=some r.toArray
 | [],z,r,h=>by simp [bX] at h;simp [Instr.fill,h]
 | (i,v)::ps,z,r,h=>by
  simp only [bX] at h
  simp only [Instr.fill]
  have hc:v.cells=(vl v).toArray:=by cases v <;> simp [Value.cells,vl]
  cases hp:pl i with
  | none=>simp [hp] at h
  | some q=>
   obtain⟨off,n⟩:=q
   simp only [hp] at h
   split at h
   ·rename_i hcond
    have hcond2:¬ (v.cells.size≠n∨off+v.cells.size>z.toArray.size):=by rw [hc];simp;omega
    simp only [hcond2]
    have:=aIo (vl v) off z oQ
    rw [hc]
    have e:Array.foldl (fun (cs:Array Value) (x:Value×Nat)=>cs.setIfInBounds (off+x.2) x.1) z.toArray (vl v).toArray.zipIdx=((vl v).zipIdx).foldl (fun (a:Array Value) (p:Value×Nat)=>a.setIfInBounds (off+p.2) p.1) z.toArray:=by
     rw [← Array.foldl_toList];simp
    have h3:=aBF pl ps (z.take off++vl v++z.drop (off+(vl v).length)) r (by rw [hcond.1];exact h)
    rw [← this] at h3
    simpa [hcond.1,hcond.2] using h3
   ·cases h
def evp(ρ:Fr):List (Nat×Operand)→Option (List (Nat×Value))
 | []=>some []
 | (i,x)::r=>match ev ρ x,evp ρ r with
  | some v,some vs=>some ((i,v)::vs)
  | _,_=>none
theorem jV.evalp{ds:List Deferred}{n:Nat}{a:Act}(h:jV ds n ρ a):∀ {xs:List (Nat×Operand)} {vs:List (Nat×Value)},evp ρ xs=some vs→xs.map (fun (i,x)=>(i,a.eval x))=vs
 | [],vs,hx=>by simp [evp] at hx;simp [hx]
 | (i,x)::r,vs,hx=>by
  simp only [evp] at hx
  cases h1:ev ρ x with
  | none=>simp [h1] at hx
  | some v=>
   cases h2:evp ρ r with
   | none=>simp [h1,h2] at hx
   | some us=>
    simp [h1,h2] at hx
    subst hx
    simp [h.eval h1,jV.evalp h h2]
theorem yN{α β:Type}(g:α→Sem β)(w:World):∀ (l:List α) (r:List β),(∀ (i:Nat) (x:α),l[i]?=some x→∃ y,r[i]?=some y∧(g x).run P w=.ok y w)→l.length=r.length→(l.mapM g).run P w=.ok r w
 | [],[],_,_=>by simp
 | [],_::_,_,h=>by simp at h
 | _::_,[],_,h=>by simp at h
 | x::l,y::r,h,hl=>by
  obtain⟨y',hy,hx⟩:=h 0 x (by simp)
  simp at hy
  subst hy
  have ih:=yN g w l r (fun i x hx=>by have:=h (i+1) x (by simpa using hx);simpa using this) (by simpa using hl)
  simp only [List.mapM_cons,Sem.run_bind,hx,Result.andThen_ok,ih,Sem.run_pure]
theorem aGR{fs:Array Field}{pl:List (Nat×Nat)}(h:fs.toList.map (fun f=>((P.info? f.type).map (·.size)).map fun n=>(f.offset,n))=pl.map some)(w:World) :
  (fs.mapM (fun f=>do pure (f.offset,← sizeOf f.type)):Sem (Array (Nat×Nat))).run P w=.ok pl.toArray w:=by
 rw [Array.mapM_eq_mapM_toList,Sem.run_map]
 have hl:fs.toList.length=pl.length:=by have:=congrArg List.length h;simpa using this
 rw [yN (P:=P) _ w fs.toList pl (fun i f hf=>?_) hl]
 ·rfl
 ·have hi:(fs.toList.map (fun f=>((P.info? f.type).map (·.size)).map fun n=>(f.offset,n)))[i]?=(pl.map some)[i]?:=by rw [h]
  rw [aJ,aJ,hf] at hi
  cases hp:pl[i]? with
  | none=>rw [hp] at hi;simp at hi
  | some q=>
   refine⟨q,rfl,?_⟩
   rw [hp] at hi
   simp only [Option.map_some,cV] at hi
   cases hq:(P.info? f.type).map (·.size) with
   | none=>rw [hq] at hi;simp at hi
   | some n=>
    rw [hq] at hi
    simp at hi
    subst hi
    simp [eQ hq]
theorem pU{t:TypeId}{ps:Array (Nat×Operand)}{vs:List (Nat×Value)}{pl:List (Nat×Nat)}{z r:List Value}(ho:o.op=.build t ps)(hp:evp ρ ps.toList=some vs) [h:dR P t pl] [hz:cN P t z](hr:bX (fun i=>pl[i]?) z vs=some r):Pu P C ρ H o (.agg r.toArray):=fun a w hf _=>by
 obtain⟨fs,hu,hpl⟩:=h.ok
 obtain⟨zv,hzv,hzc⟩:=hz.ok
 have he:ps.map (fun (i,x)=>(i,a.eval x))=vs.toArray:=by have:=hf.evalp hp;apply Array.ext';simpa using this
 have hfill:=aBF (fun i=>pl[i]?) vs z r hr
 have hfill2:Instr.fill (fun i=>pl.toArray[i]?) z.toArray vs=some r.toArray:=by simpa using hfill
 unfold execOp;rw [ho]
 simp only [Instr.build,Sem.run_bind,mB hzv,Result.andThen_ok,run_underlying hu,aGR hpl,hzc,he,hfill2,Sem.run_pure]
theorem oC{t len e n:Nat}{ps:Array (Nat×Operand)}{vs:List (Nat×Value)}{z r:List Value}(ho:o.op=.build t ps)(hp:evp ρ ps.toList=some vs) [h:kZ P t len e n] [hz:cN P t z](hr:bX (fun i=>some (i*n,n)) z vs=some r):Pu P C ρ H o (.agg r.toArray):=fun a w hf _=>by
 obtain⟨zv,hzv,hzc⟩:=hz.ok
 have he:ps.map (fun (i,x)=>(i,a.eval x))=vs.toArray:=by have:=hf.evalp hp;apply Array.ext';simpa using this
 have hfill:=aBF (fun i=>some (i*n,n)) vs z r hr
 unfold execOp;rw [ho]
 simp [Instr.build,mB hzv,run_underlying h.ok,eQ h.size,hzc,he,hfill]
theorem iK{t e n len:Nat}{ps:Array (Nat×Operand)}{vs:List (Nat×Value)}{z r:List Value}(ho:o.op=.buildSlice t len ps)(hg:gd L ρ o=some true){d:Option Nat}(hd:dk C.n o.dst=some d)(hp:evp ρ ps.toList=some vs) [h:cI P t e n] [hz:cN P e z](hzn:z.length=n)(hn:0<n)
  (hr:bX (fun i=>some (i*n,n)) (zs z len) vs=some r) (hsm:len*n≤16777216) (hk:∀ b,SL P C L Q rest (pt ρ d (.slice (some ⟨b,0,none⟩) len len)) ((b,cl r e)::H)):SL P C L Q (o::rest) ρ H:=
 nH hg hd fun a w hf hs=>by
  obtain⟨zv,hzv,hzc⟩:=hz.ok
  have he:ps.map (fun (i,x)=>(i,a.eval x))=vs.toArray:=by have:=hf.evalp hp;apply Array.ext';simpa using this
  have hfill:=aBF (fun i=>some (i*n,n)) vs (zs z len) r hr
  have hm:=aAi z len (by rw [hzn];exact hn)
  rw [hzn] at hm
  have hsm':¬ (16777216<len*n):=oQ
  refine⟨_,_,_,.inl ?_,hs.alloc _,hk w.heap.size⟩
  unfold execOp;rw [ho]
  by_cases h0:len*n=0
  ·have hl0:len=0:=by rcases qR.1 h0 with h|h <;> omega
   subst hl0
   have hz0:zs z 0=[]:=rfl
   rw [hz0] at hfill
   have hr0:Array.range 0=#[]:=rfl
   simp [Instr.buildSlice,run_underlying h.ok,eQ h.size,newRow,he,hr0,hfill]
  ·simp [Instr.buildSlice,run_underlying h.ok,eQ h.size,hsm',h0,mB hzv,hzc,newRow,he]
   have hm2:Array.map (fun (x:Nat)=>z[x%z.length]?.getD default) (Array.range (len*n))=(zs z len).toArray:=by
    rw [← hm];unfold madeCells;simp
   rw [hm2,hfill]
   simp
end
def xU(P:Program)(ops:Array Oper)(Q:Exit→Act→World→Prop)(S:World→Prop)(t:Nat):Nat→Array Bool→Act→World→Prop
 | 0,listed,a,w=>Region.ready .any ops listed=[]∧Q .normal a w
 | f+1,listed,a,w=>(Region.ready .any ops listed=[]→Q .normal a w) ∧
  ∀ i∈Region.ready .any ops listed,wpOp P ops Q i (fun a' w'=>(i=t∨S w')∧xU P ops Q S t f (listed.setIfInBounds i true) a' w') a w
theorem xU.any{P:Program}{ops:Array Oper}{Q:Exit→Act→World→Prop}{S:World→Prop}{t:Nat}:∀ (f:Nat) (listed:Array Bool) (a:Act) (w:World),xU P ops Q S t f listed a w→wpAny P .any ops Q f listed a w
 | 0,_,_,_,h=>h
 | f+1,_,_,_,h=>⟨h.1,fun i hi=>wpOp_mono (fun a' w' h'=>xU.any f _ a' w' h'.2) (h.2 i hi)⟩
def xG(ops:Array Oper)(t i:Nat):Bool:=
 match ops[t]? with
 | none=>true
 | some o=>o.after.any fun e=>Region.binds .any e&&Nat.beq e.on i
theorem aJ1{ops:Array Oper}{listed:Array Bool}{t i:Nat}(hw:xG ops t i=true)(hi:listed.getD i false=false)(hj:t∈Region.ready .any ops listed):False:=by
 obtain⟨_,o,ho,hall⟩:=mem_ready.1 hj
 unfold xG at hw
 rw [ho] at hw
 obtain⟨e,he,hb⟩:=Array.any_eq_true'.1 hw
 simp only [bM] at hb
 have:=hall e he hb.1
 rw [kC hb.2,hi] at this
 cases this
theorem xU.first{P:Program}{ops:Array Oper}{Q:Exit→Act→World→Prop}{S:World→Prop}{t i:Nat}{oi:Oper}{v:Value}(hi:ops[i]?=some oi)(hsel:∀ (j:Nat) (o:Oper) cs b,ops[j]?=some o→o.op≠.select cs b)
  (hw:xG ops t i=true) (hQ:∀ c a w,Q (.panic c) (a.put oi.dst v) w→Q (.panic c) a w) :
  ∀ (f:Nat) (listed:Array Bool) (a:Act) (w:World),
   (∀ j oj,ops[j]?=some oj→j≠i→listed.getD j true=false→(∀ e∈oj.after,Region.binds .any e=true→e.on≠i)→oi.apart ops oj=true) →
   i∈Region.ready .any ops listed→YieldsIf P ops S oi v a→S w →
   xU P ops Q S t f (listed.setIfInBounds i true) (a.put oi.dst v) w→xU P ops Q S t (f+1) listed a w:=by
 intro f
 induction f with
 | zero=>
  intro listed a w _ hr hy hS h
  refine⟨fun h0=>absurd hr (by rw [h0];exact dN),fun j hj=>?_⟩
  rcases Decidable.em (j=i) with rfl|hne
  ·exact hy.wpOp hi hS ⟨.inr hS,h⟩
  ·have:=ready_mono hj hne
   rw [h.1] at this
   exact absurd this dN
 | succ f ih=>
  intro listed a w hfree hr hy hS h
  have hui:=(mem_ready.1 hr).1
  refine⟨fun h0=>absurd hr (by rw [h0];exact dN),fun j hj=>?_⟩
  rcases Decidable.em (j=i) with rfl|hne
  ·exact hy.wpOp hi hS ⟨.inr hS,h⟩
  ·obtain⟨huj,oj,hoj,hpre⟩:=mem_ready.1 hj
   have hif:listed.getD i false=false:=getD_both hui
   have hjt:j≠t:=fun e=>aJ1 hw hif (e▸hj)
   have hno:∀ e∈oj.after,Region.binds .any e=true→e.on≠i:=fun e he hb heq=>by
    have:=hpre e he hb
    rw [heq,hif] at this
    cases this
   have h1:=wpOp_putIf hoj (hfree j oj hoj hne huj hno) (fun cs b=>hsel i oi cs b hi) (fun cs b=>hsel j oj cs b hoj) hQ hy (h.2 j (ready_mono hj hne))
   refine wpOp_mono (fun a' w' ⟨hy',hS',hrest⟩=>?_) h1
   have hSw:S w':=hS'.resolve_left hjt
   refine⟨.inr hSw,ih _ a' w' (fun k ok hk hki hun hn=>hfree k ok hk hki ?_ hn) (ready_mono hr (Ne.symm hne)) hy' hSw (by rw [nJ _ _ hne];exact hrest)⟩
   rcases Decidable.em (j=k) with rfl|hjk
   ·exact huj
   ·rwa [getD_set_ne true hjk] at hun
def SA(P:Program)(C:Ctx)(L:List Oper)(Q:Exit→Fr→Hp→Prop)(R:Hp)(t:Nat)(fuel:Nat)(listed:Array Bool)(ρ:Fr)(H:Hp):Prop:=
 ∀ a w,jV C.ds C.n ρ a→St C.K C.w0 H w→St C.K C.w0 R w→xU P L.toArray (sI C Q) (fun w=>St C.K C.w0 R w) t fuel listed a w
section
variable {P:Program}{C:Ctx}{Q:Exit→Fr→Hp→Prop}{ρ:Fr}{H H':Hp}{L l rest:List Oper}{o:Oper}{R:Hp}{t fuel:Nat}{listed:Array Bool}
theorem aGf{id:Nat}(R:Hp)(t:Nat)(hm:P.follows .mixedOrders=true){r:Hp} [hp:fA H R r](h:SA P C l Q R t l.length (Array.replicate l.length false) ρ H):SW P C (.region id l.toArray true) Q ρ H:=fun a w hf hs=>
 wp_region_any hm (xU.any (S:=fun w=>St C.K C.w0 R w) (t:=t) _ _ _ _ (by
  have:=h a _ hf (hs.drawn (w.drawn+1)) ((hs.perm hp.perm).drop.drawn (w.drawn+1))
  rw [sL]
  exact this))
def aD1(L:List Oper)(t:Nat)(listed:Array Bool)(i:Nat):Bool:=
 Region.noSelect L.toArray&&Region.free .any L.toArray listed i&&(Region.ready .any L.toArray listed).contains i&&xG L.toArray t i
theorem SA.put{v:Value}(i:Nat)(hi:L[i]?=some o)(hok:aD1 L t listed i=true)(hQ:∀ c ρ H,Q (.panic c) ρ H→False)
  (hy:∀ a,jV C.ds C.n ρ a→YieldsIf P L.toArray (fun w=>St C.K C.w0 R w) o v a) {d:Option Nat} (hd:dk C.n o.dst=some d)
  (hk:SA P C L Q R t fuel (listed.setIfInBounds i true) (pt ρ d v) H):SA P C L Q R t (fuel+1) listed ρ H:=fun a w hf hs hr=>by
 simp only [aD1,bM] at hok
 obtain⟨⟨⟨h1,h2⟩,h3⟩,h4⟩:=hok
 have hi':L.toArray[i]?=some o:=by simpa using hi
 exact xU.first hi' (Region.noSelect_spec h1) h4 (fun c a w ⟨ρ,H,_,_,h⟩=>(hQ c ρ H h).elim) fuel listed a w (Region.free_spec hi' h2) (by simpa using h3) (hy a hf) hr (hk _ w (hf.put hd v) hs hr)
theorem SA.take{v:Value}(i:Nat)(hi:L[i]?=some o)(hok:aD1 L t listed i=true)(hQ:∀ c ρ H,Q (.panic c) ρ H→False)(hg:gd L ρ o=some true){d:Option Nat}(hd:dk C.n o.dst=some d)(h:Pu P C ρ R o v)
  (hk:SA P C L Q R t fuel (listed.setIfInBounds i true) (pt ρ d v) H):SA P C L Q R t (fuel+1) listed ρ H:=
 SA.put i hi hok hQ (fun a hf=>.inl ⟨gZ hf hg,fun w hr=>h a w hf hr⟩) hd hk
theorem SA.done(hr:(Region.ready .any L.toArray listed).isEmpty=true)(h:Q .normal ρ H):SA P C L Q R t fuel listed ρ H:=fun a w hf hs _=>by
 have hr':Region.ready .any L.toArray listed=[]:=by simpa using hr
 have hq:sI C Q .normal a w:=⟨ρ,H,hf,hs,h⟩
 cases fuel with
 | zero=>exact⟨hr',hq⟩
 | succ f=>exact⟨fun _=>hq,by rw [hr'];simp⟩
theorem vI{i:Nat}(hi:L[i]?=some o){K:Fr→Hp→Prop}{K':Act→World→Prop}(h:SL P C L (thn K Q) [o] ρ H){a:Act}{w:World}(hf:jV C.ds C.n ρ a)(hs:St C.K C.w0 H w)
  (hk:∀ ρ' H' a' w',K ρ' H'→jV C.ds C.n ρ' a'→St C.K C.w0 H' w'→K' a' w'):wpOp P L.toArray (sI C Q) i K' a w:=by
 have h1:=h a w hf hs
 unfold wpList at h1
 unfold wpOp
 have hi':L.toArray[i]?=some o:=by simpa using hi
 simp only [hi']
 have hnil:∀ a w,wpList P L.toArray (sI C (thn K Q)) [] a w→K' a w:=fun a w hq=>by
  unfold wpList at hq
  obtain⟨ρ',H',hf',hs',hq⟩:=hq
  exact hk ρ' H' a w hq hf' hs'
 split
 ·rename_i hw
  rw [if_pos hw] at h1
  rcases h1 with h1|⟨hasks,a',w',ρ',H',hf',hs',hq⟩
  ·refine .inl ?_
   unfold Oper.wp at h1 ⊢
   generalize (execOp a.eval o).run P w=r at h1 ⊢
   cases r with
   | ok n w'=>
    cases n <;> simp only [Oper.upon] at h1 ⊢
    case value u=>exact hnil _ _ h1
    case skip=>exact hnil _ _ h1
    case defer d=>exact hnil _ _ h1
    case enter f args=>
     refine Calls.mono h1 fun e w'' he=>?_
     cases e with
     | returned u=>exact hnil _ _ he
     | panicked c=>obtain⟨ρ',H',hf',hs',hq⟩:=he;exact⟨ρ',H',hf',hs',hq⟩
     | outgrown=>obtain⟨a',w',ρ',H',hf',hs',hq⟩:=he;exact⟨a',w',ρ',H',hf',hs',hq⟩
    case row row args=>exact Rows.mono h1 fun u w'' he=>hnil _ _ he
   | halt x w'=>
    cases x <;> simp only [Oper.upon] at h1 ⊢
    case panic u=>obtain⟨ρ',H',hf',hs',hq⟩:=h1;exact⟨ρ',H',hf',hs',hq⟩
  ·exact .inr ⟨hasks,a',w',ρ',H',hf',hs',hq⟩
 ·rename_i hw
  rw [if_neg hw] at h1
  exact hnil _ _ h1
theorem xU.all{ops:Array Oper}{Q:Exit→Act→World→Prop}{S:World→Prop}{rs:List Nat}{a:Act}{w:World}(hr:Region.ready .any ops listed=rs)(hne:rs≠[])
  (h:∀ i∈rs,wpOp P ops Q i (fun a' w'=>(i=t∨S w')∧xU P ops Q S t fuel (listed.setIfInBounds i true) a' w') a w):xU P ops Q S t (fuel+1) listed a w:=
 ⟨fun h0=>absurd (hr▸h0) hne,hr▸h⟩
def Beh(P:Program)(C:Ctx)(L:List Oper)(Q:Exit→Fr→Hp→Prop)(R:Hp)(t fuel:Nat)(listed:Array Bool)(ρ':Fr)(H':Hp):Prop:=(∃ r,H'.Perm (R++r))∧SA P C L Q R t fuel listed ρ' H'
theorem Beh.mk{r:Hp} [hp:fA H R r](h:SA P C L Q R t fuel listed ρ H):Beh P C L Q R t fuel listed ρ H:=⟨⟨r,hp.perm⟩,h⟩
theorem SA.one(i:Nat)(hi:L[i]?=some o)(hok:(Region.ready .any L.toArray listed == [i])=true)(h:SL P C L (thn (Beh P C L Q R t fuel (listed.setIfInBounds i true)) Q) [o] ρ H):SA P C L Q R t (fuel+1) listed ρ H:=fun a w hf hs hr=>
 xU.all (rs:=[i]) (by simpa using hok) (by simp) fun j hj=>by
  rw [bU.1 hj]
  exact vI hi h hf hs fun ρ' H' a' w' ⟨⟨r,hp⟩,hsa⟩ hf' hs'=>by
   have:=(hs'.perm hp).drop
   exact⟨.inr this,hsa a' w' hf' hs' this⟩
theorem SA.last(hi:L[t]?=some o)(hok:(Region.ready .any L.toArray listed == [t]&&(Region.ready .any L.toArray (listed.setIfInBounds t true)).isEmpty)=true)(h:SL P C L Q [o] ρ H):SA P C L Q R t (fuel+1) listed ρ H:=fun a w hf hs hr=>by
 simp only [bM] at hok
 refine xU.all (rs:=[t]) (by simpa using hok.1) (by simp) fun j hj=>?_
 rw [bU.1 hj]
 have h':SL P C L (thn (fun ρ' H'=>Q .normal ρ' H') Q) [o] ρ H:=fun a w hf hs=>by
  have:=h a w hf hs
  have e:sI C (thn (fun ρ' H'=>Q .normal ρ' H') Q)=sI C Q:=by
   funext e a w;unfold sI;cases e <;> rfl
  rw [e];exact this
 have hr2:Region.ready .any L.toArray (listed.setIfInBounds t true)=[]:=by simpa using hok.2
 refine vI hi h' hf hs fun ρ' H' a' w' hq hf' hs'=>⟨.inl rfl,?_⟩
 cases fuel with
 | zero=>exact⟨hr2,ρ',H',hf',hs',hq⟩
 | succ f=>exact⟨fun _=>⟨ρ',H',hf',hs',hq⟩,by rw [hr2];simp⟩
end
def Rd(K:List Nat)(w:World)(n:Nat)(v:Value)(ys:List Value):Prop:=
 ∃ a len cap,v=.slice a len cap∧ys.length=len*n∧len≤cap ∧
  (len=0∨∃ (b o:Nat) (l:List Value) (T:TypeId) (fz:Nat×Nat),a=some ⟨b,o,none⟩∧w.heap[b]?=some (.cells l.toArray T fz)∧b∉K∧(l.drop o).take (len*n)=ys)
theorem Rd.nil(K:List Nat)(w:World)(n:Nat):Rd K w n (.slice none 0 0) []:=⟨none,0,0,rfl,by simp,Nat.le_refl _,.inl rfl⟩
theorem Rd.empty(K:List Nat)(w:World)(n:Nat)(a:Option Addr)(c:Nat):Rd K w n (.slice a 0 c) []:=⟨a,0,c,rfl,by simp,Nat.zero_le _,.inl rfl⟩
theorem St.lt0{K:List Nat}{w0 w:World}{H:Hp}(h:St K w0 H w){b:Nat}{o:Obj}(hb:w0.heap[b]?=some o)(hk:b∉K){Hc r:Hp}(hp:H.Perm (Hc++r)):b∉Hc.map Prod.fst:=fun hm=>by
 obtain⟨⟨x,o'⟩,hx,rfl⟩:=bH.1 hm
 have hlt:=(gK.1 hb).1
 rcases h.fresh x o' (hp.mem_iff.2 (aO _ hx)) with h1|h1
 ·exact hk h1
 ·simp at hlt;omega
theorem Rd.ro{K:List Nat}{w0 w:World}{H Hc r:Hp}{n:Nat}{v:Value}{ys:List Value}(h:Rd K w0 n v ys)(hs:St K w0 H w) [hp:fA H Hc r]:Rd (Hc.map Prod.fst) w n v ys:=by
 obtain⟨a,len,cap,rfl,hl,hc,hb⟩:=h
 refine⟨a,len,cap,rfl,hl,hc,hb.imp id fun⟨b,o,l,T,fz,ha,hb,hk,hy⟩=>⟨b,o,l,T,fz,ha,hs.ro hb hk,hs.lt0 hb hk hp.perm,hy⟩⟩
theorem Rd.own{K:List Nat}{w0 w:World}{H Hc Hs r:Hp}{e n:Nat}{v:Value}{ys:List Value}(hv:Sl e n v ys Hs)(hs:St K w0 H w)(hp:fA H (Hc++Hs) r):Rd (Hc.map Prod.fst) w n v ys:=by
 rcases hv with ⟨rfl,rfl,rfl⟩|⟨b,len,cap,junk,rfl,hx,hj,hlc,rfl⟩
 ·exact Rd.nil _ _ _
 ·have hs2:=hs.perm hp.perm
  have hn:=hs2.nodup
  refine⟨some ⟨b,0,none⟩,len,cap,rfl,hx,hlc,.inr ⟨b,0,ys++junk,e,(0,0),rfl,hs2.own b (cl (ys++junk) e) (by simp),fun hm=>?_,by rw [bR,← hx,cW];rfl⟩⟩
  simp only [aV,aM] at hn
  exact (fS.1 hn).2.2 b hm b (by simp) rfl
theorem Rd.src{P:Program}{K:List Nat}{w:World}{n:Nat}{v:Value}{ys:List Value}(h:Rd K w n v ys):∃ m,eU P w v n m ys∧ys.length=m*n:=by
 obtain⟨a,len,cap,rfl,hl,hc,hb⟩:=h
 refine⟨len,?_,hl⟩
 rcases hb with rfl|⟨b,o,l,T,fz,rfl,hb,hk,hy⟩
 ·have:ys=[]:=by simpa using hl
  subst this
  exact eU.empty _ _ _ _
 ·exact eU.block hb hy hl
theorem Rd.srcAt{P:Program}{K:List Nat}{w0 w:World}{H:Hp}{n:Nat}{a:Option Addr}{len cap:Nat}{ys:List Value}(h:Rd K w0 n (.slice a len cap) ys)(hs:St K w0 H w):eU P w (.slice a len cap) n len ys:=by
 obtain⟨a',len',cap',he,hl,hc,hb⟩:=h
 cases he
 rcases hb with rfl|⟨b,o,l,T,fz,rfl,hb,hk,hy⟩
 ·have:ys=[]:=by simpa using hl
  subst this
  exact eU.empty _ _ _ _
 ·exact eU.block (hs.ro hb hk) hy hl
theorem Sl.srcAt{P:Program}{K:List Nat}{w0 w:World}{H Hs r:Hp}{e n:Nat}{a:Option Addr}{len cap:Nat}{ys:List Value}(hv:Sl e n (.slice a len cap) ys Hs)(hs:St K w0 H w)(hp:fA H Hs r):eU P w (.slice a len cap) n len ys:=by
 have hs2:=(hs.perm hp.perm)
 rcases hv with ⟨he,rfl,rfl⟩|⟨b,len,cap,junk,he,hx,hj,hlc,rfl⟩
 ·cases he;exact eU.empty _ _ _ _
 ·cases he
  exact eU.block (hs2.own b (cl (ys++junk) e) (by simp)) (by rw [bR,← hx,cW];rfl) hx
section
variable {P:Program}{C:Ctx}{ρ:Fr}{H:Hp}{fn:Func}{R:Value→Hp→Prop}{e:Exit}(he:e=.ret∨e=.normal)
include he
theorem Fin.s0(hrs:fn.results=#[])(hR:R (.tuple #[]) H):Fin P C fn R e ρ H:=Fin.r0 he hrs H hR
theorem Fin.s1{t:Nat}{v:Value}(hrs:fn.results=#[.tmp t])(ht:lk ρ t=some v)(hR:R v H):Fin P C fn R e ρ H:=Fin.r1 he hrs ht H hR
theorem Fin.s2{t u:Nat}{v v2:Value}(hrs:fn.results=#[.tmp t,.tmp u])(ht:lk ρ t=some v)(hu:lk ρ u=some v2)(hR:R (.tuple #[v,v2]) H):Fin P C fn R e ρ H:=Fin.r2 he hrs ht hu H hR
end
theorem aD8(A X B:List Value)(i j:Nat)(hj:j=A.length+i)(hi:i<X.length):(A++(X++B))[j]?=X[i]?:=by
 subst hj
 rw [aY (Nat.le_add_right _ _),dA,aL hi]
theorem aEz(A X B:List Value)(i j:Nat)(v:Value)(hj:j=A.length+i)(hi:i<X.length):(A++(X++B)).set j v=A++(X.set i v++B):=by
 subst hj
 rw [bY _ _ (Nat.le_add_right _ _),dA,gL _ _ hi]
theorem aF5(A X B:List Value)(i n j:Nat)(hj:j=A.length+i)(hi:i+n≤X.length):((A++(X++B)).drop j).take n=(X.drop i).take n:=by
 subst hj
 rw [← cJ,eW]
 ·rw [cM oQ,bW (by simp;omega)]
 ·rfl
theorem aCP(A X B r:List Value)(i j:Nat)(hj:j=A.length+i)(hi:i+r.length≤X.length):(A++(X++B)).take j++r++(A++(X++B)).drop (j+r.length)=A++(X.take i++r++X.drop (i+r.length)++B):=by
 subst hj
 rw [iG,gD,bW oQ,dA,aK oQ]
 rw [cP oQ,mA,dA,cM oQ]
 simp
theorem mE{α:Type}(f:α→List Value)(n:Nat):∀ (l:List α),(∀ x∈l,(f x).length=n)→(l.flatMap f).length=l.length*n
 | [],_=>by simp
 | x::l,h=>by
  rw [dF,aB,h x (by simp),mE f n l (fun y hy=>h y (by simp [hy])),aX,Nat.add_mul]
  omega
theorem qE{α:Type}(f:α→List Value)(l:List α)(k:Nat)(x:α)(hx:l[k]?=some x):l.flatMap f=(l.take k).flatMap f++(f x++(l.drop (k+1)).flatMap f):=by
 obtain⟨hk,rfl⟩:=aE.1 hx
 have h1:l=l.take k++(l[k]::l.drop (k+1)):=by rw [List.getElem_cons_drop,dG]
 have h2:=congrArg (List.flatMap f) h1
 rwa [cU,dF] at h2
theorem aGu{α:Type}(f:α→List Value)(l:List α)(k:Nat)(x:α)(hk:k<l.length):(l.set k x).flatMap f=(l.take k).flatMap f++(f x++(l.drop (k+1)).flatMap f):=by
 rw [gC,if_pos hk,cU,dF]
section
variable {P:Program}{C:Ctx}{Q:Exit→Fr→Hp→Prop}{ρ:Fr}{H:Hp}{α:Type}
def sK(F:α→Fr)(G:α→Hp)(M:α→Nat)(I:α→Prop)(a:α)(ρ:Fr)(H:Hp):Prop:=∃ a' s,M a'<M a∧subF (F a') ρ∧H.Perm (G a'++s)∧I a'
theorem sK.mk{F:α→Fr}{G:α→Hp}{M:α→Nat}{I:α→Prop}{a:α}(a':α){s:Hp}(hM:M a'<M a)(hr:subF (F a') ρ)(hp:fA H (G a') s)(hi:I a'):sK F G M I a ρ H:=⟨a',s,hM,hr,hp.perm,hi⟩
theorem sK.eq{F:α→Fr}{G:α→Hp}{M:α→Nat}{I:α→Prop}{a:α}(a':α)(hM:M a'<M a)(hr:subF (F a') ρ)(hH:H=G a')(hi:I a'):sK F G M I a ρ H:=⟨a',[],hM,hr,by rw [hH,aH],hi⟩
theorem zT{c:Code}(F:α→Fr)(G:α→Hp)(M:α→Nat)(I:α→Prop)(a0:α){s:Hp}(hr:subF (F a0) ρ)(hp:fA H (G a0) s)(h0:I a0)
  (round:∀ a,I a→SW P C c (thn (sK F G M I a) Q) (F a) (G a)):SW P C (.loop c) Q ρ H:=
 aLb (fun m ρ H=>∃ a,I a∧M a=m∧ρ=F a∧H=G a) (M a0) hr hp ⟨a0,h0,rfl,rfl,rfl⟩ fun k ρ H ⟨a,hi,hm,h1,h2⟩=>by
  subst hm h1 h2
  refine SW.mono (round a hi) fun e ρ' H' hq=>?_
  cases e <;> first
   | exact hq
   | exact (let ⟨a',s,hM,hr,hp,hi⟩:=hq;⟨M a',F a',G a',s,hM,hr,hp,a',hi,rfl,rfl,rfl⟩)
end
section
variable {P:Program}{C:Ctx}{Q:Exit→Fr→Hp→Prop}{Q':Fr→Prop}{ρ:Fr}{H:Hp}{L rest:List Oper}{d:Option Tmp}{ty:TypeId}{pos:String}{af:Array Edge}{g:Option (Nat×Bool)}{gg:Nat×Bool}{op:Op}
theorem aDd{x:Operand}(h:SL P C L Q (⟨d,.move x,ty,pos,af,g⟩::rest) ρ H):SL P C L Q (⟨d,.move x,ty,pos,af,g⟩::rest) ρ H:=h
theorem aH4{x:Operand}(h:SQ P C L Q' (⟨d,.move x,ty,pos,af,g⟩::rest) ρ H):SQ P C L Q' (⟨d,.move x,ty,pos,af,g⟩::rest) ρ H:=h
theorem aBk{x:Operand}(h:SL P C L Q (⟨d,.assign x,ty,pos,af,g⟩::rest) ρ H):SL P C L Q (⟨d,.assign x,ty,pos,af,g⟩::rest) ρ H:=h
theorem aE1{x:Operand}(h:SQ P C L Q' (⟨d,.assign x,ty,pos,af,g⟩::rest) ρ H):SQ P C L Q' (⟨d,.assign x,ty,pos,af,g⟩::rest) ρ H:=h
theorem aDe{c x y:Operand}(h:SL P C L Q (⟨d,.pick c x y,ty,pos,af,g⟩::rest) ρ H):SL P C L Q (⟨d,.pick c x y,ty,pos,af,g⟩::rest) ρ H:=h
theorem aBW{t:TypeId}(h:SL P C L Q (⟨d,.alloc t,ty,pos,af,g⟩::rest) ρ H):SL P C L Q (⟨d,.alloc t,ty,pos,af,g⟩::rest) ρ H:=h
theorem aEY{t:TypeId}{x:Operand}(h:SL P C L Q (⟨d,.box t x,ty,pos,af,g⟩::rest) ρ H):SL P C L Q (⟨d,.box t x,ty,pos,af,g⟩::rest) ρ H:=h
theorem aBX{t:TypeId}{ps:Array (Nat×Operand)}(h:SL P C L Q (⟨d,.build t ps,ty,pos,af,g⟩::rest) ρ H):SL P C L Q (⟨d,.build t ps,ty,pos,af,g⟩::rest) ρ H:=h
theorem aDb{t:TypeId}{x:Operand}(h:SL P C L Q (⟨d,.load t x,ty,pos,af,g⟩::rest) ρ H):SL P C L Q (⟨d,.load t x,ty,pos,af,g⟩::rest) ρ H:=h
theorem aH3{t:TypeId}{x:Operand}(h:SQ P C L Q' (⟨d,.load t x,ty,pos,af,g⟩::rest) ρ H):SQ P C L Q' (⟨d,.load t x,ty,pos,af,g⟩::rest) ρ H:=h
theorem aBZ{t:TypeId}{x y:Operand}(h:SL P C L Q (⟨d,.store t x y,ty,pos,af,g⟩::rest) ρ H):SL P C L Q (⟨d,.store t x y,ty,pos,af,g⟩::rest) ρ H:=h
theorem aE0{x:Operand}(h:SL P C L Q (⟨d,.nilCheck x,ty,pos,af,g⟩::rest) ρ H):SL P C L Q (⟨d,.nilCheck x,ty,pos,af,g⟩::rest) ρ H:=h
theorem aJd{x:Operand}(h:SQ P C L Q' (⟨d,.nilCheck x,ty,pos,af,g⟩::rest) ρ H):SQ P C L Q' (⟨d,.nilCheck x,ty,pos,af,g⟩::rest) ρ H:=h
theorem aG5{u:UnOp}{t:TypeId}{x:Operand}(h:SL P C L Q (⟨d,.unOp u t x,ty,pos,af,g⟩::rest) ρ H):SL P C L Q (⟨d,.unOp u t x,ty,pos,af,g⟩::rest) ρ H:=h
theorem aDc{f:Fn}{xs ys:Array Operand}(h:SL P C L Q (⟨d,.makeFunc f xs ys,ty,pos,af,g⟩::rest) ρ H):SL P C L Q (⟨d,.makeFunc f xs ys,ty,pos,af,g⟩::rest) ρ H:=h
theorem aDa{t:TypeId}{x:Operand}{n:Nat}(h:SL P C L Q (⟨d,.fieldAddr t x n,ty,pos,af,g⟩::rest) ρ H):SL P C L Q (⟨d,.fieldAddr t x n,ty,pos,af,g⟩::rest) ρ H:=h
theorem aH2{t:TypeId}{x:Operand}{n:Nat}(h:SQ P C L Q' (⟨d,.fieldAddr t x n,ty,pos,af,g⟩::rest) ρ H):SQ P C L Q' (⟨d,.fieldAddr t x n,ty,pos,af,g⟩::rest) ρ H:=h
theorem aEZ{t:TypeId}{x:Operand}{n:Nat}(h:SL P C L Q (⟨d,.field t x n,ty,pos,af,g⟩::rest) ρ H):SL P C L Q (⟨d,.field t x n,ty,pos,af,g⟩::rest) ρ H:=h
theorem aBY{b:Builtin}{xs:Array Operand}{ats:Array TypeId}(h:SL P C L Q (⟨d,.call { callee:=.builtin b,args:=xs,argTypes:=ats },ty,pos,af,g⟩::rest) ρ H):SL P C L Q (⟨d,.call { callee:=.builtin b,args:=xs,argTypes:=ats },ty,pos,af,g⟩::rest) ρ H:=h
theorem pK{f:Operand}{xs:Array Operand}{ats:Array TypeId}(h:SL P C L Q (⟨d,.call { callee:=.value f,args:=xs,argTypes:=ats },ty,pos,af,g⟩::rest) ρ H):SL P C L Q (⟨d,.call { callee:=.value f,args:=xs,argTypes:=ats },ty,pos,af,g⟩::rest) ρ H:=h
theorem sP(h:SL P C L Q (⟨d,op,ty,pos,af,some gg⟩::rest) ρ H):SL P C L Q (⟨d,op,ty,pos,af,some gg⟩::rest) ρ H:=h
theorem aEM{t t2:TypeId}{x y:Operand}(h:SL P C L Q (⟨d,.binOp .add t x y t2,ty,pos,af,g⟩::rest) ρ H):SL P C L Q (⟨d,.binOp .add t x y t2,ty,pos,af,g⟩::rest) ρ H:=h
theorem aEW{t t2:TypeId}{x y:Operand}(h:SL P C L Q (⟨d,.binOp .sub t x y t2,ty,pos,af,g⟩::rest) ρ H):SL P C L Q (⟨d,.binOp .sub t x y t2,ty,pos,af,g⟩::rest) ρ H:=h
theorem aES{t t2:TypeId}{x y:Operand}(h:SL P C L Q (⟨d,.binOp .mul t x y t2,ty,pos,af,g⟩::rest) ρ H):SL P C L Q (⟨d,.binOp .mul t x y t2,ty,pos,af,g⟩::rest) ρ H:=h
theorem aEU{t t2:TypeId}{x y:Operand}(h:SL P C L Q (⟨d,.binOp .quo t x y t2,ty,pos,af,g⟩::rest) ρ H):SL P C L Q (⟨d,.binOp .quo t x y t2,ty,pos,af,g⟩::rest) ρ H:=h
theorem aEV{t t2:TypeId}{x y:Operand}(h:SL P C L Q (⟨d,.binOp .rem t x y t2,ty,pos,af,g⟩::rest) ρ H):SL P C L Q (⟨d,.binOp .rem t x y t2,ty,pos,af,g⟩::rest) ρ H:=h
theorem aER{t t2:TypeId}{x y:Operand}(h:SL P C L Q (⟨d,.binOp .lss t x y t2,ty,pos,af,g⟩::rest) ρ H):SL P C L Q (⟨d,.binOp .lss t x y t2,ty,pos,af,g⟩::rest) ρ H:=h
theorem aEQ{t t2:TypeId}{x y:Operand}(h:SL P C L Q (⟨d,.binOp .leq t x y t2,ty,pos,af,g⟩::rest) ρ H):SL P C L Q (⟨d,.binOp .leq t x y t2,ty,pos,af,g⟩::rest) ρ H:=h
theorem aEP{t t2:TypeId}{x y:Operand}(h:SL P C L Q (⟨d,.binOp .gtr t x y t2,ty,pos,af,g⟩::rest) ρ H):SL P C L Q (⟨d,.binOp .gtr t x y t2,ty,pos,af,g⟩::rest) ρ H:=h
theorem aEO{t t2:TypeId}{x y:Operand}(h:SL P C L Q (⟨d,.binOp .geq t x y t2,ty,pos,af,g⟩::rest) ρ H):SL P C L Q (⟨d,.binOp .geq t x y t2,ty,pos,af,g⟩::rest) ρ H:=h
theorem aEN{t t2:TypeId}{x y:Operand}(h:SL P C L Q (⟨d,.binOp .eql t x y t2,ty,pos,af,g⟩::rest) ρ H):SL P C L Q (⟨d,.binOp .eql t x y t2,ty,pos,af,g⟩::rest) ρ H:=h
theorem aET{t t2:TypeId}{x y:Operand}(h:SL P C L Q (⟨d,.binOp .neq t x y t2,ty,pos,af,g⟩::rest) ρ H):SL P C L Q (⟨d,.binOp .neq t x y t2,ty,pos,af,g⟩::rest) ρ H:=h
theorem aJc{t t2:TypeId}{x y:Operand}(h:SQ P C L Q' (⟨d,.binOp .leq t x y t2,ty,pos,af,g⟩::rest) ρ H):SQ P C L Q' (⟨d,.binOp .leq t x y t2,ty,pos,af,g⟩::rest) ρ H:=h
end
theorem Tri.frame{P:Program}{f:FuncId}{vs:List Value}{Hc H r:Hp}{Pre Pre':World→Prop}{R:Value→Hp→Prop}(h:Tri P f vs Hc Pre R)(hp:H.Perm (Hc++r))(hpre:∀ w,Own H w→Pre' w→Pre w) :
  Tri P f vs H Pre' (fun v H'=>∃ H1,H'=H1++r∧R v H1):=fun w ho hq=>by
 have hs:=(St.start ho).perm hp
 exact (h w hs.drop.toOwn (hpre w ho hq)).mono fun e w' ⟨v,H1,he,hst,hR⟩=>⟨v,H1++r,he,hs.comp hst,H1,rfl,hR⟩
theorem Sl.form{e n:Nat}{v:Value}{xs:List Value}{H:Hp}(h:Sl e n v xs H):∃ a len cap,v=.slice a len cap∧xs.length=len*n:=by
 rcases h with ⟨rfl,rfl,_⟩|⟨b,len,cap,junk,rfl,hl,_⟩
 ·exact⟨none,0,0,rfl,by simp⟩
 ·exact⟨_,len,cap,rfl,hl⟩
theorem Fin.np{P:Program}{C:Ctx}{fn:Func}{R:Value→Hp→Prop}{c:_}{ρ:Fr}{H:Hp}(h:Fin P C fn R (.panic c) ρ H):False:=h
theorem St.tail{K:List Nat}{w0 w:World}{H r:Hp}{b:Nat}{o:Obj}(hp:H.Perm ((b,o)::r))(h:St K w0 H w):St K w0 r w:=by
 have h1:H.Perm (r++[(b,o)]):=hp.trans (cD (l₁:=[(b,o)]))
 exact (h.perm h1).drop
theorem Fin.rm{P:Program}{C:Ctx}{fn:Func}{R:Value→Hp→Prop}{e:Exit}{ρ:Fr}{H r:Hp}(b:Nat){o:Obj} [hp:Out H b o r](h:Fin P C fn R e ρ r):Fin P C fn R e ρ H:=by
 have hq:=hp.perm
 cases e <;> first
  | exact h
  | (obtain⟨v,Hc,s,h1,h2,h3⟩:=h;exact⟨v,Hc,(b,o)::s,hq.trans ((h1.cons _).trans (gR.symm)),h2,fun a w hf hs=>h3 a w hf (hs.tail hq)⟩)
theorem Fin.perm{P:Program}{C:Ctx}{fn:Func}{R:Value→Hp→Prop}{e:Exit}{ρ:Fr}{H H':Hp}(hp:H.Perm H')(h:Fin P C fn R e ρ H'):Fin P C fn R e ρ H:=by
 cases e <;> first
  | exact h
  | (obtain⟨v,Hc,s,h1,h2,h3⟩:=h;exact⟨v,Hc,s,hp.trans h1,h2,fun a w hf hs=>h3 a w hf (hs.perm hp)⟩)
theorem Fin.drop{P:Program}{C:Ctx}{fn:Func}{R:Value→Hp→Prop}{e:Exit}{ρ:Fr}{H r:Hp}(Hs:Hp) [hp:fA H Hs r](h:Fin P C fn R e ρ r):Fin P C fn R e ρ H:=by
 have hq:H.Perm (r++Hs):=hp.perm.trans cD
 cases e <;> first
  | exact h
  | (obtain⟨v,Hc,s,h1,h2,h3⟩:=h;exact⟨v,Hc,s++Hs,by rw [← aM];exact hq.trans (h1.append_right Hs),h2,fun a w hf hs=>h3 a w hf (hs.perm hq).drop⟩)
theorem Fin.c1e{P:Program}{C:Ctx}{fn:Func}{R:Value→Hp→Prop}{e:Exit}{ρ:Fr}{H r:Hp}(he:e=.ret∨e=.normal){t ty n b:Nat}{l:List Value}{T:TypeId}(l2:List Value)(hrs:fn.results=#[.cell t ty])(ht:lk ρ t=some (.pointer (some ⟨b,0,none⟩))) [fC P ty n] [hp:Out H b (cl l T) r](hl:l=l2)(hn:l2.length=n)(hR:R (.agg l2.toArray) r):Fin P C fn R e ρ H:=by
 subst hl
 have:At H b (cl l T):=⟨hp.perm.mem_iff.2 (by simp)⟩
 have:fA H r [(b,cl l T)]:=⟨hp.perm.trans (cD (l₁:=[(b,cl l T)]))⟩
 exact Fin.c1 he hrs ht hn r hR
theorem uO{pl:Nat→Option (Nat×Nat)}{i off n:Nat}{v:Value}{z x:List Value}{r:List (Nat×Value)}(z':List Value)(hp:pl i=some (off,n))(hv:(vl v).length=n)(ho:off+n≤z.length)(h:z.take off++vl v++z.drop (off+n)=z')(hr:bX pl z' r=some x):bX pl z ((i,v)::r)=some x:=by
 subst h
 unfold bX
 rw [hp]
 dsimp only
 rw [if_pos ⟨hv,ho⟩]
 exact hr
theorem yQ{P:Program}{C:Ctx}{Q:Exit→Fr→Hp→Prop}{ρ:Fr}{H H':Hp}{L rest:List Oper}{o:Oper}{t:TypeId}{n:Nat}{x y:Operand}{b:Nat}{l r:List Value}{T:TypeId}(ho:o.op=.store t x y)(hg:gd L ρ o=some true){d:Option Nat}(hd:dk C.n o.dst=some d)
  (hx:ev ρ x=some (.pointer (some ⟨b,0,none⟩))) (hy:ev ρ y=some (.agg r.toArray)) [fC P t n] (hr:r.length=n) [OC r] [At H b (cl l T)] (hz:l.length=n) [Upd H b (cl r T) H']
  (hk:SL P C L Q rest (pt ρ d undef) H'):SL P C L Q (o::rest) ρ H:=
 uN (l':=r) ho hg hd hx hy hr oQ (by rw [cT,List.nil_append,cP oQ,aH]) hk
theorem aIF(l r:Hp)(a b:Nat×Obj):(l++a::b::r).Perm (a::b::(l++r)):=gR.trans (List.perm_middle.cons a)
class Sel(H:Hp)(bs:List Nat)(R:outParam Hp)(r:outParam Hp):Prop where
 perm:H.Perm (R++r)
 keys:R.map Prod.fst=bs
instance Sel.nil(H:Hp):Sel H [] [] H:=⟨.refl _,rfl⟩
instance Sel.cons(H:Hp)(b:Nat)(o:Obj)(bs:List Nat)(R r r':Hp) [h1:Out H b o r] [h2:Sel r bs R r']:Sel H (b::bs) ((b,o)::R) r':=⟨h1.perm.trans (h2.perm.cons _),by rw [dP,h2.keys]⟩
theorem Rd.ownB{K:List Nat}{w0 w:World}{H Hc Hs r r2:Hp}{e n:Nat}{v:Value}{ys:List Value}(bs:List Nat)(hv:Sl e n v ys Hs)(hs:St K w0 H w) [hp:Sel H bs Hc r] [hq:fA r Hs r2]:Rd bs w n v ys:=by
 have:=Rd.own (Hc:=Hc) hv hs (r:=r2) ⟨by rw [aM];exact hp.perm.trans (hq.perm.append_left Hc)⟩
 rwa [hp.keys] at this
theorem mO{P:Program}{C:Ctx}{Q:Exit→Fr→Hp→Prop}{ρ:Fr}{H:Hp}{l:List Oper}{id:Nat}(bs:List Nat)(t:Nat)(hm:P.follows .mixedOrders=true){R r:Hp} [hp:Sel H bs R r](h:SA P C l Q R t l.length (Array.replicate l.length false) ρ H):SW P C (.region id l.toArray true) Q ρ H:=
 aGf R t hm (hp:=⟨hp.perm⟩) h
theorem aEX{P:Program}{C:Ctx}{Q:Exit→Fr→Hp→Prop}{ρ:Fr}{H:Hp}{L rest:List Oper}{o:Oper}{f:FuncId}{xs:Array Operand}{ats:Array TypeId}{vs:List Value}(bs:List Nat){Hc r:Hp} [hp:Sel H bs Hc r]{Pre:World→Prop}{R:Value→Hp→Prop}(ho:o.op=.call { callee:=.value (.func f),args:=xs,argTypes:=ats })(hg:gd L ρ o=some true){d:Option Nat}(hd:dk C.n o.dst=some d)(hx:evs ρ xs.toList=some vs) [bD P f](ht:Tri P f vs Hc Pre R)(hpre:∀ w,St C.K C.w0 H w→Pre w)
  (hk:∀ v H',R v H'→SL P C L Q rest (pt ρ d v) (H'++r)):SL P C L Q (o::rest) ρ H:=
 have:fA H Hc r:=⟨hp.perm⟩
 oM Hc ho hg hd hx ht hpre hk
section
variable {P:Program}{C:Ctx}{ρ:Fr}{H:Hp}{o:Oper}
theorem yE(op:BinOp)(t:TypeId)(x y:Operand)(w:World)(a b:Option Addr)(n c n' c':Nat):(eqGuard op t x y (.slice a n c) (.slice b n' c')).run P w=.ok () w:=by
 cases op <;> simp [eqGuard]
theorem aAy{t e n:Nat} [h:cI P t e n](a:Option Addr)(m c:Nat)(w:World):(Op.equal t (.slice a m c) (.slice none 0 0)).run P w=.ok a.isNone w:=by
 have he:=h.ok
 cases a with
 | none=>unfold Op.equal Op.maxDepth Op.equalIn;simp [run_underlying he]
 | some a=>unfold Op.equal Op.maxDepth Op.equalIn;simp [run_underlying he]
theorem tW{t e n t':Nat}{x y:Operand}{a:Option Addr}{m c:Nat}(ho:o.op=.binOp .eql t x y t')(hx:ev ρ x=some (.slice a m c))(hy:ev ρ y=some (.slice none 0 0)) [h:cI P t e n]:Pu P C ρ H o (.bool a.isNone):=fun ac w hf _=>by
 unfold execOp;rw [ho];simp [hf.eval hx,hf.eval hy,yE,binOp,aAy (h:=h)]
theorem uB{t e n t':Nat}{x y:Operand}{a:Option Addr}{m c:Nat}(ho:o.op=.binOp .neq t x y t')(hx:ev ρ x=some (.slice a m c))(hy:ev ρ y=some (.slice none 0 0)) [h:cI P t e n]:Pu P C ρ H o (.bool a.isSome):=fun ac w hf _=>by
 unfold execOp;rw [ho];cases a <;> simp [hf.eval hx,hf.eval hy,yE,binOp,aAy (h:=h)]
end
structure AOp where
 i:Nat
 d:Nat
 val:Nat→Value
 obj:Obj
def aBg(l:Array Bool)(is:List Nat):Array Bool:=is.foldl (fun a i=>a.setIfInBounds i true) l
theorem aCN(is:List Nat):∀ (l:Array Bool) (j:Nat),(aBg l is)[j]?=if j∈is then l[j]?.map (fun _=>true) else l[j]?:=by
 induction is with
 | nil=>intro l j;simp [aBg]
 | cons i is ih=>
  intro l j
  show (aBg (l.setIfInBounds i true) is)[j]?=_
  rw [ih,iC]
  by_cases h1:i=j
  ·subst h1
   by_cases h2:i<l.size
   ·simp [h2]
   ·simp [h2]
  ·by_cases h2:j∈is
   ·simp [h1,h2]
   ·simp [h1,h2,Ne.symm h1]
theorem aEy(l:Array Bool)(is:List Nat)(i:Nat)(hi:i∈is)(hn:is.Nodup):aBg (l.setIfInBounds i true) (is.erase i)=aBg l is:=by
 apply Array.ext_getElem?
 intro j
 rw [aCN,aCN,iC]
 have hme:j∈is.erase i↔j≠i∧j∈is:=List.Nodup.mem_erase_iff hn
 simp only [hme]
 by_cases h1:i=j
 ·subst h1
  by_cases h2:i<l.size
  ·simp [h2,hi]
  ·simp [h2,hi]
 ·by_cases h2:j∈is
  ·simp [h1,h2,Ne.symm h1]
  ·simp [h1,h2]
def aGo(L:List Oper):Nat→List Nat→Array Bool→Bool
 | 0,is,_=>is.isEmpty
 | n+1,is,listed=>(Region.ready .any L.toArray listed == is)&&!is.isEmpty&&is.all fun i=>aGo L n (is.erase i) (listed.setIfInBounds i true)
section
variable {P:Program}{C:Ctx}{Q:Exit→Fr→Hp→Prop}{L:List Oper}{R:Hp}{t:Nat}
theorem aK7{listed:Array Bool}{fuel:Nat}{ρ:Fr}{H:Hp}(is:List Nat)(hok:Region.ready .any L.toArray listed=is)(hne:is≠[])
  (h:∀ i∈is,∃ o,L[i]?=some o∧SL P C L (thn (Beh P C L Q R t fuel (listed.setIfInBounds i true)) Q) [o] ρ H):SA P C L Q R t (fuel+1) listed ρ H:=fun a w hf hs hr=>
 xU.all (rs:=is) hok hne fun k hk=>by
  obtain⟨o,hi,h⟩:=h k hk
  exact vI hi h hf hs fun ρ' H' a' w' ⟨⟨r,hp⟩,hsa⟩ hf' hs'=>by
   have:=(hs'.perm hp).drop
   exact⟨.inr this,hsa a' w' hf' hs' this⟩
theorem aCo{r:Fr}{d:Nat}(h:d∉r.map Prod.fst){ρ:Fr}(hs:subF r ρ)(v:Value):subF r ((d,v)::ρ):=by
 induction r with
 | nil=>trivial
 | cons x r ih=>
  obtain⟨k,u⟩:=x
  simp only [dP,bZ,not_or] at h
  refine⟨?_,ih h.2 hs.2⟩
  show (bif Nat.beq d k then some v else lk ρ k)=some u
  have:Nat.beq d k=false:=by
   cases hb:Nat.beq d k with
   | false=>rfl
   | true=>exact absurd (kC hb) h.1
  rw [this];exact hs.1
theorem aBs:∀ (l:List AOp) (x:AOp),x∈l→(l.map AOp.i).Nodup→l.Perm (x::l.filter fun y=>y.i != x.i)
 | [],x,h,_=>by cases h
 | y::l,x,h,hn=>by
  simp only [dP,kJ] at hn
  rcases bZ.1 h with rfl|h
  ·have h1:l.filter (fun z=>z.i != x.i)=l:=List.filter_eq_self.2 fun z hz=>by
    have:z.i≠x.i:=fun e=>hn.1 (e▸bH.2 ⟨z,hz,rfl⟩)
    simpa using this
   rw [List.filter_cons_of_neg (by simp),h1]
  ·have hne:y.i≠x.i:=fun e=>hn.1 (e▸bH.2 ⟨x,h,rfl⟩)
   rw [List.filter_cons_of_pos (by simpa using hne)]
   exact ((aBs l x h hn.2).cons y).trans (.swap _ _ _)
theorem aC9{listed:Array Bool}{fuel:Nat}{ρ:Fr}{H:Hp}(ρ1:Fr)(H1:Hp)(hr:subF ρ1 ρ)(hp:H.Perm H1)(h:SA P C L Q R t fuel listed ρ1 H1):SA P C L Q R t fuel listed ρ H:=fun a w hf hs hR=>h a w (hf.sub hr) (hs.perm hp) hR
theorem aAK(base0:Fr):∀ (n:Nat) (todo:List AOp) (base:Fr) (listed:Array Bool) (fuel:Nat) (ρ:Fr) (H:Hp),todo.length=n→(todo.map AOp.i).Nodup→(todo.map AOp.d).Nodup→(∀ x∈todo,x.d∉base.map Prod.fst)→(∀ x∈todo,x.d∉base0.map Prod.fst) →
  aGo L n (todo.map AOp.i) listed=true→subF base ρ→subF base0 ρ→(∃ r,H.Perm (R++r)) →
  (∀ x∈todo,∃ o,L[x.i]?=some o∧∀ (K:Fr→Hp→Prop) (ρ:Fr) (H:Hp),subF base0 ρ→(∀ b,K ((x.d,x.val b)::ρ) ((b,x.obj)::H))→SL P C L (thn K Q) [o] ρ H) →
  (∀ (f:Nat→Nat) (ρ':Fr) (H':Hp),subF base ρ'→(∀ x∈todo,lk ρ' x.d=some (x.val (f x.i)))→H'.Perm (todo.map (fun x=>(f x.i,x.obj))++H)→SA P C L Q R t fuel (aBg listed (todo.map AOp.i)) ρ' H') →
  SA P C L Q R t (fuel+n) listed ρ H
 | 0,todo,base,listed,fuel,ρ,H,hlen,_,_,_,_,_,hb,_,_,_,hk=>by
  have:todo=[]:=bJ hlen
  subst this
  exact hk id ρ H hb (by simp) (by simp)
 | n+1,todo,base,listed,fuel,ρ,H,hlen,hni,hnd,hdb,hdb0,hc,hb,hb0,hr,hst,hk=>by
  unfold aGo at hc
  simp only [bM,tH,beq_iff_eq] at hc
  obtain⟨⟨hc1,hc2⟩,hc3⟩:=hc
  refine aK7 (todo.map AOp.i) hc1 (by intro h0;rw [h0] at hc2;simp at hc2) fun i hi=>?_
  obtain⟨x,hx,rfl⟩:=bH.1 hi
  obtain⟨o,ho,hstep⟩:=hst x hx
  have hper:=aBs todo x hx hni
  have hmf:(todo.filter fun y=>y.i != x.i).map AOp.i=(todo.map AOp.i).erase x.i:=by
   rw [List.Nodup.erase_eq_filter hni,List.filter_map];rfl
  have hlf:(todo.filter fun y=>y.i != x.i).length=n:=by
   have:=hper.length_eq;simp only [aX] at this;omega
  have hsub:∀ y∈todo.filter (fun y=>y.i != x.i),y∈todo∧y.i≠x.i:=fun y hy=>by
   have:=List.mem_filter.1 hy;exact⟨this.1,by simpa using this.2⟩
  have hdn:((x::todo.filter fun y=>y.i != x.i).map AOp.d).Nodup:=(hper.map AOp.d).nodup_iff.1 hnd
  simp only [dP,kJ] at hdn
  refine⟨o,ho,hstep _ ρ H hb0 fun b=>⟨?_,?_⟩⟩
  ·obtain⟨r,hp⟩:=hr
   exact⟨(b,x.obj)::r,(hp.cons _).trans gR.symm⟩
  ·refine aAK base0 n (todo.filter fun y=>y.i != x.i) ((x.d,x.val b)::base) (listed.setIfInBounds x.i true) fuel _ _ hlf (by rw [hmf];exact hni.erase _) hdn.2 (fun y hy=>?_) (fun y hy=>hdb0 y (hsub y hy).1) (by rw [hmf];exact hc3 _ hi)
    ⟨?_,aCo (hdb x hx) hb _⟩ (aCo (hdb0 x hx) hb0 _) ?_ (fun y hy=>hst y (hsub y hy).1) fun f ρ' H' h1 h2 h3=>?_
   ·simp only [dP,bZ,not_or]
    refine⟨fun e=>hdn.1 (e▸bH.2 ⟨y,hy,rfl⟩),hdb y (hsub y hy).1⟩
   ·show (bif Nat.beq x.d x.d then some (x.val b) else lk ρ x.d)=some (x.val b)
    rw [zO];rfl
   ·obtain⟨r,hp⟩:=hr
    exact⟨(b,x.obj)::r,(hp.cons _).trans gR.symm⟩
   ·rw [hmf,aEy _ _ _ hi hni]
    refine hk (fun j=>if j=x.i then b else f j) ρ' H' h1.2 (fun y hy=>?_) (h3.trans ?_)
    ·rcases bZ.1 (hper.mem_iff.1 hy) with rfl|hy2
     ·rw [if_pos rfl];exact h1.1
     ·rw [if_neg (hsub y hy2).2];exact h2 y hy2
    ·have e1:(todo.filter fun y=>y.i != x.i).map (fun y=>(f y.i,y.obj))=(todo.filter fun y=>y.i != x.i).map (fun y=>((if y.i=x.i then b else f y.i),y.obj)):=
      eH fun y hy=>by rw [if_neg (hsub y hy).2]
     rw [e1]
     refine gR.trans ?_
     have:=(hper.map (fun y:AOp=>((if y.i=x.i then b else f y.i),y.obj))).append_right H
     simp only [dP,if_true,eE] at this
     exact this.symm
end
end Go.Proofs.YtnhnpjokpelkbaaGreat
