/- Calls through interfaces. Heaps in plain words. -/
import Derived.Test.YtdfclocfackkmaaGreatPm7
set_option linter.unusedVariables false
set_option linter.unusedSimpArgs false
set_option linter.unusedSectionVars false
namespace Go.Proofs.YtdfclocfackkmaaGreat
open Go
class aFa(P:Program)(t:TypeId)(name:String)(f:outParam FuncId):Prop where
 ptr:∃ e,P.underlying t=some (.pointer e)
 row:∃ i m,P.info? t=some i/\i.methods.find? (fun m=>m.name == name)=some m/\m.path=#[]/\m.func=some (f,true)
class aIw(P:Program)(t:TypeId):Prop where
 ok:∃ d,P.underlying t=some d/\(match d with|.interface _=>false|_=>true)=true
section
variable {P:Program}
theorem aHl{t:TypeId}{name:String}{f:FuncId} [h:aFa P t name f](n:Nat)(v:Value)(w:World):(method (n+1) t v name).run P w=.ok (f,v) w:=by obtain⟨e,he⟩:=h.ptr;obtain⟨i,m,hi,hm,hp,hf⟩:=h.row;unfold method;simp [typeInfo,hi,hm,hp,hf,follow,receiverAt,run_underlying he,Place.get]
variable {C:Ctx}{Q:Exit->Fr->Hp->Prop}{A:Fr}{H:Hp}{L rest:List Oper}{d:Option Tmp}{ty:TypeId}{pos:String}{af:Array Edge}{g:Option (Nat×Bool)}{t t':Nat}{d':Option Nat}{x y:Operand}{o:Oper}{v:Value}
theorem aGF{f:FuncId}{recv:Operand}{name:String}{xs:Array Operand}{ats:Array TypeId}{us:LV}(Hc:Hp){r:Hp}{Pre:World->Prop}{R:Value->Hp->Prop}(ho:o.op=.call { callee:=.invoke recv name,args:=xs,argTypes:=ats })(hg:gd L A o=some true){d:Option Nat}(hd:dk C.n o.dst=some d)(hy:ev A recv=some (.iface t v))(hx:evs A xs.toList=some us) [hM:aFa P t name f] [bC P f] [eY H Hc r](ht:Tri P f (v::us) Hc Pre R)(hpre:∀ w,St C.K C.w0 H w->Pre w)
  (hk:∀ v H',R v H'->SL P C L Q rest (pt A d v) (H'++r)):SL P C L Q (o::rest) A H:=
 yP Hc hg hd (fun a w hf=>by
  have h1:(xs.map a.eval)=us.toArray:=by have:=hf.evals hx;apply Array.ext';simpa using this
  have hm:∀ n,(method (n+Made.depth) t v name).run P w=.ok (f,v) w:=fun n=>by
   have:n+Made.depth=(n+Made.depth-1)+1:=by
    have:0<Made.depth:=dQ
    omega
   rw [this];exact aHl _ v w
  unfold execOp;rw [ho]
  simp [resolve,invoke,callMethod,hf.eval hy,h1,hm,qZ]) ht hpre hk
theorem aOD [h:aIw P t](ho:o.op=.makeInterface t x)(hx:ev A x=some v):Pu P C A H o (.iface t v):=fun a w hf _=>by
 obtain⟨e,he,hn⟩:=h.ok
 unfold execOp;rw [ho]
 cases e <;> first|(simp at hn;done)|simp [hf.eval hx,Instr.makeInterface,run_underlying he]
theorem W.mi [h:aIw P t](hk:SL P C L Q rest (pt A d' (.iface t v)) H)(hx:ev A x=some v:=by exact rfl)(hg:gd L A ⟨d,.makeInterface t x,ty,pos,af,g⟩=some true:=by exact rfl)(hd:dk C.n d=some d':=by exact rfl):SL P C L Q (⟨d,.makeInterface t x,ty,pos,af,g⟩::rest) A H:=
 bN (aOD rfl hx) hg hd hk
theorem aQc [h:aIw P t](ho:o.op=.typeAssert x t' t true)(hx:ev A x=some (.iface t v)):Pu P C A H o (.tuple #[v,.bool true]):=fun a w hf _=>by
 obtain⟨e,he,hn⟩:=h.ok
 unfold execOp;rw [ho]
 cases e <;> first|(simp at hn;done)|simp [hf.eval hx,Instr.typeAssert,run_underlying he]
theorem aPK [h:aIw P t](hk:SL P C L Q rest (pt A d' (.tuple #[v,.bool true])) H)(hx:ev A x=some (.iface t v):=by exact rfl)(hg:gd L A ⟨d,.typeAssert x t' t true,ty,pos,af,g⟩=some true:=by exact rfl)(hd:dk C.n d=some d':=by exact rfl):SL P C L Q (⟨d,.typeAssert x t' t true,ty,pos,af,g⟩::rest) A H:=
 bN (aQc rfl hx) hg hd hk
theorem sC{f:FuncId}{recv:Operand}{name:String}{xs:Array Operand}{ats:Array TypeId}{us:LV}{Hc rr:Hp}{Pre:World->Prop}{R:Value->Hp->Prop} [hM:aFa P t name f] [bC P f](ht:Tri P f (v::us) Hc Pre R) [eY H Hc rr](hk:∀ v H',R v H'->SL P C L Q rest (pt A d' v) (H'++rr))(hy:ev A recv=some (.iface t v):=by exact rfl)(hx:evs A xs.toList=some us:=by exact rfl)(hpre:∀ w,St C.K C.w0 H w->Pre w:=by exact fun _ _=>trivial)(hg:gd L A ⟨d,.call { callee:=.invoke recv name,args:=xs,argTypes:=ats },ty,pos,af,g⟩=some true:=by exact rfl)(hd:dk C.n d=some d':=by exact rfl) :
  SL P C L Q (⟨d,.call { callee:=.invoke recv name,args:=xs,argTypes:=ats },ty,pos,af,g⟩::rest) A H:=aGF Hc rfl hg hd hy hx ht hpre hk
class aJG(P:Program)(t:TypeId):Prop where
 ok:∃ a b c,P.underlying t=some (.func a b c)
theorem aGW(op:BinOp)(t:TypeId)(x y:Value)(hx:x=.nilFunc\/∃ f fs cs,x=.func f fs cs)(w:World)(ox oy:Operand):(eqGuard op t ox oy x y).run P w=.ok () w:=by rcases hx with rfl|⟨f,fs,cs,rfl⟩ <;> cases op <;> simp [eqGuard]
theorem aP5 [h:aJG P t]{f:Go.Fn}{fs cs:Array Value}(ho:o.op=.binOp .eql t x y t')(hx:ev A x=some (.func f fs cs))(hy:ev A y=some .nilFunc):Pu P C A H o (.bool false):=fun a w hf _=>by
 obtain⟨p,q,r,hu⟩:=h.ok
 have he:(Op.equal t (.func f fs cs) .nilFunc).run P w=.ok false w:=by unfold Op.equal Op.maxDepth Op.equalIn;simp [run_underlying hu]
 unfold execOp;rw [ho];simp [hf.eval hx,hf.eval hy,aGW _ _ _ _ (.inr ⟨f,fs,cs,rfl⟩),binOp,he]
theorem aPH [h:aJG P t]{f:Go.Fn}{fs cs:Array Value}(hk:SL P C L Q rest (pt A d' (.bool false)) H)(hx:ev A x=some (.func f fs cs):=by exact rfl)(hy:ev A y=some .nilFunc:=by exact rfl)(hg:gd L A ⟨d,.binOp .eql t x y t',ty,pos,af,g⟩=some true:=by exact rfl)(hd:dk C.n d=some d':=by exact rfl):SL P C L Q (⟨d,.binOp .eql t x y t',ty,pos,af,g⟩::rest) A H:=
 bN (aP5 rfl hx hy) hg hd hk
end
namespace Pq
structure Sx where
 a:Int
 b:Int
 num:Int
deriving DecidableEq,Inhabited
structure Ord(J:Type)(lt:J->J->Bool):Prop where
 asym:∀ x y,lt x y=true->lt y x=false
 neg:∀ x y z,lt x y=false->lt y z=false->lt x z=false
def lts(less:Int×Int->Int×Int->Bool)(s t:Sx):Bool:=if less (s.a,s.b) (t.a,t.b) then true else if less (t.a,t.b) (s.a,s.b) then false else decide (s.num<t.num)
theorem lts_ord{less:Int×Int->Int×Int->Bool}(h:Ord (Int×Int) less):Ord Sx (lts less):=by
 refine⟨fun x y hxy=>?_,fun x y z h1 h2=>?_⟩
 ·unfold lts at hxy |-;cases p:less (x.a,x.b) (y.a,y.b) with
  | true=>rw [h.asym _ _ p];simp
  | false=>
   rw [p] at hxy
   cases q:less (y.a,y.b) (x.a,x.b) with
   | true=>rw [q] at hxy;simp at hxy
   | false=>
    rw [q] at hxy
    simp at hxy |-
    omega
 unfold lts at h1 h2 |-;cases p:less (x.a,x.b) (y.a,y.b) with
 | true=>rw [p] at h1;simp at h1
 | false=>
  cases q:less (y.a,y.b) (z.a,z.b) with
  | true=>rw [q] at h2;simp at h2
  | false=>
   rw [h.neg _ _ _ p q]
   rw [p] at h1
   rw [q] at h2
   cases r:less (z.a,z.b) (x.a,x.b) with
   | true=>simp
   | false=>
    have e1:less (y.a,y.b) (x.a,x.b)=false:=h.neg _ _ _ q r
    have e2:less (z.a,z.b) (y.a,y.b)=false:=h.neg _ _ _ r p
    rw [e1] at h1
    rw [e2] at h2
    simp at h1 h2 |-
    omega
section
variable {lt:Sx->Sx->Bool}
def le(lt:Sx->Sx->Bool)(a b:Sx):Prop:=lt b a=false
theorem le_trans(h:Ord Sx lt){a b c:Sx}(h1:le lt a b)(h2:le lt b c):le lt a c:=h.neg _ _ _ h2 h1
theorem le_of_lt(h:Ord Sx lt){a b:Sx}(h1:lt a b=true):le lt a b:=h.asym _ _ h1
theorem le_refl(h:Ord Sx lt)(a:Sx):le lt a a:=by
 unfold le;cases p:lt a a with
 | false=>rfl
 | true=>have:=h.asym _ _ p;rw [p] at this;exact this
def HeapN(lt:Sx->Sx->Bool)(g:Nat->Sx)(n:Nat):Prop:=∀ k,0<k->k<n->le lt (g ((k-1)/2)) (g k)
def swp(g:Nat->Sx)(i j:Nat):Nat->Sx:=fun k=>if k=i then g j else if k=j then g i else g k
theorem swp_l(g:Nat->Sx)(i j:Nat):swp g i j i=g j:=by simp [swp]
theorem swp_r(g:Nat->Sx)(i j:Nat):swp g i j j=g i:=by unfold swp;by_cases h:j=i <;> simp [h]
theorem swp_o(g:Nat->Sx){i j k:Nat}(h1:k≠i)(h2:k≠j):swp g i j k=g k:=by simp [swp,h1,h2]
structure UpI(lt:Sx->Sx->Bool)(g:Nat->Sx)(j n:Nat):Prop where
 a:∀ k,0<k->k<n->k≠j->le lt (g ((k-1)/2)) (g k)
 b:∀ k,0<k->k<n->(k-1)/2=j->0<j->le lt (g ((j-1)/2)) (g k)
theorem up_zero{g:Nat->Sx}{n:Nat}(h:UpI lt g 0 n):HeapN lt g n:=fun k h1 h2=>h.a k h1 h2 oQ
theorem up_done{g:Nat->Sx}{j n:Nat}(h:UpI lt g j n)(hj:lt (g j) (g ((j-1)/2))=false):HeapN lt g n:=fun k h1 h2=>by
 by_cases e:k=j
 ·subst e;exact hj
 ·exact h.a k h1 h2 e
theorem up_step(hO:Ord Sx lt){g:Nat->Sx}{j n:Nat}(h:UpI lt g j n)(h0:0<j)(hjn:j<n)(hj:lt (g j) (g ((j-1)/2))=true):UpI lt (swp g ((j-1)/2) j) ((j-1)/2) n:=by
 have hle:=le_of_lt hO hj;obtain⟨i,hi⟩:∃ i,i=(j-1)/2:=⟨_,rfl⟩;rw [<-hi] at hle hj |-;have hij:i<j:=oQ;refine⟨fun k h1 h2 hk=>?_,fun k h1 h2 hk h3=>?_⟩
 ·by_cases e:k=j
  ·subst e;rw [<-hi,swp_l,swp_r];exact hle
  rw [swp_o g hk e];by_cases e1:(k-1)/2=i
  ·rw [e1,swp_l];have:=h.a k h1 h2 e;rw [e1] at this;exact le_trans hO hle this
  by_cases e2:(k-1)/2=j
  ·rw [e2,swp_r];have:=h.b k h1 h2 e2 h0;rw [<-hi] at this;exact this
  rw [swp_o g e1 e2];exact h.a k h1 h2 e
 have hp:le lt (g ((i-1)/2)) (g i):=h.a i h3 oQ oQ;rw [swp_o g (show (i-1)/2≠i by omega) (show (i-1)/2≠j by omega)];by_cases e:k=j
 ·subst e;rw [swp_r];exact hp
 rw [swp_o g oQ e];have:=h.a k h1 h2 e;rw [hk] at this;exact le_trans hO hp this
structure DnI(lt:Sx->Sx->Bool)(g:Nat->Sx)(i n:Nat):Prop where
 a:∀ k,0<k->k<n->(k-1)/2≠i->le lt (g ((k-1)/2)) (g k)
 b:∀ k,0<k->k<n->(k-1)/2=i->0<i->le lt (g ((i-1)/2)) (g k)
theorem dn_none{g:Nat->Sx}{i n:Nat}(h:DnI lt g i n)(hn:n<=2*i+1):HeapN lt g n:=fun k h1 h2=>h.a k h1 h2 oQ
def DnJ(lt:Sx->Sx->Bool)(g:Nat->Sx)(i n j:Nat):Prop:=j<n/\(j=2*i+1\/j=2*i+2)/\∀ k,k<n->(k=2*i+1\/k=2*i+2)->le lt (g j) (g k)
theorem dn_done(hO:Ord Sx lt){g:Nat->Sx}{i n j:Nat}(h:DnI lt g i n)(hJ:DnJ lt g i n j)(hj:lt (g j) (g i)=false):HeapN lt g n:=fun k h1 h2=>by
 by_cases e:(k-1)/2=i
 ·rw [e];exact le_trans hO hj (hJ.2.2 k h2 oQ)
 ·exact h.a k h1 h2 e
theorem dn_step(hO:Ord Sx lt){g:Nat->Sx}{i n j:Nat}(h:DnI lt g i n)(hJ:DnJ lt g i n j)(hj:lt (g j) (g i)=true):DnI lt (swp g i j) j n:=by
 have hle:=le_of_lt hO hj;obtain⟨hjn,hjj,hmin⟩:=hJ;have hij:i<j:=oQ;refine⟨fun k h1 h2 hk=>?_,fun k h1 h2 hk h3=>?_⟩
 ·by_cases e:(k-1)/2=i
  ·rw [e,swp_l];by_cases e2:k=j
   ·rw [e2,swp_r];exact hle
   rw [swp_o g oQ e2];exact hmin k h2 oQ
  rw [swp_o g e hk];by_cases e2:k=i
  ·rw [e2,swp_l];by_cases e3:0<i
   ·have:=h.b j oQ hjn oQ e3;exact this
   omega
  by_cases e3:k=j
  ·omega
  rw [swp_o g e2 e3];exact h.a k h1 h2 e
 rw [show (j-1)/2=i by omega,swp_l,swp_o g (show k≠i by omega) (show k≠j by omega)];have:=h.a k h1 h2 oQ;rw [hk] at this;exact this
theorem heap_top(hO:Ord Sx lt){g:Nat->Sx}{n:Nat}(h:HeapN lt g n):∀ k,k<n->le lt (g 0) (g k):=fun k=>by
 induction k using Nat.strongRecOn with
 | _ k ih=>
  intro hk
  by_cases e:k=0
  ·subst e;exact le_refl hO _
  ·exact le_trans hO (ih ((k-1)/2) oQ oQ) (h k oQ hk)
end
end Pq
end Go.Proofs.YtdfclocfackkmaaGreat
