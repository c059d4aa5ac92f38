/- The walk's laws in short: what is plain is found by itself. -/
import Derived.KernelRfl
import Derived.Laws.BytesString
import Derived.Lib.SlBytesConst
import Derived.Test.YtdfclocfackkmaaGreatPm2
set_option linter.unusedVariables false
set_option linter.unusedSimpArgs false
set_option linter.unusedSectionVars false
namespace Go.Proofs.YtdfclocfackkmaaGreat
open Go
class eB(i:Int)(k:outParam Nat):Prop where
 ok:i=(k:Int)
instance eB.cast(k:Nat):eB (k:Int) k:=⟨rfl⟩
instance:eB 0 0:=⟨rfl⟩
instance:eB 1 1:=⟨rfl⟩
instance:eB 2 2:=⟨rfl⟩
instance:eB 3 3:=⟨rfl⟩
instance:eB 4 4:=⟨rfl⟩
instance:eB 5 5:=⟨rfl⟩
instance:eB 6 6:=⟨rfl⟩
instance:eB 7 7:=⟨rfl⟩
instance:eB 8 8:=⟨rfl⟩
instance:eB 12 12:=⟨rfl⟩
instance:eB 13 13:=⟨rfl⟩
instance:eB 16 16:=⟨rfl⟩
instance:eB 32 32:=⟨rfl⟩
instance:eB 64 64:=⟨rfl⟩
instance:eB 256 256:=⟨rfl⟩
instance eB.add(a b:Int)(x y:Nat) [h1:eB a x] [h2:eB b y]:eB (a+b) (x+y):=⟨by rw [h1.ok,h2.ok];rfl⟩
instance eB.mul(a b:Int)(x y:Nat) [h1:eB a x] [h2:eB b y]:eB (a*b) (x*y):=⟨by rw [h1.ok,h2.ok];rfl⟩
instance eB.div(a b:Int)(x y:Nat) [h1:eB a x] [h2:eB b y]:eB (a/b) (x/y):=⟨by rw [h1.ok,h2.ok];rfl⟩
instance eB.mod(a b:Int)(x y:Nat) [h1:eB a x] [h2:eB b y]:eB (a%b) (x%y):=⟨by rw [h1.ok,h2.ok];rfl⟩
instance eB.cadd(x y:Nat):eB ((x+y:Nat):Int) (x+y):=⟨rfl⟩
class AdN(j k n:Nat)(r:outParam Nat):Prop where
 ok:j+k*n=r
instance AdN.all(j k n:Nat):AdN j k n (j+k*n):=⟨rfl⟩
instance(priority:=1010) AdN.one (j k:Nat):AdN j k 1 (j+k):=⟨oQ⟩
instance(priority:=1020) AdN.zero (k n:Nat):AdN 0 k n (k*n):=⟨oQ⟩
instance(priority:=1030) AdN.zone (k:Nat):AdN 0 k 1 k:=⟨oQ⟩
class OfN(j off:Nat)(r:outParam Nat):Prop where
 ok:j+off=r
instance OfN.all(j off:Nat):OfN j off (j+off):=⟨rfl⟩
instance(priority:=1010) OfN.z (j:Nat):OfN j 0 j:=⟨rfl⟩
instance(priority:=1020) OfN.z2 (off:Nat):OfN 0 off off:=⟨oQ⟩
def xX:BinOp->Int->Int->Prop
 | .lss,m,n=>m<n
 | .leq,m,n=>m<=n
 | .gtr,m,n=>n<m
 | .geq,m,n=>n<=m
 | .eql,m,n=>m=n
 | .neq,m,n=>m≠n
 | _,_,_=>False
instance(b:BinOp)(m n:Int):Decidable (xX b m n):=
 match b with
 | .lss=>inferInstanceAs (Decidable (m<n))
 | .leq=>inferInstanceAs (Decidable (m<=n))
 | .gtr=>inferInstanceAs (Decidable (n<m))
 | .geq=>inferInstanceAs (Decidable (n<=m))
 | .eql=>inferInstanceAs (Decidable (m=n))
 | .neq=>inferInstanceAs (Decidable (m≠n))
 | .add|.sub|.mul|.quo|.rem|.and|.or|.xor|.shl|.shr|.andNot=>inferInstanceAs (Decidable False)
def aFU:BinOp->Bool
 | .lss|.leq|.gtr|.geq|.eql|.neq=>true
 | _=>false
class UAr(b:BinOp)(k:IntKind)(m n:Int)(r:outParam Int):Prop where
 ok:∀ (P:Program) (w:World) (t:TypeId),(binOp b t (.int k m) (.int k n)).run P w=.ok (.int k r) w
section
variable {P:Program}{C:Ctx}{A:Fr}{H:Hp}{o:Oper}{t t':TypeId}{x y:Operand}{k:IntKind}{m n r:Int}
theorem yG{b:BinOp}(ho:o.op=.binOp b t x y t')(hb:aFU b=true)(hx:ev A x=some (.int k m))(hy:ev A y=some (.int k n)):Pu P C A H o (.bool (decide (xX b m n))):=by
 cases b <;> first|cases hb|skip
 ·exact mV ho hx hy
 ·exact oW ho hx hy
 ·exact oV ho hx hy
 ·exact oU ho hx hy
 ·exact oS ho hx hy
 exact oR ho hx hy
theorem aNv{b:BinOp} [h:UAr b k m n r](ho:o.op=.binOp b t x y t')(hx:ev A x=some (.int k m))(hy:ev A y=some (.int k n)):Pu P C A H o (.int k r):=fun a w hf _=>by
 unfold execOp;rw [ho];simp only [hf.eval hx,hf.eval hy,Sem.run_bind,iB,Result.andThen_ok,h.ok,Sem.run_pure]
theorem aHf(ho:o.op=.binOp .quo t x y t')(hx:ev A x=some (.int .i64 m))(hy:ev A y=some (.int .i64 n))(h0:0<=m)(h1:m<=9223372036854775807)(hn:0<n):Pu P C A H o (.int .i64 (m/n)):=
 aCN ho hx hy oQ (by
  rw [mF h0]
  have h2:0<=m/n:=vB h0 oQ
  have h3:m/n<=m:=sS n h0
  exact w64 oQ)
theorem aKM(ho:o.op=.binOp .rem t x y t')(hx:ev A x=some (.int k m))(hy:ev A y=some (.int k n))(h0:0<=m)(hn:0<n):Pu P C A H o (.int k (m%n)):=
 aCO ho hx hy oQ (Int.tmod_eq_emod_of_nonneg h0)
end
section
variable {P:Program}{C:Ctx}{Q:Exit->Fr->Hp->Prop}{A:Fr}{H H':Hp}{L rest:List Oper}{d:Option Tmp}{ty:TypeId}{pos:String}{af:Array Edge}{g:Option (Nat×Bool)}{t t' e n len cap b i j off c:Nat}{d':Option Nat}{x y z:Operand}{v u:Value}{k kk:IntKind}{m q r:Int}{l l':LV}{T:TypeId}
theorem W.mv(h:SL P C L Q rest (pt A d' v) H)(hx:ev A x=some v:=by exact rfl)(hg:gd L A ⟨d,.move x,ty,pos,af,g⟩=some true:=by exact rfl)(hd:dk C.n d=some d':=by exact rfl):SL P C L Q (⟨d,.move x,ty,pos,af,g⟩::rest) A H:=bN (fA rfl hx) hg hd h
theorem W.as(h:SL P C L Q rest (pt A d' v) H)(hx:ev A x=some v:=by exact rfl)(hg:gd L A ⟨d,.assign x,ty,pos,af,g⟩=some true:=by exact rfl)(hd:dk C.n d=some d':=by exact rfl):SL P C L Q (⟨d,.assign x,ty,pos,af,g⟩::rest) A H:=bN (rN rfl hx) hg hd h
theorem W.nl{ad:Addr}(h:SL P C L Q rest (pt A d' (.pointer (some ad))) H)(hx:ev A x=some (.pointer (some ad)):=by exact rfl)(hg:gd L A ⟨d,.nilCheck x,ty,pos,af,g⟩=some true:=by exact rfl)(hd:dk C.n d=some d':=by exact rfl):SL P C L Q (⟨d,.nilCheck x,ty,pos,af,g⟩::rest) A H:=bN (rP rfl hx) hg hd h
theorem W.fa [aQ P t i e off](h:SL P C L Q rest (pt A d' (.pointer (some ⟨b,c,none⟩))) H)(hx:ev A x=some (.pointer (some ⟨b,j,none⟩)):=by exact rfl)(ho:OfN j off c:=by infer_instance)(hg:gd L A ⟨d,.fieldAddr t x i,ty,pos,af,g⟩=some true:=by exact rfl)(hd:dk C.n d=some d':=by exact rfl):SL P C L Q (⟨d,.fieldAddr t x i,ty,pos,af,g⟩::rest) A H:=bN (gJ rfl hx ho.ok) hg hd h
theorem W.la [fB P t n](h:SL P C L Q rest (pt A d' (.agg l'.toArray)) H)(hx:ev A x=some (.pointer (some ⟨b,i,none⟩)):=by exact rfl)(i0:At H b (cl l T):=by infer_instance)(hv:(l.drop i).take n=l':=by first|assumption|exact rfl)(hn:l'.length=n:=by first|assumption|exact rfl)(hg:gd L A ⟨d,.load t x,ty,pos,af,g⟩=some true:=by exact rfl)(hd:dk C.n d=some d':=by exact rfl):SL P C L Q (⟨d,.load t x,ty,pos,af,g⟩::rest) A H:=bN (mL rfl hx hv hn) hg hd h
theorem W.mf{f:Go.Fn}{xs ys:Array Operand}{vs us:LV}(h:SL P C L Q rest (pt A d' (.func f vs.toArray us.toArray)) H)(hx:evs A xs.toList=some vs:=by exact rfl)(hy:evs A ys.toList=some us:=by exact rfl)(hg:gd L A ⟨d,.makeFunc f xs ys,ty,pos,af,g⟩=some true:=by exact rfl)(hd:dk C.n d=some d':=by exact rfl):SL P C L Q (⟨d,.makeFunc f xs ys,ty,pos,af,g⟩::rest) A H:=bN (rO rfl hx hy) hg hd h
theorem aPE{ps:Array (Nat×Operand)}{vs:List (Nat×Value)}{zv rv:LV} [kP P t len e n] [cK P t zv](h:SL P C L Q rest (pt A d' (.agg rv.toArray)) H)(hp:evp A ps.toList=some vs:=by exact rfl)(hr:bV (fun i=>some (i*n,n)) zv vs=some rv:=by first|assumption|exact rfl)(hg:gd L A ⟨d,.build t ps,ty,pos,af,g⟩=some true:=by exact rfl)(hd:dk C.n d=some d':=by exact rfl):SL P C L Q (⟨d,.build t ps,ty,pos,af,g⟩::rest) A H:=bN (nS rfl hp hr) hg hd h
theorem W.cs{bo:BinOp}(h1:xX bo m q->SL P C L Q rest (pt A d' (.bool true)) H)(h2:¬ xX bo m q->SL P C L Q rest (pt A d' (.bool false)) H)(hb:aFU bo=true:=by exact rfl)(hx:ev A x=some (.int k m):=by exact rfl)(hy:ev A y=some (.int k q):=by exact rfl)(hg:gd L A ⟨d,.binOp bo t x y t',ty,pos,af,g⟩=some true:=by exact rfl)(hd:dk C.n d=some d':=by exact rfl):SL P C L Q (⟨d,.binOp bo t x y t',ty,pos,af,g⟩::rest) A H:=dP (yG rfl hb hx hy) hg hd h1 h2
theorem W.cr{bo:BinOp}(h:SL P C L Q rest (pt A d' (.bool (decide (xX bo m q)))) H)(hb:aFU bo=true:=by exact rfl)(hx:ev A x=some (.int k m):=by exact rfl)(hy:ev A y=some (.int k q):=by exact rfl)(hg:gd L A ⟨d,.binOp bo t x y t',ty,pos,af,g⟩=some true:=by exact rfl)(hd:dk C.n d=some d':=by exact rfl):SL P C L Q (⟨d,.binOp bo t x y t',ty,pos,af,g⟩::rest) A H:=bN (yG rfl hb hx hy) hg hd h
theorem W.sk(h:SL P C L Q rest (pt A d' undef) H){op:Go.Op}{gg:Nat×Bool}(hg:gd L A ⟨d,op,ty,pos,af,some gg⟩=some false:=by exact rfl)(hd:dk C.n d=some d':=by exact rfl):SL P C L Q (⟨d,op,ty,pos,af,some gg⟩::rest) A H:=zT hg hd h
theorem W.bx(h:∀ b,SL P C L Q rest (pt A d' (.pointer (some ⟨b,0,none⟩))) ((b,cl [v] t)::H))(hx:ev A x=some v:=by exact rfl)(i0:One v:=by infer_instance)(hg:gd L A ⟨d,.box t x,ty,pos,af,g⟩=some true:=by exact rfl)(hd:dk C.n d=some d':=by exact rfl):SL P C L Q (⟨d,.box t x,ty,pos,af,g⟩::rest) A H:=aGE rfl hg hd hx h
theorem aBz(h:∀ b,SL P C L Q rest (pt A d' (.pointer (some ⟨b,0,none⟩))) ((b,cl l t)::H))(hx:ev A x=some (.agg l.toArray):=by exact rfl)(hg:gd L A ⟨d,.box t x,ty,pos,af,g⟩=some true:=by exact rfl)(hd:dk C.n d=some d':=by exact rfl):SL P C L Q (⟨d,.box t x,ty,pos,af,g⟩::rest) A H:=aCa rfl hg hd hx h
theorem W.al{zv:LV} [cK P t zv](h:∀ b,SL P C L Q rest (pt A d' (.pointer (some ⟨b,0,none⟩))) ((b,cl zv t)::H))(hg:gd L A ⟨d,.alloc t,ty,pos,af,g⟩=some true:=by exact rfl)(hd:dk C.n d=some d':=by exact rfl):SL P C L Q (⟨d,.alloc t,ty,pos,af,g⟩::rest) A H:=SL.alloc rfl hg hd h
theorem W.st [jU P t](h:SL P C L Q rest (pt A d' undef) H')(hx:ev A x=some (.pointer (some ⟨b,i,none⟩)):=by exact rfl)(hy:ev A y=some v:=by exact rfl)(i0:One v:=by infer_instance)(i34:At H b (cl l T):=by infer_instance)(i79:Upd H b (cl (l.set i v) T) H':=by infer_instance)(hi:i<l.length:=by first|assumption|exact fH rfl)(hg:gd L A ⟨d,.store t x y,ty,pos,af,g⟩=some true:=by exact rfl)(hd:dk C.n d=some d':=by exact rfl):SL P C L Q (⟨d,.store t x y,ty,pos,af,g⟩::rest) A H:=SL.store rfl hg hd hx hy hi h
theorem W.sw [fB P t n](h:SL P C L Q rest (pt A d' undef) H')(hx:ev A x=some (.pointer (some ⟨b,0,none⟩)):=by exact rfl)(hy:ev A y=some (.agg l'.toArray):=by exact rfl)(i0:OC l':=by infer_instance)(i34:At H b (cl l T):=by infer_instance)(i79:Upd H b (cl l' T) H':=by infer_instance)(hr:l'.length=n:=by first|assumption|exact rfl)(hz:l.length=n:=by first|assumption|exact rfl)(hg:gd L A ⟨d,.store t x y,ty,pos,af,g⟩=some true:=by exact rfl)(hd:dk C.n d=some d':=by exact rfl):SL P C L Q (⟨d,.store t x y,ty,pos,af,g⟩::rest) A H:=yQ rfl hg hd hx hy hr hz h
theorem W.sa{rv:LV} [fB P t n](h:SL P C L Q rest (pt A d' undef) H')(hx:ev A x=some (.pointer (some ⟨b,i,none⟩)):=by exact rfl)(hy:ev A y=some (.agg rv.toArray):=by exact rfl)(i0:OC rv:=by infer_instance)(i34:At H b (cl l T):=by infer_instance)(i79:Upd H b (cl (l.take i++rv++l.drop (i+n)) T) H':=by infer_instance)(hr:rv.length=n:=by first|assumption|exact rfl)(hi:i+n<=l.length:=by first|assumption|exact fH rfl)(hg:gd L A ⟨d,.store t x y,ty,pos,af,g⟩=some true:=by exact rfl)(hd:dk C.n d=some d':=by exact rfl):SL P C L Q (⟨d,.store t x y,ty,pos,af,g⟩::rest) A H:=uB rfl hg hd hx hy hr hi rfl h
theorem aF{f:FuncId}{xs:Array Operand}{ats:Array TypeId}{vs:LV}{Hc rr:Hp}{Pre:World->Prop}{R:Value->Hp->Prop} [bC P f](ht:Tri P f vs Hc Pre R) [eY H Hc rr](hk:∀ v H',R v H'->SL P C L Q rest (pt A d' v) (H'++rr))(hx:evs A xs.toList=some vs:=by exact rfl)(hpre:∀ w,St C.K C.w0 H w->Pre w:=by exact fun _ _=>trivial)(hg:gd L A ⟨d,.call { callee:=.value (.func f),args:=xs,argTypes:=ats },ty,pos,af,g⟩=some true:=by exact rfl)(hd:dk C.n d=some d':=by exact rfl) :
  SL P C L Q (⟨d,.call { callee:=.value (.func f),args:=xs,argTypes:=ats },ty,pos,af,g⟩::rest) A H:=nX Hc rfl hg hd hx ht hpre hk
theorem eC{f:FuncId}{xs:Array Operand}{ats:Array TypeId}{vs vs':LV}{Hc rr:Hp}{Pre:World->Prop}{R:Value->Hp->Prop} [bC P f](ht:Tri P f vs Hc Pre R) [eY H Hc rr](he:vs'=vs)(hk:∀ v H',R v H'->SL P C L Q rest (pt A d' v) (H'++rr))(hx:evs A xs.toList=some vs':=by exact rfl)(hpre:∀ w,St C.K C.w0 H w->Pre w:=by exact fun _ _=>trivial)(hg:gd L A ⟨d,.call { callee:=.value (.func f),args:=xs,argTypes:=ats },ty,pos,af,g⟩=some true:=by exact rfl)(hd:dk C.n d=some d':=by exact rfl) :
  SL P C L Q (⟨d,.call { callee:=.value (.func f),args:=xs,argTypes:=ats },ty,pos,af,g⟩::rest) A H:=aF ht hk (he▸hx) hpre hg hd
end
section
variable {P:Program}{C:Ctx}{A:Fr}{H:Hp}{fn:Func}{R:Value->Hp->Prop}{e:Exit}{t u:Nat}{v v2:Value}
theorem F.f0(hR:R (.tuple #[]) H)(he:e=.ret\/e=.normal:=by first|exact .inl rfl|exact .inr rfl)(hrs:fn.results=#[]:=by exact rfl):Fin P C fn R e A H:=Fin.s0 he hrs hR
theorem F.f1(hR:R v H)(he:e=.ret\/e=.normal:=by first|exact .inl rfl|exact .inr rfl)(hrs:fn.results=#[.tmp t]:=by exact rfl)(ht:lk A t=some v:=by exact rfl):Fin P C fn R e A H:=Fin.s1 he hrs ht hR
theorem F.f2(hR:R (.tuple #[v,v2]) H)(he:e=.ret\/e=.normal:=by first|exact .inl rfl|exact .inr rfl)(hrs:fn.results=#[.tmp t,.tmp u]:=by exact rfl)(ht:lk A t=some v:=by exact rfl)(hu:lk A u=some v2:=by exact rfl):Fin P C fn R e A H:=Fin.s2 he hrs ht hu hR
end
theorem aAP{P:Program}{C:Ctx}{Q:Exit->Fr->Hp->Prop}{A:Fr}{H:Hp}{c:Operand}{x y:Code}{p:Prop} [Decidable p](hc:ev A c=some (.bool (decide p)))(ht:p->SW P C x Q A H)(hf:¬ p->SW P C y Q A H):SW P C (.cond c x y) Q A H:=
 jG hc (fun e=>ht (of_decide_eq_true e)) (fun e=>hf (of_decide_eq_false e))
def yA(A:Fr):List Nat->Option Fr
 | []=>some []
 | t::r=>match lk A t,yA A r with
  | some v,some s=>some ((t,v)::s)
  | _,_=>none
theorem yA.sub{A:Fr}:∀ {ts:List Nat} {r:Fr},yA A ts=some r->subF r A
 | [],r,h=>by simp [yA] at h;subst h;trivial
 | t::ts,r,h=>by
  unfold yA at h;split at h
  ·rename_i v s hv hs;simp at h;subst h;exact⟨hv,yA.sub hs⟩
  cases h
theorem subF.append{A:Fr}:∀ {a b:Fr},subF a A->subF b A->subF (a++b) A
 | [],b,_,h=>h
 | (k,v)::a,b,⟨h1,h2⟩,h=>⟨h1,subF.append h2 h⟩
section
variable {P:Program}{C:Ctx}{Q:Exit->Fr->Hp->Prop}{A:Fr}{H:Hp}{J:Type}
def aN(F:J->Fr)(ρk:Fr)(G:J->Hp)(s:Hp)(M:J->Nat)(I:J->Prop)(a:J):Fr->Hp->Prop:=rW (fun x=>F x++ρk) (fun x=>G x++s) M I a
theorem aN.mk{F:J->Fr}{ρk:Fr}{G:J->Hp}{s s':Hp}{M:J->Nat}{I:J->Prop}{a:J}(a':J)(hi:I a')(hM:M a'<M a:=by (first|omega|(dsimp only;omega))) [hp:eY H (G a'++s) s'](hr:subF (F a'++ρk) A:=by (repeat' first|exact trivial|refine And.intro rfl ?_)):aN F ρk G s M I a A H:=⟨a',s',hM,hr,hp.perm,hi⟩
theorem bE{c:Code}(ts:List Nat)(F:J->Fr)(G:J->Hp)(M:J->Nat)(I:J->Prop)(a0:J){s:Hp}{ρk:Fr} [hp:eY H (G a0) s](h0:I a0)
  (round:∀ a,I a->SW P C c (thn (aN F ρk G s M I a) Q) (F a++ρk) (G a++s)) (hk:yA A ts=some ρk:=by exact rfl) (hr:subF (F a0) A:=by (repeat' first|exact trivial|refine And.intro rfl ?_)):SW P C (.loop c) Q A H:=
 zV (fun x=>F x++ρk) (fun x=>G x++s) M I a0 (s:=[]) (hr.append (yA.sub hk)) ⟨by rw [aG];exact hp.perm⟩ h0 round
end
section
variable {P:Program}{C:Ctx}{Q:Exit->Fr->Hp->Prop}{A:Fr}{H:Hp}{J:Type}
theorem cI{c:Code}(ts bs:List Nat)(F:J->Fr)(G:J->Hp)(M:J->Nat)(I:J->Prop)(a0:J){R s:Hp}{ρk:Fr} [hp:Sel H bs R s](h0:I a0)
  (round:∀ a,I a->SW P C c (thn (aN F ρk G s M I a) Q) (F a++ρk) (G a++s)) (hG:R=G a0:=by exact rfl) (hk:yA A ts=some ρk:=by exact rfl) (hr:subF (F a0) A:=by (repeat' first|exact trivial|refine And.intro rfl ?_)):SW P C (.loop c) Q A H:=
 bE (hp:=⟨hG▸hp.perm⟩) ts F G M I a0 h0 round hk hr
end
section
variable {P:Program}{C:Ctx}{Q:Exit->Fr->Hp->Prop}{A:Fr}{H:Hp}{J:Type}
def bS(F:J->Fr)(ρk:Fr)(G:J->Hp)(s:Hp)(I:J->Prop)(A:Fr)(H:Hp):Prop:=∃ a r,I a/\subF (F a++ρk) A/\H.Perm ((G a++s)++r)
theorem bS.mk{F:J->Fr}{ρk:Fr}{G:J->Hp}{s r:Hp}{I:J->Prop}(a:J)(hi:I a) [hp:eY H (G a++s) r](hr:subF (F a++ρk) A:=by (repeat' first|exact trivial|refine And.intro rfl ?_)):bS F ρk G s I A H:=⟨a,r,hi,hr,hp.perm⟩
theorem bP{x y:Code}(ts:List Nat)(G0:Hp)(F:J->Fr)(G:J->Hp)(I:J->Prop){ρk:Fr}{s:Hp} [hp:eY H G0 s](h1:SW P C x (thn (bS F ρk G s I) Q) A H)(h2:∀ a,I a->SW P C y Q (F a++ρk) (G a++s))(hk:yA A ts=some ρk:=by exact rfl):SW P C x (thn (SW P C y Q) Q) A H:=
 SW.mono h1 fun e ρ' H' hq=>by
  cases e <;> first
   | exact hq
   | (obtain⟨a,r,hi,hr,hp⟩:=hq;exact aAS hr ⟨hp⟩ (h2 a hi))
theorem SW.cut{x y:Code}(ts bs:List Nat)(F:J->Fr)(G:J->Hp)(I:J->Prop){ρk:Fr}{R s:Hp} [hp:Sel H bs R s](h1:SW P C x (thn (bS F ρk G s I) Q) A H)(h2:∀ a,I a->SW P C y Q (F a++ρk) (G a++s))(hk:yA A ts=some ρk:=by exact rfl):SW P C x (thn (SW P C y Q) Q) A H:=
 bP (hp:=⟨hp.perm⟩) ts R F G I h1 h2 hk
end
def Rk(C:Ctx)(R:Hp)(w:World):Prop:=St C.K C.w0 [] w/\∀ x∈R,w.heap[x.1]?=some x.2
theorem Rk.of{C:Ctx}{R H:Hp}{w:World}(h:St C.K C.w0 H w)(hr:∀ x∈R,x∈H):Rk C R w:=⟨St.drop (Hc:=[]) (r:=H) h,fun x hx=>h.own x.1 x.2 (hr x hx)⟩
theorem Rk.sub{C:Ctx}{R R':Hp}{w:World}(hs:∀ x∈R,x∈R')(h:Rk C R' w):Rk C R w:=⟨h.1,fun x hx=>h.2 x (hs x hx)⟩
def nxt(B:List Nat)(R:Hp)(i:Nat):Hp:=bif B.contains i then [] else R
theorem aNq{B:List Nat}{R:Hp}{i:Nat}(h:B.contains i=true):nxt B R i=[]:=by unfold nxt;rw [h];rfl
theorem yF{B:List Nat}{R:Hp}{i:Nat}(h:B.contains i=false):nxt B R i=R:=by unfold nxt;rw [h];rfl
theorem aHY{B:List Nat}{R R':Hp}(i:Nat)(hs:∀ x∈R,x∈R'):∀ x∈nxt B R i,x∈nxt B R' i:=by
 cases h:B.contains i
 ·rw [yF h,yF h];exact hs
 rw [aNq h];simp
def sP(P:Program)(C:Ctx)(ops:Array Oper)(Q:Exit->Act->World->Prop)(B:List Nat):Hp->Nat->Array Bool->Act->World->Prop
 | _,0,listed,a,w=>Region.ready .any ops listed=[]/\Q .normal a w
 | R,f+1,listed,a,w=>(Region.ready .any ops listed=[]->Q .normal a w) /\
  ∀ i∈Region.ready .any ops listed,wpOp P ops Q i (fun a' w'=>Rk C (nxt B R i) w'/\sP P C ops Q B (nxt B R i) f (listed.setIfInBounds i true) a' w') a w
section
variable {P:Program}{C:Ctx}{ops:Array Oper}{Q:Exit->Act->World->Prop}{B:List Nat}
theorem sP.any:∀ (f:Nat) (R:Hp) (listed:Array Bool) (a:Act) (w:World),sP P C ops Q B R f listed a w->wpAny P .any ops Q f listed a w
 | 0,_,_,_,_,h=>h
 | f+1,_,_,_,_,h=>⟨h.1,fun i hi=>wpOp_mono (fun a' w' h'=>sP.any f _ _ a' w' h'.2) (h.2 i hi)⟩
theorem sP.weaken:∀ (f:Nat) (R R':Hp) (listed:Array Bool) (a:Act) (w:World),(∀ x∈R,x∈R')->sP P C ops Q B R' f listed a w->sP P C ops Q B R f listed a w
 | 0,_,_,_,_,_,_,h=>h
 | f+1,_,_,_,_,_,hs,h=>⟨h.1,fun i hi=>wpOp_mono (fun a' w' h'=>⟨Rk.sub (aHY i hs) h'.1,sP.weaken f _ _ _ a' w' (aHY i hs) h'.2⟩) (h.2 i hi)⟩
def aN5(ops:Array Oper)(listed:Array Bool)(i:Nat)(Ws:List Nat):Bool:=
 Ws.all fun j=>!listed.getD j true&&match ops[j]? with
  | some o=>o.after.any fun e=>Region.binds .any e&&(Nat.beq e.on i||Ws.contains e.on)
  | none=>false
theorem aFD{listed:Array Bool}{i j:Nat}{Ws:List Nat}(h1:∀ k∈Ws,∃ o,ops[k]?=some o/\∃ e∈o.after,Region.binds .any e=true/\(e.on=i\/e.on∈Ws))(h2:∀ k∈Ws,listed.getD k false=false)(hi:listed.getD i false=false)
  (hj:j∈Region.ready .any ops listed):j∉Ws:=fun hm=>by
 obtain⟨_,o,ho,hall⟩:=mem_ready.1 hj
 obtain⟨o2,ho2,e,he,hb,hor⟩:=h1 j hm
 rw [ho] at ho2
 cases ho2
 have:=hall e he hb
 rcases hor with h|h
 ·rw [h,hi] at this;cases this
 ·rw [h2 _ h] at this;cases this
theorem sP.first{i:Nat}{oi:Oper}{v:Value}{Ws:List Nat}{R:Hp}(hi:ops[i]?=some oi)(hsel:∀ (j:Nat) (o:Oper) cs b,ops[j]?=some o->o.op≠.select cs b) (h1:∀ k∈Ws,∃ o,ops[k]?=some o/\∃ e∈o.after,Region.binds .any e=true/\(e.on=i\/e.on∈Ws)) (hiB:B.contains i=false) (hQ:∀ c a w,Q (.panic c) (a.put oi.dst v) w->Q (.panic c) a w):∀ (f:Nat) (listed:Array Bool) (a:Act) (w:World), (∀ j oj,ops[j]?=some oj->j≠i->listed.getD j true=false->(∀ e∈oj.after,Region.binds .any e=true->e.on≠i)->oi.apart ops oj=true) -> (∀ k∈Ws,listed.getD k true=false)->(∀ t,B.contains t=true->listed.getD t true=true\/t∈Ws) -> i∈Region.ready .any ops listed->YieldsIf P ops (Rk C R) oi v a->Rk C R w -> sP P C ops Q B R f (listed.setIfInBounds i true) (a.put oi.dst v) w->sP P C ops Q B R (f+1) listed a w:=by
 intro f;induction f with
 | zero=>
  intro listed a w _ _ _ hr hy hS h
  refine⟨fun h0=>absurd hr (by rw [h0];exact dJ),fun j hj=>?_⟩
  rcases Decidable.em (j=i) with rfl|hne
  ·exact hy.wpOp hi hS (by rw [yF hiB];exact⟨hS,h⟩)
  ·have:=ready_mono hj hne
   rw [h.1] at this
   exact absurd this dJ
 | succ f ih=>
  intro listed a w hfree hW hB hr hy hS h
  have hui:=(mem_ready.1 hr).1
  refine⟨fun h0=>absurd hr (by rw [h0];exact dJ),fun j hj=>?_⟩
  rcases Decidable.em (j=i) with rfl|hne
  ·exact hy.wpOp hi hS (by rw [yF hiB];exact⟨hS,h⟩)
  ·obtain⟨huj,oj,hoj,hpre⟩:=mem_ready.1 hj
   have hif:listed.getD i false=false:=getD_both hui
   have hjW:j∉Ws:=aFD h1 (fun k hk=>getD_both (hW k hk)) hif hj
   have hjB:B.contains j=false:=by
    cases hb:B.contains j with
    | false=>rfl
    | true=>
     rcases hB j hb with h|h
     ·rw [huj] at h;cases h
     ·exact absurd h hjW
   have hno:∀ e∈oj.after,Region.binds .any e=true->e.on≠i:=fun e he hb heq=>by
    have:=hpre e he hb
    rw [heq,hif] at this
    cases this
   have h1:=wpOp_putIf hoj (hfree j oj hoj hne huj hno) (fun cs b=>hsel i oi cs b hi) (fun cs b=>hsel j oj cs b hoj) hQ hy (h.2 j (ready_mono hj hne))
   refine wpOp_mono (fun a' w' ⟨hy',hS',hrest⟩=>?_) h1
   rw [yF hjB] at hS' hrest |-
   refine⟨hS',ih _ a' w' (fun k ok hk hki hun hn=>hfree k ok hk hki ?_ hn) (fun k hk=>?_) (fun t ht=>?_) (ready_mono hr (Ne.symm hne)) hy' hS' (by rw [nB _ _ hne];exact hrest)⟩
   ·rcases Decidable.em (j=k) with rfl|hjk
    ·exact huj
    ·rwa [getD_set_ne true hjk] at hun
   ·have hjk:j≠k:=fun e=>hjW (e▸hk)
    rw [getD_set_ne true hjk];exact hW k hk
   ·rcases Decidable.em (j=t) with rfl|hjt
    ·rw [hjB] at ht;cases ht
    ·rw [getD_set_ne true hjt];exact hB t ht
theorem sP.firstW{i:Nat}{oi:Oper}{v:Value}(hi:ops[i]?=some oi)(hsel:∀ (j:Nat) (o:Oper) cs b,ops[j]?=some o->o.op≠.select cs b) (hiB:B.contains i=false) (hQ:∀ c a w,Q (.panic c) (a.put oi.dst v) w->Q (.panic c) a w):∀ (f:Nat) (R:Hp) (listed:Array Bool) (a:Act) (w:World), (∀ j oj,ops[j]?=some oj->j≠i->listed.getD j true=false->(∀ e∈oj.after,Region.binds .any e=true->e.on≠i)->oi.apart ops oj=true) -> i∈Region.ready .any ops listed->YieldsIf P ops (Rk C []) oi v a->Rk C R w -> sP P C ops Q B R f (listed.setIfInBounds i true) (a.put oi.dst v) w->sP P C ops Q B R (f+1) listed a w:=by
 intro f;induction f with
 | zero=>
  intro R listed a w _ hr hy hS h
  refine⟨fun h0=>absurd hr (by rw [h0];exact dJ),fun j hj=>?_⟩
  rcases Decidable.em (j=i) with rfl|hne
  ·exact hy.wpOp hi ⟨hS.1,by simp⟩ (by rw [yF hiB];exact⟨hS,h⟩)
  ·have:=ready_mono hj hne
   rw [h.1] at this
   exact absurd this dJ
 | succ f ih=>
  intro R listed a w hfree hr hy hS h
  have hui:=(mem_ready.1 hr).1
  refine⟨fun h0=>absurd hr (by rw [h0];exact dJ),fun j hj=>?_⟩
  rcases Decidable.em (j=i) with rfl|hne
  ·exact hy.wpOp hi ⟨hS.1,by simp⟩ (by rw [yF hiB];exact⟨hS,h⟩)
  ·obtain⟨huj,oj,hoj,hpre⟩:=mem_ready.1 hj
   have hif:listed.getD i false=false:=getD_both hui
   have hno:∀ e∈oj.after,Region.binds .any e=true->e.on≠i:=fun e he hb heq=>by
    have:=hpre e he hb
    rw [heq,hif] at this
    cases this
   have h1:=wpOp_putIf hoj (hfree j oj hoj hne huj hno) (fun cs b=>hsel i oi cs b hi) (fun cs b=>hsel j oj cs b hoj) hQ hy (h.2 j (ready_mono hj hne))
   refine wpOp_mono (fun a' w' ⟨hy',hS',hrest⟩=>?_) h1
   refine⟨hS',ih _ _ a' w' (fun k ok hk hki hun hn=>hfree k ok hk hki ?_ hn) (ready_mono hr (Ne.symm hne)) hy' hS' (by rw [nB _ _ hne];exact hrest)⟩
   rcases Decidable.em (j=k) with rfl|hjk
   ·exact huj
   ·rwa [getD_set_ne true hjk] at hun
end
def SS(P:Program)(C:Ctx)(L:List Oper)(Q:Exit->Fr->Hp->Prop)(B:List Nat)(R:Hp)(fuel:Nat)(listed:Array Bool)(A:Fr)(H:Hp):Prop:=
 ∀ a w,jS C.ds C.n A a->St C.K C.w0 H w->(∀ x∈R,x∈H)->sP P C L.toArray (rU C Q) B R fuel listed a w
class aB7(R H:Hp):Prop where
 ok:∀ x∈R,x∈H
instance aB7.nil(H:Hp):aB7 [] H:=⟨by simp⟩
instance aB7.cons(H R:Hp)(b:Nat)(o:Obj) [h1:At H b o] [h2:aB7 R H]:aB7 ((b,o)::R) H:=⟨fun x hx=>by
 rcases cD.1 hx with rfl|hx
 ·exact h1.mem
 ·exact h2.ok x hx⟩
class Ins(R:Hp)(b:Nat)(o:Obj)(R':outParam Hp):Prop where
 ok:(b,o)∈R'/\(∀ x∈R,x∈R')/\∀ x∈R',x=(b,o)\/x∈R
instance Ins.new(R:Hp)(b:Nat)(o:Obj):Ins R b o ((b,o)::R):=⟨by simp,fun x hx=>cV _ hx,fun x hx=>cD.1 hx⟩
instance(priority:=1100) Ins.old (R:Hp) (b:Nat) (o:Obj) [h:At R b o]:Ins R b o R:=⟨h.mem,fun x hx=>hx,fun x hx=>.inr hx⟩
section
variable {P:Program}{C:Ctx}{Q:Exit->Fr->Hp->Prop}{A:Fr}{H H':Hp}{L l rest:List Oper}{o:Oper}{B:List Nat}{R R':Hp}{fuel:Nat}{listed:Array Bool}
theorem aGK{id:Nat}(B:List Nat)(h:SS P C l Q B [] l.length (Array.replicate l.length false) A H)(hm:P.follows .mixedOrders=true):SW P C (.region id l.toArray true) Q A H:=fun a w hf hs=>
 wp_region_any hm (sP.any _ _ _ _ _ (by
  have:=h a _ hf (hs.drawn (w.drawn+1)) (by simp)
  rw [rX]
  exact this))
def aCl(L:List Oper)(B:List Nat)(listed:Array Bool)(i:Nat):Bool:=
 Region.noSelect L.toArray&&Region.free .any L.toArray listed i&&(Region.ready .any L.toArray listed).contains i&&!B.contains i
def aCk(L:List Oper)(B:List Nat)(listed:Array Bool)(i:Nat)(Ws:List Nat):Bool:=
 aCl L B listed i&&aN5 L.toArray listed i Ws&&B.all fun t=>listed.getD t true||Ws.contains t
theorem aEa{v:Value}(i:Nat)(hi:L[i]?=some o)(hok:aCl L B listed i=true)(hQ:∀ c A H,Q (.panic c) A H->False)
  (hy:∀ a,jS C.ds C.n A a->YieldsIf P L.toArray (Rk C []) o v a) {d:Option Nat} (hd:dk C.n o.dst=some d)
  (hk:SS P C L Q B R fuel (listed.setIfInBounds i true) (pt A d v) H):SS P C L Q B R (fuel+1) listed A H:=fun a w hf hs hr=>by
 simp only [aCl,bR,mA] at hok
 obtain⟨⟨⟨h1,h2⟩,h3⟩,h4⟩:=hok
 have hi':L.toArray[i]?=some o:=by simpa using hi
 exact sP.firstW hi' (Region.noSelect_spec h1) h4 (fun c a w ⟨A,H,_,_,h⟩=>(hQ c A H h).elim) fuel R listed a w (Region.free_spec hi' h2) (by simpa using h3) (hy a hf) (Rk.of hs hr) (hk _ w (hf.put hd v) hs hr)
theorem wZ{v:Value}(i:Nat)(Ws:List Nat)(hi:L[i]?=some o)(hok:aCk L B listed i Ws=true)(hQ:∀ c A H,Q (.panic c) A H->False)
  (hRR:∀ x∈R,x∈R') (hR:∀ x∈R',x∈R\/x∈H) (hy:∀ a,jS C.ds C.n A a->YieldsIf P L.toArray (Rk C R') o v a) {d:Option Nat} (hd:dk C.n o.dst=some d)
  (hk:SS P C L Q B R' fuel (listed.setIfInBounds i true) (pt A d v) H):SS P C L Q B R (fuel+1) listed A H:=fun a w hf hs hr=>by
 simp only [aCk,aCl,bR,mA] at hok
 obtain⟨⟨⟨⟨⟨h1,h2⟩,h3⟩,h4⟩,h5⟩,h6⟩:=hok
 have hi':L.toArray[i]?=some o:=by simpa using hi
 have hr':∀ x∈R',x∈H:=fun x hx=>(hR x hx).elim (hr x) id
 have h5':∀ k∈Ws,listed.getD k true=false/\∃ o,L.toArray[k]?=some o/\∃ e∈o.after,Region.binds .any e=true/\(e.on=i\/e.on∈Ws):=fun k hk=>by
  have:=sU.1 h5 k hk
  simp only [bR,mA] at this
  refine⟨this.1,?_⟩
  have h7:=this.2
  split at h7
  ·rename_i o2 ho2
   obtain⟨e,he,hb⟩:=Array.any_eq_true'.1 h7
   simp only [bR,Bool.or_eq_true] at hb
   exact⟨o2,ho2,e,he,hb.1,hb.2.imp jY (fun h=>by simpa using h)⟩
  ·cases h7
 refine sP.weaken _ R R' _ _ _ hRR (sP.first hi' (Region.noSelect_spec h1) (fun k hk=>(h5' k hk).2) h4 (fun c a w ⟨A,H,_,_,h⟩=>(hQ c A H h).elim) fuel listed a w (Region.free_spec hi' h2) (fun k hk=>(h5' k hk).1) (fun t ht=>?_) (by simpa using h3) (hy a hf) (Rk.of hs hr') (hk _ w (hf.put hd v) hs hr'))
 have:=sU.1 h6 t (by simpa using ht)
 simpa using this
theorem SS.done(h:Q .normal A H)(hr:(Region.ready .any L.toArray listed).isEmpty=true):SS P C L Q B R fuel listed A H:=fun a w hf hs _=>by
 have hr':Region.ready .any L.toArray listed=[]:=by simpa using hr
 have hq:rU C Q .normal a w:=⟨A,H,hf,hs,h⟩
 cases fuel with
 | zero=>exact⟨hr',hq⟩
 | succ f=>exact⟨fun _=>hq,by rw [hr'];simp⟩
def aDe(P:Program)(C:Ctx)(L:List Oper)(Q:Exit->Fr->Hp->Prop)(B:List Nat)(R:Hp)(fuel:Nat)(listed:Array Bool)(ρ':Fr)(H':Hp):Prop:=(∀ x∈R,x∈H')/\SS P C L Q B R fuel listed ρ' H'
theorem dU [hk:aB7 R H](h:SS P C L Q B R fuel listed A H):SL P C L (thn (aDe P C L Q B R fuel listed) Q) [] A H:=jB ⟨hk.ok,h⟩
theorem aD9(is:List Nat)(hok:Region.ready .any L.toArray listed=is)(hne:is≠[])
  (h:∀ i∈is,∃ o,L[i]?=some o/\SL P C L (thn (aDe P C L Q B (nxt B R i) fuel (listed.setIfInBounds i true)) Q) [o] A H):SS P C L Q B R (fuel+1) listed A H:=fun a w hf hs hr=>
 ⟨fun h0=>absurd (hok▸h0) hne,fun k hk=>by
  obtain⟨o,hi,h⟩:=h k (hok▸hk)
  exact vA hi h hf hs fun ρ' H' a' w' ⟨hr',hsa⟩ hf' hs'=>⟨Rk.of hs' hr',hsa a' w' hf' hs' hr'⟩⟩
theorem pO(i:Nat)(h:SL P C L (thn (aDe P C L Q B R fuel (listed.setIfInBounds i true)) Q) [o] A H)(hi:L[i]?=some o)(hok:(Region.ready .any L.toArray listed == [i]&&!B.contains i)=true):SS P C L Q B R (fuel+1) listed A H:=by simp only [bR,mA,beq_iff_eq] at hok;refine aD9 [i] hok.1 (by simp) fun j hj=>?_;rw [bW.1 hj,yF hok.2];exact⟨o,hi,h⟩
theorem aLO(i:Nat)(h:SL P C L (thn (aDe P C L Q B [] fuel (listed.setIfInBounds i true)) Q) [o] A H)(hi:L[i]?=some o)(hok:(Region.ready .any L.toArray listed == [i]&&B.contains i)=true):SS P C L Q B R (fuel+1) listed A H:=by simp only [bR,beq_iff_eq] at hok;refine aD9 [i] hok.1 (by simp) fun j hj=>?_;rw [bW.1 hj,aNq hok.2];exact⟨o,hi,h⟩
theorem iV{o2:Oper}(i j:Nat)(h:SL P C L (thn (aDe P C L Q B R fuel (listed.setIfInBounds i true)) Q) [o] A H)(h2:SL P C L (thn (aDe P C L Q B R fuel (listed.setIfInBounds j true)) Q) [o2] A H)(hi:L[i]?=some o)(hj:L[j]?=some o2)(hok:(Region.ready .any L.toArray listed == [i,j]&&(!B.contains i&&!B.contains j))=true:=by kernel_rfl):SS P C L Q B R (fuel+1) listed A H:=by
 simp only [bR,mA,beq_iff_eq] at hok;refine aD9 [i,j] hok.1 (by simp) fun k hk=>?_;rcases cD.1 hk with rfl|hk
 ·rw [yF hok.2.1];exact⟨o,hi,h⟩
 rw [bW.1 hk,yF hok.2.2];exact⟨o2,hj,h2⟩
theorem dS{v:Value}(i:Nat)(hi:L[i]?=some o)(h:Pu P C A [] o v){d':Option Nat}(hk:SS P C L Q B R fuel (listed.setIfInBounds i true) (pt A d' v) H)(hok:aCl L B listed i=true:=by kernel_rfl)(hg:gd L A o=some true:=by exact rfl)(hd:dk C.n o.dst=some d':=by exact rfl)(hQ:∀ c A H,Q (.panic c) A H->False:=by exact fun _ _ _ h=>Fin.np h):SS P C L Q B R (fuel+1) listed A H:=
 aEa i hi hok hQ (fun a hf=>.inl ⟨gW hf hg,fun w hr=>h a w hf hr.1⟩) hd hk
theorem aQG{v:Value}(i:Nat)(hi:L[i]?=some o){d':Option Nat}(hk:SS P C L Q B R fuel (listed.setIfInBounds i true) (pt A d' v) H)(h:Pu P C A [] o v:=by exact tP rfl rfl (by assumption) (by assumption) (by assumption))(hok:aCl L B listed i=true:=by kernel_rfl)(hg:gd L A o=some true:=by exact rfl)(hd:dk C.n o.dst=some d':=by exact rfl)(hQ:∀ c A H,Q (.panic c) A H->False:=by exact fun _ _ _ h=>Fin.np h):SS P C L Q B R (fuel+1) listed A H:=dS i hi h hk hok hg hd hQ
theorem aQF{v:Value}(i:Nat)(hi:L[i]?=some o){d':Option Nat}(hk:SS P C L Q B R fuel (listed.setIfInBounds i true) (pt A d' v) H)(h:Pu P C A [] o v:=by exact aBg rfl rfl (by assumption) (by assumption) (by assumption) (by assumption))(hok:aCl L B listed i=true:=by kernel_rfl)(hg:gd L A o=some true:=by exact rfl)(hd:dk C.n o.dst=some d':=by exact rfl)(hQ:∀ c A H,Q (.panic c) A H->False:=by exact fun _ _ _ h=>Fin.np h):SS P C L Q B R (fuel+1) listed A H:=dS i hi h hk hok hg hd hQ
theorem cY{d':Option Nat}(i:Nat)(hi:L[i]?=some o)(hk:SS P C L Q B R fuel (listed.setIfInBounds i true) (pt A d' undef) H)(hok:aCl L B listed i=true:=by kernel_rfl)(hg:gd L A o=some false:=by exact rfl)(hd:dk C.n o.dst=some d':=by exact rfl)(hQ:∀ c A H,Q (.panic c) A H->False:=by exact fun _ _ _ h=>Fin.np h):SS P C L Q B R (fuel+1) listed A H:=
 aEa i hi hok hQ (fun a hf=>.inr ⟨gW hf hg,rfl⟩) hd hk
end
class Cv(k:IntKind)(m:Int)(r:outParam Int):Prop where
 ok:k.wrap m=r
section
variable {P:Program}{C:Ctx}{A:Fr}{H:Hp}{o:Oper}{t t' e n len cap b j i c:Nat}{x y z:Operand}{k kk:IntKind}{m q r:Int}{p:Option Addr}
theorem aAe(op:BinOp)(w:World)(a c:Bool):(eqGuard op t x y (.bool a) (.bool c)).run P w=.ok () w:=by cases op <;> simp [eqGuard]
theorem aBH{t:TypeId} [h:aB6 P t](a c:Bool)(w:World):(Op.equal t (.bool a) (.bool c)).run P w=.ok (a == c) w:=by unfold Op.equal Op.maxDepth Op.equalIn;simp [run_underlying h.ok]
theorem aNs{a c:Bool} [aB6 P t](ho:o.op=.binOp .eql t x y t')(hx:ev A x=some (.bool a))(hy:ev A y=some (.bool c)):Pu P C A H o (.bool (a == c)):=fun ac w hf _=>by
 unfold execOp;rw [ho];simp [hf.eval hx,hf.eval hy,aAe,binOp,aBH]
theorem aKL{a c:Bool} [aB6 P t](ho:o.op=.binOp .neq t x y t')(hx:ev A x=some (.bool a))(hy:ev A y=some (.bool c)):Pu P C A H o (.bool (a != c)):=fun ac w hf _=>by
 unfold execOp;rw [ho];simp [hf.eval hx,hf.eval hy,aAe,binOp,aBH,bne]
theorem aHe{a c:Bool} [aB6 P t](ho:o.op=.binOp .neq t x y t')(hx:ev A x=some (.bool a))(hy:ev A y=some (.bool c))(h:a=c):Pu P C A H o (.bool false):=by have:=aKL (P:=P) (C:=C) (H:=H) ho hx hy;subst h;simpa using this
theorem aP1 [h1:mB P t k] [h2:mB P t' kk] [hc:Cv kk m r](ho:o.op=.convert t t' x)(hx:ev A x=some (.int k m)):Pu P C A H o (.int kk r):=
 aKJ ho hx ⟨_,h1.ok⟩ h2.ok hc.ok
theorem aP2 [h1:mB P t k] [h2:mB P t' .i64](ho:o.op=.convert t t' x)(hx:ev A x=some (.int k m))(hm : -9223372036854775808<=m/\m<=9223372036854775807):Pu P C A H o (.int .i64 m):=
 aKJ ho hx ⟨_,h1.ok⟩ h2.ok (w64 hm)
theorem aP3 [cC P t e n] [hi:eB m i] [ha:AdN j i n c](ho:o.op=.indexAddr t x y)(hx:ev A x=some (.slice (some ⟨b,j,none⟩) len cap))(hy:ev A y=some (.int k m))(h1:i<len):Pu P C A H o (.pointer (some ⟨b,c,none⟩)):=
 gV ho hx hy (by rw [hi.ok];omega) (by rw [hi.ok];omega) (by rw [hi.ok,aS];exact ha.ok)
theorem aNt [kP P t len e n] [hi:eB m i] [ha:AdN j i n c](ho:o.op=.indexAddr t x y)(hx:ev A x=some (.pointer (some ⟨b,j,none⟩)))(hy:ev A y=some (.int k m))(h1:i<len):Pu P C A H o (.pointer (some ⟨b,c,none⟩)):=
 aBN ho hx hy (by rw [hi.ok];omega) (by rw [hi.ok];omega) (by rw [hi.ok,aS];exact ha.ok)
theorem aIn{b j cap l n c:Nat} [ha:AdN j l n c](h:l<cap):lI (some ⟨b,j,none⟩) cap l n=some ⟨b,c,none⟩:=by unfold lI;rw [if_neg oQ];simp only [Option.map_some,lG,ha.ok]
theorem aPa(a:Option Addr)(cap n:Nat)(h:∀ x,a=some x->x.spot=none):lI a cap 0 n=a:=by
 unfold lI;split
 ·rfl
 cases a with
 | none=>rfl
 | some x=>
  obtain⟨b,o,s⟩:=x
  have:=h _ rfl
  simp only at this
  subst this
  simp [lG]
theorem aOK{h:Nat} [cC P t e n] [hi:eB m h](ho:o.op=.slice t x none (some y) none)(hx:ev A x=some (.slice (some ⟨b,j,none⟩) len cap))(hy:ev A y=some (.int k m))(hh:h<=cap):Pu P C A H o (.slice (some ⟨b,j,none⟩) h cap):=by have:=oF (P:=P) (C:=C) (H:=H) (vl:=none) (vh:=none) ho hx (l:=0) (h:=h) (.inl ⟨rfl,rfl⟩) (.inr ⟨y,k,m,rfl,hy,hi.ok⟩) (Nat.zero_le _) hh;rwa [aPa _ cap n (by rintro x hx;cases hx;rfl)] at this
theorem aKP{l:Nat} [cC P t e n] [hi:eB m l] [AdN j l n c](ho:o.op=.slice t x (some y) none none)(hx:ev A x=some (.slice (some ⟨b,j,none⟩) len cap))(hy:ev A y=some (.int k m))(hh:l<=len)(hc:l<cap)(hlc:len<=cap):Pu P C A H o (.slice (some ⟨b,c,none⟩) (len-l) (cap-l)):=by have:=oF (P:=P) (C:=C) (H:=H) (vl:=none) (vh:=none) ho hx (l:=l) (h:=len) (.inr ⟨y,k,m,rfl,hy,hi.ok⟩) (.inl ⟨rfl,rfl⟩) hh hlc;rwa [aIn hc] at this
theorem aEL{l h:Nat} [cC P t e n] [hi:eB m l] [hi2:eB q h] [AdN j l n c](ho:o.op=.slice t x (some y) (some z) none)(hx:ev A x=some (.slice (some ⟨b,j,none⟩) len cap))(hy:ev A y=some (.int k m))(hz:ev A z=some (.int kk q))(hh:l<=h/\h<=cap)(hc:l<cap):Pu P C A H o (.slice (some ⟨b,c,none⟩) (h-l) (cap-l)):=by have:=oF (P:=P) (C:=C) (H:=H) (vl:=none) (vh:=none) ho hx (l:=l) (h:=h) (.inr ⟨y,k,m,rfl,hy,hi.ok⟩) (.inr ⟨z,kk,q,rfl,hz,hi2.ok⟩) hh.1 hh.2;rwa [aIn hc] at this
theorem wA(op:BinOp)(w:World)(a c:ByteArray):(eqGuard op t x y (.string a) (.string c)).run P w=.ok () w:=by cases op <;> simp [eqGuard]
theorem aEI{a c:ByteArray}(ho:o.op=.binOp .eql t x y t')(hx:ev A x=some (.string a))(hy:ev A y=some (.string c)):Pu P C A H o (.bool (a.toList == c.toList)):=fun ac w hf _=>by
 unfold execOp;rw [ho];simp [hf.eval hx,hf.eval hy,wA,binOp,Op.stringOp]
theorem aEK{a c:ByteArray}(ho:o.op=.binOp .neq t x y t')(hx:ev A x=some (.string a))(hy:ev A y=some (.string c)):Pu P C A H o (.bool !(a.toList == c.toList)):=fun ac w hf _=>by
 unfold execOp;rw [ho];simp [hf.eval hx,hf.eval hy,wA,binOp,Op.stringOp]
end
section
variable {P:Program}{C:Ctx}{Q:Exit->Fr->Hp->Prop}{A:Fr}{H H':Hp}{L rest:List Oper}{d:Option Tmp}{ty:TypeId}{pos:String}{af:Array Edge}{g:Option (Nat×Bool)}{t t' t2 e n len cap b i j off c l h bytes:Nat}{d':Option Nat}{x y z:Operand}{v u sv:Value}{k kk:IntKind}{m q r:Int}{p:Option Addr}
theorem W.ma{zv:LV} [cC P t e n] [fQ P e bytes] [cK P e zv](hk:∀ b,SL P C L Q rest (pt A d' (.slice (some ⟨b,0,none⟩) l c)) ((b,cl (zs zv c) e)::H))(hx:ev A x=some (.int k m):=by exact rfl)(hy:ev A y=some (.int kk q):=by exact rfl)(hi:eB m l:=by infer_instance)(hj:eB q c:=by infer_instance)(hzn:zv.length=n:=by exact rfl)(hn:0<n:=by decide)(hlc:l<=c:=by omega)(hb:bytes*c<=281474976710656:=by omega)(hb1:1<=bytes:=by decide)(hg:gd L A ⟨d,.makeSlice t x y,ty,pos,af,g⟩=some true:=by exact rfl)(hd:dk C.n d=some d':=by exact rfl):SL P C L Q (⟨d,.makeSlice t x y,ty,pos,af,g⟩::rest) A H:=
 SL.make rfl hg hd hx hy hi.ok hj.ok hzn hn hlc hb hb1 hk
theorem W.ap{bytes mm:Nat}{xs ys zv:LV}{Hs rr:Hp} [ht:cC P t e n] [fQ P e bytes] [cK P e zv] [pA P t2](hv:Sl e n v xs Hs) [hp:eY H Hs rr](hsrc:∀ w,St C.K C.w0 H w->eQ P w sv n mm ys)(hk:∀ v' Hs',Sl e n v' (xs++ys) Hs'->SL P C L Q rest (pt A d' v') (Hs'++rr))(hx:ev A x=some v:=by exact rfl)(hy:ev A y=some sv:=by exact rfl)(hys:ys.length=mm*n:=by first|assumption|(simp;done)|omega)(hoc:OC ys:=by infer_instance)(hzn:zv.length=n:=by exact rfl)(hn:0<n:=by decide)(hb1:1<=bytes:=by decide)(hbytes:(xs.length+ys.length)*bytes<=140737488355328*n:=by omega)(hg:gd L A ⟨d,.call { callee:=.builtin .append,args:=#[x,y],argTypes:=#[t,t2] },ty,pos,af,g⟩=some true:=by exact rfl)(hd:dk C.n d=some d':=by exact rfl) :
  SL P C L Q (⟨d,.call { callee:=.builtin .append,args:=#[x,y],argTypes:=#[t,t2] },ty,pos,af,g⟩::rest) A H:=SL.append Hs rfl hg hd hx hy hv hsrc hys hzn hn hb1 hbytes hk
theorem aNi{zv:LV} [cC P t e n] [cK P e zv](hk:∀ b,SL P C L Q rest (pt A d' (.slice (some ⟨b,0,none⟩) 0 0)) ((b,cl [] e)::H))(hzn:zv.length=n:=by exact rfl)(hn:0<n:=by decide)(hg:gd L A ⟨d,.buildSlice t 0 #[],ty,pos,af,g⟩=some true:=by exact rfl)(hd:dk C.n d=some d':=by exact rfl):SL P C L Q (⟨d,.buildSlice t 0 #[],ty,pos,af,g⟩::rest) A H:=
 iE (r:=[]) (vs:=[]) rfl hg hd rfl hzn hn rfl oQ hk
theorem iQ{ln:Nat}{ps:Array (Nat×Operand)}{vs:List (Nat×Value)}{zv rv:LV} [cC P t e n] [cK P e zv](hk:∀ b,SL P C L Q rest (pt A d' (.slice (some ⟨b,0,none⟩) ln ln)) ((b,cl rv e)::H))(hp:evp A ps.toList=some vs:=by exact rfl)(hr:bV (fun i=>some (i*n,n)) (zs zv ln) vs=some rv:=by first|assumption|exact rfl)(hzn:zv.length=n:=by exact rfl)(hn:0<n:=by decide)(hsm:ln*n<=16777216:=by decide)(hg:gd L A ⟨d,.buildSlice t ln ps,ty,pos,af,g⟩=some true:=by exact rfl)(hd:dk C.n d=some d':=by exact rfl):SL P C L Q (⟨d,.buildSlice t ln ps,ty,pos,af,g⟩::rest) A H:=
 iE rfl hg hd hp hzn hn hr hsm hk
theorem W.cy{mm:Nat}{lv ys:LV}{T:TypeId} [cC P t e n](hsrc:∀ w,St C.K C.w0 H w->eQ P w sv n mm ys)(hk:SL P C L Q rest (pt A d' (.int .i64 mm)) H')(hx:ev A x=some (.slice (some ⟨b,j,none⟩) len cap):=by exact rfl)(hy:ev A y=some sv:=by exact rfl)(hat:At H b (cl lv T):=by infer_instance)(hup:Upd H b (cl (lv.take j++ys++lv.drop (j+ys.length)) T) H':=by infer_instance)(hm:mm<=len:=by omega)(hoc:OC ys:=by infer_instance)(hfit:j+ys.length<=lv.length:=by first|assumption|omega)(hg:gd L A ⟨d,.call { callee:=.builtin .copy,args:=#[x,y],argTypes:=#[t,t2] },ty,pos,af,g⟩=some true:=by exact rfl)(hd:dk C.n d=some d':=by exact rfl):SL P C L Q (⟨d,.call { callee:=.builtin .copy,args:=#[x,y],argTypes:=#[t,t2] },ty,pos,af,g⟩::rest) A H:=by have e:Nat.min mm len=mm:=cO hm;refine zS (m:=mm) (l:=lv) (T:=T) (l':=lv.take j++ys++lv.drop (j+ys.length)) rfl hg hd hx hy (fun w hs=>?_) hfit rfl (by rw [e];exact hk);rw [e];exact hsrc w hs w rfl
end
theorem eQ.own{P:Program}{K:List Nat}{w0 w:World}{H:Hp}{b o n m c:Nat}{l ys:LV}{T:TypeId} [ha:At H b (cl l T)](hs:St K w0 H w)(hy:(l.drop o).take (m*n)=ys)(hl:ys.length=m*n):eQ P w (.slice (some ⟨b,o,none⟩) m c) n m ys:=eQ.block hs.at hy hl
theorem Rd.get{K:List Nat}{w:World}{n:Nat}{v:Value}{ys:LV}(h:Rd K w n v ys):∃ a len cap,v=.slice a len cap/\ys.length=len*n/\len<=cap/\(0<len->∃ b o l T fz,a=some ⟨b,o,none⟩/\w.heap[b]?=some (.cells (List.toArray l) T fz)/\b∉K/\(l.drop o).take (len*n)=ys):=by obtain⟨a,len,cap,rfl,hl,hc,hb⟩:=h;exact⟨a,len,cap,rfl,hl,hc,fun h0=>hb.resolve_left oQ⟩
theorem aAJ{l ys:LV}{o m k:Nat}{v:Value}(h:(l.drop o).take m=ys)(hk:ys[k]?=some v):l[o+k]?=some v:=by
 subst h;rw [bD] at hk;split at hk
 ·rwa [bH] at hk
 cases hk
theorem Fin.to{P:Program}{C:Ctx}{fn:Func}{R:Value->Hp->Prop}{e:Exit}{A:Fr}{H s:Hp}(H':Hp) [hp:eY H H' s](h:Fin P C fn R e A H'):Fin P C fn R e A H:=by
 have hq:=hp.perm;cases e <;> first
  | exact h
  | (obtain⟨v,Hc,s2,h1,h2,h3⟩:=h;exact⟨v,Hc,s2++s,by rw [<-aT];exact hq.trans (h1.append_right s),h2,fun a w hf hs=>h3 a w hf (hs.perm hq).drop⟩)
theorem aGx{J:Type}{l:List J}{k:Nat}{u:J}(h:l[k]?=some u):l.set k u=l:=by
 apply cM;intro i;rw [dW];split
 ·rename_i e;subst e;rw [if_pos (aD.1 h).1,h]
 rfl
def u8(b:UInt8):Value:=.int .u8 (b.toNat:Int)
def zJ(bs:LB):ByteArray:=⟨bs.toArray⟩
theorem aB4(a b:LB):((zJ a).toList == (zJ b).toList)=decide (a=b):=by rw [ByteArray.toList_eq,ByteArray.toList_eq];by_cases h:a=b <;> simp [zJ,h]
theorem wC:∀ (bs:LB) (s:ByteArray),(bs.map fun b=>(b.toNat:Int)).foldl (fun r n=>r.push (UInt8.ofNat n.toNat)) s=⟨(s.data.toList++bs).toArray⟩
 | [],s=>by obtain⟨⟨l⟩⟩:=s;simp
 | b::bs,s=>by simp only [eE,fC,aS];rw [wC bs,mC];congr 1;obtain⟨⟨l⟩⟩:=s;simp [ByteArray.push]
section
variable {P:Program}{C:Ctx}{A:Fr}{H:Hp}{o:Oper}{t t' e n len cap b j i c:Nat}{x y z:Operand}{k kk:IntKind}{m q r:Int}{p:Option Addr}{v:Value}
theorem yH{vs:LV}(ho:o.op=.extract x i)(hx:ev A x=some (.tuple vs.toArray))(hv:vs[i]?=some v):Pu P C A H o v:=fun a w hf _=>by
 unfold execOp;rw [ho];simp [hf.eval hx,Instr.extract,hv]
theorem tV{w:World}{P:Program}{a:Option Addr}{len cap m:Nat}{ys:LV}(hs:eQ P w (.slice a len cap) 1 m ys):m=len/\(a=none/\ys=[]\/∃ ad,a=some ad/\(loadCells ad len).run P w=.ok ys.toArray w):=by
 obtain⟨h1,h2⟩:=hs w rfl;have hm:m=len:=by simp [Builtin.lenOf] at h1;exact h1.symm
 subst hm;refine⟨rfl,?_⟩;cases a with
 | none=>left;simp [Builtin.firstCells] at h2;exact⟨rfl,by simpa using h2.symm⟩
 | some ad=>right;refine⟨ad,rfl,?_⟩;simpa [Builtin.firstCells] using h2
theorem aOB{a:Option Addr}{bs:LB} [h1:cC P t e n] [h2:mB P e .u8] [h3:zX P t'](ho:o.op=.convert t t' x)(hx:ev A x=some (.slice a len cap))(hsrc:∀ w,St C.K C.w0 H w->eQ P w (.slice a len cap) 1 m.toNat (bs.map fun b=>.int .u8 (b.toNat:Int))):Pu P C A H o (.string (zJ bs)):=fun ac w hf hs=>by
 have key:=tV (hsrc w hs)
 unfold execOp;rw [ho]
 have hc:=run_convert_bytes_string (P:=P) w t t' e a len cap h1.ok h2.ok h3.ok
 have hb:(Conv.bytesToString (.slice a len cap)).run P w=.ok (.string (zJ bs)) w:=by
  rcases key.2 with ⟨rfl,h⟩|⟨ad,rfl,h⟩
  ·have:bs=[]:=by simpa using h
   subst this
   simp [Conv.bytesToString];rfl
  ·have:=run_bytesToString (P:=P) w ad len cap (bs.map fun b=>(b.toNat:Int)) (by rw [h];simp)
   rw [this,wC];rfl
 rw [hb] at hc
 simp [hf.eval hx,hc]
end
section
variable {P:Program}{C:Ctx}{Q:Exit->Fr->Hp->Prop}{A:Fr}{H H':Hp}{L rest:List Oper}{d d2:Option Tmp}{ty ty2:TypeId}{pos pos2:String}{af af2:Array Edge}{g g2:Option (Nat×Bool)}{t t' e n len cap b i j off c:Nat}{d' d2':Option Nat}{x y z:Operand}{v u:Value}{k kk:IntKind}{m q r:Int}{l l':LV}{T:TypeId}
theorem W.ex{vs:LV}(h:SL P C L Q rest (pt A d' v) H)(hx:ev A x=some (.tuple vs.toArray):=by exact rfl)(hv:vs[i]?=some v:=by exact rfl)(hg:gd L A ⟨d,.extract x i,ty,pos,af,g⟩=some true:=by exact rfl)(hd:dk C.n d=some d':=by exact rfl):SL P C L Q (⟨d,.extract x i,ty,pos,af,g⟩::rest) A H:=bN (yH rfl hx hv) hg hd h
theorem aFu{a:Option Addr}{mm:Nat}{bs:LB} [cC P t e n] [mB P e .u8] [zX P t'](hsrc:∀ w,St C.K C.w0 H w->eQ P w (.slice a len cap) 1 mm (bs.map fun b=>.int .u8 (b.toNat:Int)))(h:SL P C L Q rest (pt A d' (.string (zJ bs))) H)(hx:ev A x=some (.slice a len cap):=by exact rfl)(hg:gd L A ⟨d,.convert t t' x,ty,pos,af,g⟩=some true:=by exact rfl)(hd:dk C.n d=some d':=by exact rfl):SL P C L Q (⟨d,.convert t t' x,ty,pos,af,g⟩::rest) A H:=
 bN (aOB (m:=(mm:Int)) rfl hx (by simpa using hsrc)) hg hd h
theorem aPF{a c:ByteArray}(hk:SL P C L Q rest (pt A d' (.bool (a.toList == c.toList))) H)(hx:ev A x=some (.string a):=by exact rfl)(hy:ev A y=some (.string c):=by exact rfl)(hg:gd L A ⟨d,.binOp .eql t x y t',ty,pos,af,g⟩=some true:=by exact rfl)(hd:dk C.n d=some d':=by exact rfl):SL P C L Q (⟨d,.binOp .eql t x y t',ty,pos,af,g⟩::rest) A H:=bN (aEI rfl hx hy) hg hd hk
theorem aPI{a c:ByteArray}(hk:SL P C L Q rest (pt A d' (.bool !(a.toList == c.toList))) H)(hx:ev A x=some (.string a):=by exact rfl)(hy:ev A y=some (.string c):=by exact rfl)(hg:gd L A ⟨d,.binOp .neq t x y t',ty,pos,af,g⟩=some true:=by exact rfl)(hd:dk C.n d=some d':=by exact rfl):SL P C L Q (⟨d,.binOp .neq t x y t',ty,pos,af,g⟩::rest) A H:=bN (aEK rfl hx hy) hg hd hk
theorem aLd{w:World}{b o n c:Nat}{l:LV}{T:TypeId} [ht:cC P t e 1] [he:mB P e .u8](hb:w.heap[b]?=some (cl l T)):(convert t t (.slice (some ⟨b,o,none⟩) n c)).run P w=.ok (.slice (some ⟨b,o,none⟩) n c) (w.freeze ⟨b,l.length,none⟩ 1):=by
 have hsh:w.shape? b=some (T,l.length):=by unfold World.shape?;rw [hb];simp
 simp [convert,run_underlying ht.ok,run_underlying he.ok,markStringish,hsh]
theorem aBC(w:World)(b k i:Nat)(l:LV)(T:TypeId)(hb:w.heap[b]?=some (cl l T)):(w.freeze ⟨b,k,none⟩ 1).heap[i]?=if i=b then some (.cells l.toArray T (k,k+1)) else w.heap[i]?:=by
 unfold World.freeze;rw [if_neg dQ];show (w.heap.modify b _)[i]?=_;rw [Array.getElem?_modify];by_cases h:b=i
 ·subst h;simp [hb]
 simp [h,Ne.symm h]
theorem W.mk [ht:cC P t e 1] [he:mB P e .u8](hk:SL P C L Q rest (pt A d' (.slice (some ⟨b,j,none⟩) n c)) H')(hx:ev A x=some (.slice (some ⟨b,j,none⟩) n c):=by exact rfl)(hat:At H b (cl l T):=by infer_instance)(hup:Upd H b (.cells l.toArray T (l.length,l.length+1)) H':=by infer_instance)(hg:gd L A ⟨d,.convert t t x,ty,pos,af,g⟩=some true:=by exact rfl)(hd:dk C.n d=some d':=by exact rfl):SL P C L Q (⟨d,.convert t t x,ty,pos,af,g⟩::rest) A H:=
 mY hg hd fun a w hf hs=>⟨_,w.freeze ⟨b,l.length,none⟩ 1,H',.inl (by unfold execOp;simp [hf.eval hx,aLd (P:=P) (t:=t) hs.at]),
  hs.set (b:=b) (o':=.cells l.toArray T (l.length,l.length+1)) (by unfold World.freeze;simp) (by rw [aBC w b _ b l T hs.at,if_pos rfl]) (fun k hk=>by rw [aBC w b _ k l T hs.at,if_neg hk]) rfl rfl rfl,hk⟩
theorem Rd.at{K:List Nat}{w0 w:World}{H:Hp}{b o n len cap:Nat}{l ys:LV}{T:TypeId}{fz:Nat×Nat}(bs:List Nat){Hc r:Hp}(hs:St K w0 H w) [hp:Sel H bs Hc r] [ha:At r b (.cells l.toArray T fz)](hy:(l.drop o).take (len*n)=ys)(hl:ys.length=len*n)(hc:len<=cap):Rd bs w n (.slice (some ⟨b,o,none⟩) len cap) ys:=by have hs2:=hs.perm hp.perm;have hm:=ha.mem;refine⟨_,len,cap,rfl,hl,hc,.inr ⟨b,o,l,T,fz,rfl,hs2.own b _ (aM _ hm),fun hb=>?_,hy⟩⟩;have hn:=hs2.nodup;rw [aZ] at hn;rw [<-hp.keys] at hb;exact (fO.1 hn).2.2 b hb b (bM.2 ⟨_,hm,rfl⟩) rfl
end
theorem F.c0{P:Program}{C:Ctx}{A:Fr}{H:Hp}{fn:Func}{R:Value->Hp->Prop}{e:Exit}{t ty n b:Nat}{l:LV}{T:TypeId}(l2:LV)(hR:R (.agg l2.toArray) [])(he:e=.ret\/e=.normal:=by first|exact .inl rfl|exact .inr rfl)(hrs:fn.results=#[.cell t ty]:=by exact rfl)(ht:lk A t=some (.pointer (some ⟨b,0,none⟩)):=by exact rfl)(hat:At H b (cl l T):=by infer_instance)(hl:l=l2:=by first|assumption|exact rfl)(iR:fB P ty n:=by infer_instance)(hn:l2.length=n:=by first|assumption|exact rfl):Fin P C fn R e A H:=by subst hl;exact Fin.c1 (Hc:=[]) he hrs ht hn hR
instance aB7.app(H A R r:Hp) [h1:eY H A r] [h2:aB7 R H]:aB7 (A++R) H:=⟨fun x hx=>by
 rcases bJ.1 hx with hx|hx
 ·exact h1.perm.mem_iff.2 (aO _ hx)
 ·exact h2.ok x hx⟩
abbrev cbs(bs:LB):LV:=bs.map fun b=>.int .u8 (b.toNat:Int)
section
variable {P:Program}{C:Ctx}{A:Fr}{H:Hp}{o:Oper}{t t' e n len cap b j i c:Nat}{x y z:Operand}
theorem aH4{a c:ByteArray}(ho:o.op=.binOp .neq t x y t')(hx:ev A x=some (.string a))(hy:ev A y=some (.string c))(h:a=c):Pu P C A H o (.bool false):=by have:=aEK (P:=P) (C:=C) (H:=H) ho hx hy;subst h;simpa using this
theorem aMz{a c:ByteArray}(ho:o.op=.binOp .eql t x y t')(hx:ev A x=some (.string a))(hy:ev A y=some (.string c))(h:a=c):Pu P C A H o (.bool true):=by have:=aEI (P:=P) (C:=C) (H:=H) ho hx hy;subst h;simpa using this
theorem aAB{w:World}{a:Option Addr}{m:Nat}{bs:LB} [h1:cC P t e n] [h2:mB P e .u8] [h3:zX P t'](hs:eQ P w (.slice a len cap) 1 m (cbs bs)):(convert t t' (.slice a len cap)).run P w=.ok (.string (zJ bs)) w:=by
 have key:=tV hs;have hc:=run_convert_bytes_string (P:=P) w t t' e a len cap h1.ok h2.ok h3.ok;rw [hc];rcases key.2 with ⟨rfl,h⟩|⟨ad,rfl,h⟩
 ·have:bs=[]:=by simpa using h
  subst this;simp [Conv.bytesToString];rfl
 have:=run_bytesToString (P:=P) w ad len cap (bs.map fun b=>(b.toNat:Int)) (by rw [h];simp);rw [this,wC];rfl
end
section
variable {P:Program}{C:Ctx}{Q:Exit->Fr->Hp->Prop}{A:Fr}{H H':Hp}{L l rest:List Oper}{o:Oper}{B:List Nat}{R R':Hp}{fuel:Nat}{listed:Array Bool}
theorem aHA{t t' e n:Nat}{x:Operand}{v:Value}{bs:LB}{Hs rr:Hp}(hv:Sl e 1 v (cbs bs) Hs) [hp:eY H Hs rr](i:Nat)(Ws:List Nat)(hi:L[i]?=some o){d':Option Nat}(hk:SS P C L Q B (Hs++R) fuel (listed.setIfInBounds i true) (pt A d' (.string (zJ bs))) H)(hok:aCk L B listed i Ws=true:=by kernel_rfl)(ho:o.op=.convert t t' x:=by exact rfl)(h1:cC P t e n:=by infer_instance)(h2:mB P e .u8:=by infer_instance)(h3:zX P t':=by infer_instance)(hx:ev A x=some v:=by exact rfl)(hg:gd L A o=some true:=by exact rfl)(hd:dk C.n o.dst=some d':=by exact rfl)(hQ:∀ c A H,Q (.panic c) A H->False:=by exact fun _ _ _ h=>Fin.np h):SS P C L Q B R (fuel+1) listed A H:=
 wZ (R':=Hs++R) i Ws hi hok hQ (fun x hx=>aM _ hx) (fun x hx=>(bJ.1 hx).elim (fun h=>.inr (hp.perm.mem_iff.2 (aO _ h))) .inl) (fun a hf=>.inl ⟨gW hf hg,fun w hr=>by
  unfold execOp;rw [ho]
  rcases hv with ⟨rfl,hb,rfl⟩|⟨b,len,cap,junk,rfl,hl,hj,hlc,rfl⟩
  ·have:bs=[]:=by simpa using hb
   subst this
   simp [hf.eval hx,aAB (P:=P) (t:=t) (t':=t') (e:=e) (n:=n) (m:=0) (bs:=[]) (eQ.empty w none 0 1)]
  ·have hb:w.heap[b]?=some (cl (cbs bs++junk) e):=hr.2 (b,cl (cbs bs++junk) e) (by simp)
   have hs:eQ P w (.slice (some ⟨b,0,none⟩) len cap) 1 len (cbs bs):=eQ.block hb (by rw [bQ,<-hl,cT];rfl) hl
   simp [hf.eval hx,aAB (P:=P) (t:=t) (t':=t') (e:=e) (n:=n) hs]⟩) hd hk
theorem aLN{t t' e n b j len cap:Nat}{x:Operand}{lv:LV}{T:TypeId}{bs:LB}(i:Nat)(Ws:List Nat)(hi:L[i]?=some o){d':Option Nat}(hy:(lv.drop j).take len=cbs bs)(hl:bs.length=len)(hk:SS P C L Q B R' fuel (listed.setIfInBounds i true) (pt A d' (.string (zJ bs))) H)(hok:aCk L B listed i Ws=true:=by kernel_rfl)(ho:o.op=.convert t t' x:=by exact rfl)(h1:cC P t e n:=by infer_instance)(h2:mB P e .u8:=by infer_instance)(h3:zX P t':=by infer_instance)(hx:ev A x=some (.slice (some ⟨b,j,none⟩) len cap):=by exact rfl)(hat:At H b (cl lv T):=by infer_instance)(hin:Ins R b (cl lv T) R':=by infer_instance)(hg:gd L A o=some true:=by exact rfl)(hd:dk C.n o.dst=some d':=by exact rfl)(hQ:∀ c A H,Q (.panic c) A H->False:=by exact fun _ _ _ h=>Fin.np h):SS P C L Q B R (fuel+1) listed A H:=
 wZ i Ws hi hok hQ hin.ok.2.1 (fun x hx=>(hin.ok.2.2 x hx).elim (fun e=>.inr (e▸hat.mem)) .inl) (fun a hf=>.inl ⟨gW hf hg,fun w hr=>by
  have hb:=hr.2 _ hin.ok.1
  have hs:eQ P w (.slice (some ⟨b,j,none⟩) len cap) 1 len (cbs bs):=eQ.block hb (by rw [Nat.mul_one];exact hy) (by simpa using hl)
  unfold execOp;rw [ho];simp [hf.eval hx,aAB (P:=P) (t:=t) (t':=t') (e:=e) (n:=n) hs]⟩) hd hk
end
section
variable {P:Program}{C:Ctx}{Q:Exit->Fr->Hp->Prop}{A:Fr}{H H':Hp}{L rest:List Oper}{d d2:Option Tmp}{ty ty2:TypeId}{pos pos2:String}{af af2:Array Edge}{g g2:Option (Nat×Bool)}{t t' e n:Nat}{d':Option Nat}{x:Operand}{v:Value}
theorem aEc{bs:LB}{Hs rr:Hp} [cC P t e n] [mB P e .u8] [zX P t'](hv:Sl e 1 v (cbs bs) Hs) [hp:eY H Hs rr](h:SL P C L Q rest (pt A d' (.string (zJ bs))) H)(hx:ev A x=some v:=by exact rfl)(hg:gd L A ⟨d,.convert t t' x,ty,pos,af,g⟩=some true:=by exact rfl)(hd:dk C.n d=some d':=by exact rfl):SL P C L Q (⟨d,.convert t t' x,ty,pos,af,g⟩::rest) A H:=by obtain⟨a,len,cap,rfl,hl⟩:=hv.form;exact aFu (mm:=len) (fun w hs=>hv.srcAt hs hp) h hx hg hd
end
theorem Rd.atH{K:List Nat}{w0 w:World}{H Hc r:Hp}{b o n len cap:Nat}{l ys:LV}{T:TypeId}{fz:Nat×Nat}(hs:St K w0 H w)(hp:eY H (Hc++[(b,.cells l.toArray T fz)]) r)(hy:(l.drop o).take (len*n)=ys)(hl:ys.length=len*n)(hc:len<=cap):Rd (Hc.map Prod.fst) w n (.slice (some ⟨b,o,none⟩) len cap) ys:=by have hs2:=hs.perm hp.perm;refine⟨_,len,cap,rfl,hl,hc,.inr ⟨b,o,l,T,fz,rfl,hs2.own b _ (by simp),fun hb=>?_,hy⟩⟩;have hn:=hs2.nodup;simp only [aZ,aT] at hn;exact (fO.1 hn).2.2 b hb b (by simp) rfl
instance(k:IntKind)(n:Int):OC (vl (.int k n)):=inferInstanceAs (OC [.int k n])
instance(a:Option Addr)(l c:Nat):OC (vl (.slice a l c)):=inferInstanceAs (OC [.slice a l c])
theorem sO(n:Int):IntKind.u32.wrap n=n%4294967296:=rfl
theorem tZ(n:Int):IntKind.u8.wrap n=n%256:=rfl
theorem mT(n:Int):IntKind.u64.wrap n=n%18446744073709551616:=rfl
class U32(i:Int)(a:outParam UInt32):Prop where
 ok:i=(a.toNat:Int)
class U64(i:Int)(a:outParam UInt64):Prop where
 ok:i=(a.toNat:Int)
class U8(i:Int)(a:outParam UInt8):Prop where
 ok:i=(a.toNat:Int)
instance(a:UInt32):U32 (a.toNat:Int) a:=⟨rfl⟩
instance(a:UInt64):U64 (a.toNat:Int) a:=⟨rfl⟩
instance(a:UInt8):U8 (a.toNat:Int) a:=⟨rfl⟩
instance:U8 1 1:=⟨rfl⟩
instance:U32 256 256:=⟨rfl⟩
instance:U32 65536 65536:=⟨rfl⟩
instance:U32 16777216 16777216:=⟨rfl⟩
instance:U64 1 1:=⟨rfl⟩
instance:U64 8 8:=⟨rfl⟩
instance:U64 256 256:=⟨rfl⟩
instance:U64 4294967295 4294967295:=⟨rfl⟩
theorem aBX(a:UInt32):BitVec.ofInt IntKind.u32.bits (a.toNat:Int)=a.toBitVec:=by show BitVec.ofInt 32 _=_;apply lV;rw [iN];have:=a.toNat_lt;show ((a.toNat:Int)%4294967296).toNat=a.toNat;omega
theorem aHZ(a:UInt64):BitVec.ofInt IntKind.u64.bits (a.toNat:Int)=a.toBitVec:=by show BitVec.ofInt 64 _=_;apply lV;rw [iN];have:=a.toNat_lt;show ((a.toNat:Int)%18446744073709551616).toNat=a.toNat;omega
theorem aHW(v:BitVec 32):IntKind.u32.wrap ((v.toNat:Nat):Int)=((UInt32.ofBitVec v).toNat:Int):=by rw [sO];have:v.toNat<4294967296:=v.isLt;show _=((v.toNat:Nat):Int);omega
theorem aNp(v:BitVec 64):IntKind.u64.wrap ((v.toNat:Nat):Int)=((UInt64.ofBitVec v).toNat:Int):=by rw [mT];have:v.toNat<18446744073709551616:=v.isLt;show _=((v.toNat:Nat):Int);omega
section
variable {m n:Int}
instance{a b:UInt32} [h1:U32 m a] [h2:U32 n b]:UAr .add .u32 m n ((a+b).toNat:Int):=⟨fun P w t=>by
 rw [h1.ok,h2.ok]
 have h:IntKind.u32.wrap ((a.toNat:Int)+b.toNat)=((a+b).toNat:Int):=by
  rw [sO,kR];simp
 simp [binOp,Op.intArith,h]⟩
instance{a b:UInt32} [h1:U32 m a] [h2:U32 n b]:UAr .mul .u32 m n ((a*b).toNat:Int):=⟨fun P w t=>by
 rw [h1.ok,h2.ok]
 have h:IntKind.u32.wrap ((a.toNat:Int)*b.toNat)=((a*b).toNat:Int):=by
  rw [sO,kS];simp
 simp [binOp,Op.intArith,h]⟩
instance{a b:UInt32} [h1:U32 m a] [h2:U32 n b]:UAr .and .u32 m n ((a &&& b).toNat:Int):=⟨fun P w t=>by
 rw [h1.ok,h2.ok]
 simp only [binOp,Op.intBits,ne_eq,not_true_eq_false,if_false,Sem.run_pure,aBX];exact congrArg (fun z=>Result.ok (Value.int .u32 z) w) (aHW _)⟩
instance{a b:UInt32} [h1:U32 m a] [h2:U32 n b]:UAr .or .u32 m n ((a ||| b).toNat:Int):=⟨fun P w t=>by
 rw [h1.ok,h2.ok]
 simp only [binOp,Op.intBits,ne_eq,not_true_eq_false,if_false,Sem.run_pure,aBX];exact congrArg (fun z=>Result.ok (Value.int .u32 z) w) (aHW _)⟩
instance{a b:UInt32} [h1:U32 m a] [h2:U32 n b]:UAr .xor .u32 m n ((a ^^^ b).toNat:Int):=⟨fun P w t=>by
 rw [h1.ok,h2.ok]
 simp only [binOp,Op.intBits,ne_eq,not_true_eq_false,if_false,Sem.run_pure,aBX];exact congrArg (fun z=>Result.ok (Value.int .u32 z) w) (aHW _)⟩
instance{a b:UInt64} [h1:U64 m a] [h2:U64 n b]:UAr .add .u64 m n ((a+b).toNat:Int):=⟨fun P w t=>by
 rw [h1.ok,h2.ok]
 have h:IntKind.u64.wrap ((a.toNat:Int)+b.toNat)=((a+b).toNat:Int):=by
  rw [mT,gR];simp
 simp [binOp,Op.intArith,h]⟩
instance{a b:UInt64} [h1:U64 m a] [h2:U64 n b]:UAr .mul .u64 m n ((a*b).toNat:Int):=⟨fun P w t=>by
 rw [h1.ok,h2.ok]
 have h:IntKind.u64.wrap ((a.toNat:Int)*b.toNat)=((a*b).toNat:Int):=by
  rw [mT,pD];simp
 simp [binOp,Op.intArith,h]⟩
instance{a b:UInt64} [h1:U64 m a] [h2:U64 n b]:UAr .and .u64 m n ((a &&& b).toNat:Int):=⟨fun P w t=>by
 rw [h1.ok,h2.ok]
 simp only [binOp,Op.intBits,ne_eq,not_true_eq_false,if_false,Sem.run_pure,aHZ];exact congrArg (fun z=>Result.ok (Value.int .u64 z) w) (aNp _)⟩
instance{a b:UInt64} [h1:U64 m a] [h2:U64 n b]:UAr .or .u64 m n ((a ||| b).toNat:Int):=⟨fun P w t=>by
 rw [h1.ok,h2.ok]
 simp only [binOp,Op.intBits,ne_eq,not_true_eq_false,if_false,Sem.run_pure,aHZ];exact congrArg (fun z=>Result.ok (Value.int .u64 z) w) (aNp _)⟩
class aGN(k:IntKind)(m n:Int)(r:outParam Int):Prop where
 ok:0<=n/\k.wrap (m*2^(min n.toNat k.bits))=r
class aIE(k:IntKind)(m n:Int)(r:outParam Int):Prop where
 ok:0<=n/\m.fdiv (2^(min n.toNat k.bits))=r
class aB8(n:Int)(k:outParam UInt32):Prop where
 ok:n=(k.toNat:Int)
 lt:k.toNat<32
class aIz(n:Int)(k:outParam UInt64):Prop where
 ok:n=(k.toNat:Int)
 lt:k.toNat<64
instance:aB8 3 3:=⟨rfl,dQ⟩
instance:aB8 8 8:=⟨rfl,dQ⟩
instance:aB8 10 10:=⟨rfl,dQ⟩
instance:aB8 16 16:=⟨rfl,dQ⟩
instance:aB8 24 24:=⟨rfl,dQ⟩
instance:aIz 1 1:=⟨rfl,dQ⟩
instance:aIz 32 32:=⟨rfl,dQ⟩
instance{a k:UInt32} [h1:U32 m a] [h2:aB8 n k]:aGN .u32 m n ((a <<< k).toNat:Int):=⟨by
 rw [h1.ok,h2.ok]
 have hk:=h2.lt
 refine⟨oQ,?_⟩
 rw [sO,aS,cO (by show k.toNat<=32;omega),UInt32.toNat_shiftLeft,dK hk,jQ]
 simp⟩
instance{a k:UInt32} [h1:U32 m a] [h2:aB8 n k]:aIE .u32 m n ((a >>> k).toNat:Int):=⟨by
 rw [h1.ok,h2.ok]
 have hk:=h2.lt
 refine⟨oQ,?_⟩
 rw [aS,cO (by show k.toNat<=32;omega),UInt32.toNat_shiftRight,dK hk,eZ,iG _ (by exact_mod_cast Nat.zero_le _)]
 simp⟩
instance{a k:UInt64} [h1:U64 m a] [h2:aIz n k]:aGN .u64 m n ((a <<< k).toNat:Int):=⟨by
 rw [h1.ok,h2.ok]
 have hk:=h2.lt
 refine⟨oQ,?_⟩
 rw [mT,aS,cO (by show k.toNat<=64;omega),UInt64.toNat_shiftLeft,dK hk,jQ]
 simp⟩
instance{a k:UInt64} [h1:U64 m a] [h2:aIz n k]:aIE .u64 m n ((a >>> k).toNat:Int):=⟨by
 rw [h1.ok,h2.ok]
 have hk:=h2.lt
 refine⟨oQ,?_⟩
 rw [aS,cO (by show k.toNat<=64;omega),UInt64.toNat_shiftRight,dK hk,eZ,iG _ (by exact_mod_cast Nat.zero_le _)]
 simp⟩
instance{a:UInt64} [h1:U64 m a]:Cv .u32 m (a.toUInt32.toNat:Int):=⟨by
 rw [h1.ok,sO,UInt64.toNat_toUInt32];simp⟩
instance{a:UInt64} [h1:U64 m a]:Cv .u8 m (a.toUInt8.toNat:Int):=⟨by
 rw [h1.ok,tZ,UInt64.toNat_toUInt8];simp⟩
instance{a:UInt32} [h1:U32 m a]:Cv .u8 m (a.toUInt8.toNat:Int):=⟨by
 rw [h1.ok,tZ,UInt32.toNat_toUInt8];simp⟩
instance{a:UInt32} [h1:U32 m a]:Cv .u64 m (a.toUInt64.toNat:Int):=⟨by
 rw [h1.ok,mT,UInt32.toNat_toUInt64];have:=a.toNat_lt;omega⟩
instance{a:UInt8} [h1:U8 m a]:Cv .u32 m (a.toUInt32.toNat:Int):=⟨by
 rw [h1.ok,sO,iA];have:=a.toNat_lt;omega⟩
instance(priority:=low)(n:Nat):Cv .u64 (n:Int) ((UInt64.ofNat n).toNat:Int):=⟨by
 rw [mT,aU];omega⟩
instance{a:UInt8} [h1:U8 m a]:Cv .u64 m (a.toUInt64.toNat:Int):=⟨by
 rw [h1.ok,mT,pX];have:=a.toNat_lt;omega⟩
end
section
variable {P:Program}{C:Ctx}{Q:Exit->Fr->Hp->Prop}{A:Fr}{H:Hp}{L rest:List Oper}{d:Option Tmp}{ty:TypeId}{pos:String}{af:Array Edge}{g:Option (Nat×Bool)}{t t':Nat}{d':Option Nat}{x y:Operand}{k kk:IntKind}{m q r:Int}
theorem aOA{o:Oper}{a:UInt32} [h:U32 m a](ho:o.op=.unOp .xor t x)(hx:ev A x=some (.int .u32 m)):Pu P C A H o (.int .u32 ((~~~a).toNat:Int)):=fun ac w hf _=>by
 have hm:=h.ok
 subst hm
 have e:∀ z:BitVec 32,z=BitVec.allOnes 32->IntKind.u32.wrap (((z ^^^ a.toBitVec).toNat:Nat):Int)=((~~~a).toNat:Int):=fun z hz=>by
  subst hz
  refine (aHW _).trans ?_
  congr 1
 have e2:(Op.unary .xor (.int .u32 (a.toNat:Int)))=Op.intBits .xor .u32 (IntKind.u32.max) (a.toNat:Int):=rfl
 unfold execOp;rw [ho];simp only [hf.eval hx,Sem.run_bind,e2,Op.intBits,ne_eq,not_true_eq_false,if_false,Sem.run_pure,Result.andThen_ok,aBX]
 exact congrArg (fun z=>Result.ok (Next.value (Value.int .u32 z)) w) (e _ rfl)
class aNd(P:Program)(f:FuncId):Prop where
 ok : ∃ fn, P.funcs[f]? = some fn /\ (fn.name == "runtime.NumGoroutine") = false /\ fn.body.isNone = true /\ Extern.findNext fn = none /\ Extern.find fn = some add64Entry
theorem aLS{f:FuncId}{a b:UInt64}{ats:Array TypeId}{y:Operand} [hF:aNd P f](h:SL P C L Q rest (pt A d' (.tuple #[.int .u64 ((a+b).toNat:Int),.int .u64 (((a.toNat+b.toNat)/18446744073709551616:Nat):Int)])) H)
  (hx:ev A x=some (.int .u64 m):=by exact rfl) (i0:U64 m a:=by infer_instance) (hy:ev A y=some (.int .u64 q):=by exact rfl) (i1:U64 q b:=by infer_instance)
  (hg:gd L A ⟨d,.call { callee:=.value (.func f),args:=#[x,y,.const (.int .u64 0)],argTypes:=ats },ty,pos,af,g⟩=some true:=by exact rfl) (hd:dk C.n d=some d':=by exact rfl) :
  SL P C L Q (⟨d,.call { callee:=.value (.func f),args:=#[x,y,.const (.int .u64 0)],argTypes:=ats },ty,pos,af,g⟩::rest) A H:=
 bN (fun ac w hf _=>by
  obtain⟨fn,h1,h2,h3,h4,h5⟩:=hF.ok
  have e:=run_callFunc_extern (P:=P) h1 h2 h3 h4 h5 #[.int .u64 m,.int .u64 q,.int .u64 0] w
  have hm:=i0.ok
  have hq:=i1.ok
  subst hm hq
  rw [run_add64 _ _ _ oQ oQ oQ oQ] at e
  have hc:ac.eval (.const (.int .u64 0))=.int .u64 0:=rfl
  have hv:ac.eval (.func f)=.func (.func f) #[] #[]:=rfl
  unfold execOp
  simp only [resolve,Deferred.ofValue,hf.eval hx,hf.eval hy,hc,hv,List.map_toArray,eE,mO,Sem.run_bind,Sem.run_pure,Result.andThen_ok,invoke]
  rw [show (#[]++#[Value.int .u64 (a.toNat:Int),Value.int .u64 (b.toNat:Int),Value.int .u64 0]++#[]:Array Value)=#[Value.int .u64 (a.toNat:Int),Value.int .u64 (b.toNat:Int),Value.int .u64 0] from rfl,e]
  have e3:((a.toNat:Int)+b.toNat+0)%18446744073709551616=((a+b).toNat:Int):=by rw [gR];omega
  have e4:((a.toNat:Int)+b.toNat+0)/18446744073709551616=(((a.toNat+b.toNat)/18446744073709551616:Nat):Int):=oQ
  rw [e3,e4]
  rfl) hg hd h
end
section
variable {P:Program}{C:Ctx}{A:Fr}{H:Hp}{o:Oper}{t t' e n len cap b j i c:Nat}{d':Option Nat}{x y z:Operand}{k kk:IntKind}{m q r:Int}{l:LV}{T:TypeId}{v:Value}
theorem aKK [fB P t n] [At H b (cl l T)](ho:o.op=.load t x)(hx:ev A x=some (.pointer (some ⟨b,0,none⟩)))(hn:l.length=n):Pu P C A H o (.agg l.toArray):=
 mL ho hx (by rw [bQ,aK oQ]) hn
theorem aQB [kP P t len e 1] [cB P e] [i0:eB m i](ho:o.op=.index t x y)(hx:ev A x=some (.agg l.toArray))(hy:ev A y=some (.int kk m))(hi:i<len)(hv:l[i]?=some v):Pu P C A H o v:=
 aMA ho hx hy (by have:=i0.ok;omega) (by have:=i0.ok;omega) (by rw [i0.ok,aS,Nat.mul_one];exact hv)
theorem aKO [i0:aIE k m q r](ho:o.op=.binOp .shr t x y t')(hx:ev A x=some (.int k m))(hy:ev A y=some (.int kk q)):Pu P C A H o (.int k r):=aP7 ho hx hy i0.ok.1 i0.ok.2
theorem aKN [i0:aGN k m q r](ho:o.op=.binOp .shl t x y t')(hx:ev A x=some (.int k m))(hy:ev A y=some (.int kk q)):Pu P C A H o (.int k r):=aP6 ho hx hy i0.ok.1 i0.ok.2
theorem aOz(ho:o.op=.binOp .add t x y t')(hx:ev A x=some (.int .i64 m))(hy:ev A y=some (.int .i64 q))(hr : -9223372036854775808<=m+q/\m+q<=9223372036854775807):Pu P C A H o (.int .i64 (m+q)):=tK ho hx hy (w64 hr)
theorem aOL(ho:o.op=.binOp .sub t x y t')(hx:ev A x=some (.int .i64 m))(hy:ev A y=some (.int .i64 q))(hr : -9223372036854775808<=m-q/\m-q<=9223372036854775807):Pu P C A H o (.int .i64 (m-q)):=aDL ho hx hy (w64 hr)
theorem aOE(ho:o.op=.binOp .mul t x y t')(hx:ev A x=some (.int .i64 m))(hy:ev A y=some (.int .i64 q))(hr : -9223372036854775808<=m*q/\m*q<=9223372036854775807):Pu P C A H o (.int .i64 (m*q)):=kK ho hx hy (w64 hr)
theorem aP4(ho:o.op=.unOp .neg t x)(hx:ev A x=some (.int .i64 m))(hr : -9223372036854775807<=m/\m<=9223372036854775807):Pu P C A H o (.int .i64 (-m)):=fun ac w hf _=>by
 unfold execOp;rw [ho];simp [hf.eval hx,Op.unary,Op.intArith,w64 (n := -m) oQ]
theorem yI [kP P t len e n](ho:o.op=.slice t x none none none)(hx:ev A x=some (.pointer (some ⟨b,j,none⟩))):Pu P C A H o (.slice (some ⟨b,j,none⟩) len len):=by have:=sI (P:=P) (C:=C) (A:=A) (H:=H) (o:=o) (l:=0) (h:=len) ho hx (.inl ⟨rfl,rfl⟩) (.inl ⟨rfl,rfl⟩) (Nat.zero_le _) (Nat.le_refl _);simpa using this
theorem aOH{l:Nat} [cC P t e n] [hi:eB m l](ho:o.op=.slice t x (some y) none none)(hx:ev A x=some (.slice (some ⟨b,j,none⟩) len len))(hy:ev A y=some (.int k m))(hh:l=len):Pu P C A H o (.slice (some ⟨b,j,none⟩) 0 0):=by subst hh;have:=oF (P:=P) (C:=C) (A:=A) (H:=H) (o:=o) (vl:=none) (vh:=none) ho hx (l:=l) (h:=l) (.inr ⟨y,k,m,rfl,hy,hi.ok⟩) (.inl ⟨rfl,rfl⟩) (Nat.le_refl _) (Nat.le_refl _);simpa [lI] using this
end
section
variable {P:Program}{C:Ctx}{Q:Exit->Fr->Hp->Prop}{A:Fr}{H:Hp}{L rest:List Oper}{d:Option Tmp}{ty:TypeId}{pos:String}{af:Array Edge}{g:Option (Nat×Bool)}{d':Option Nat}{v:Value}
theorem W.zl {t:TypeId} {x:Operand} (h:SL P C L Q rest (pt A d' v) H) (hg:gd L A ⟨d,.load t x,ty,pos,af,g⟩=some true:=by exact rfl) (hp:Pu P C A H ⟨d,.load t x,ty,pos,af,g⟩ v:=by first
  | exact jD rfl rfl (by first|exact rfl|assumption)
  | exact aKK rfl rfl (by first|assumption|exact rfl)
  | exact mL rfl rfl (by first|assumption|exact rfl) (by first|assumption|exact rfl)
  | exact tP rfl rfl (by assumption) (by assumption) (by first|exact rfl|assumption)
  | exact aBg rfl rfl (by assumption) (by assumption) (by first|assumption|exact rfl) (by first|assumption|exact rfl)
  ) (hd:dk C.n d=some d':=by exact rfl):SL P C L Q (⟨d,.load t x,ty,pos,af,g⟩::rest) A H:=bN hp hg hd h
theorem W.zb {t t':TypeId} {x y:Operand} {bo:BinOp} (h:SL P C L Q rest (pt A d' v) H) (hg:gd L A ⟨d,.binOp bo t x y t',ty,pos,af,g⟩=some true:=by exact rfl) (hb:aFU bo=true:=by exact rfl) (hp:Pu P C A H ⟨d,.binOp bo t x y t',ty,pos,af,g⟩ v:=by first
  | exact Pu.t (yG rfl rfl rfl rfl) (by dsimp only [xX];first|done|omega)
  | exact Pu.f (yG rfl rfl rfl rfl) (by dsimp only [xX];first|done|omega)
  | exact aAq rfl rfl rfl
  | exact aAs rfl rfl rfl
  | exact tL rfl rfl rfl
  | exact tQ rfl rfl rfl
  | exact aNs rfl rfl rfl
  | exact aKL rfl rfl rfl
  | exact aMz rfl rfl rfl rfl
  | exact aEI rfl rfl rfl
  | exact aEK rfl rfl rfl
  ) (hd:dk C.n d=some d':=by exact rfl):SL P C L Q (⟨d,.binOp bo t x y t',ty,pos,af,g⟩::rest) A H:=bN hp hg hd h
theorem W.za {t t':TypeId} {x y:Operand} {bo:BinOp} (h:SL P C L Q rest (pt A d' v) H) (hg:gd L A ⟨d,.binOp bo t x y t',ty,pos,af,g⟩=some true:=by exact rfl) (hb:aFU bo=false:=by exact rfl) (hp:Pu P C A H ⟨d,.binOp bo t x y t',ty,pos,af,g⟩ v:=by first
  | exact aOz rfl rfl rfl oQ
  | exact aOL rfl rfl rfl oQ
  | exact aOE rfl rfl rfl oQ
  | exact aHf rfl rfl rfl oQ oQ oQ
  | exact aKM rfl rfl rfl oQ oQ
  | exact aKN rfl rfl rfl
  | exact aKO rfl rfl rfl
  | exact aNv rfl rfl rfl
  ) (hd:dk C.n d=some d':=by exact rfl):SL P C L Q (⟨d,.binOp bo t x y t',ty,pos,af,g⟩::rest) A H:=bN hp hg hd h
theorem W.zc {bn:Go.Builtin} {xs:Array Operand} {ats:Array TypeId} (h:SL P C L Q rest (pt A d' v) H) (hg:gd L A ⟨d,.call { callee:=.builtin bn,args:=xs,argTypes:=ats },ty,pos,af,g⟩=some true:=by exact rfl) (hp:Pu P C A H ⟨d,.call { callee:=.builtin bn,args:=xs,argTypes:=ats },ty,pos,af,g⟩ v:=by first
  | exact qF rfl rfl
  | exact aGg rfl rfl rfl rfl
  | exact aGf rfl rfl rfl rfl
  | exact tN rfl rfl
  | exact tO rfl rfl
  | exact qE rfl rfl
  ) (hd:dk C.n d=some d':=by exact rfl):SL P C L Q (⟨d,.call { callee:=.builtin bn,args:=xs,argTypes:=ats },ty,pos,af,g⟩::rest) A H:=bN hp hg hd h
theorem W.zs {t:TypeId} {x:Operand} {lo hi:Option Operand} (h:SL P C L Q rest (pt A d' v) H) (hg:gd L A ⟨d,.slice t x lo hi none,ty,pos,af,g⟩=some true:=by exact rfl) (hp:Pu P C A H ⟨d,.slice t x lo hi none,ty,pos,af,g⟩ v:=by first
  | exact aOK rfl rfl rfl oQ
  | exact aKP rfl rfl rfl oQ oQ oQ
  | exact aEL rfl rfl rfl rfl oQ oQ
  | exact aOH rfl rfl rfl oQ
  | exact yI rfl rfl
  ) (hd:dk C.n d=some d':=by exact rfl):SL P C L Q (⟨d,.slice t x lo hi none,ty,pos,af,g⟩::rest) A H:=bN hp hg hd h
theorem W.zd {t:TypeId} {ps:Array (Nat×Operand)} (h:SL P C L Q rest (pt A d' v) H) (hg:gd L A ⟨d,.build t ps,ty,pos,af,g⟩=some true:=by exact rfl) (hp:Pu P C A H ⟨d,.build t ps,ty,pos,af,g⟩ v:=by first
  | exact pQ rfl rfl (by first|assumption|exact rfl)
  | exact nS rfl rfl (by first|assumption|exact rfl)
  ) (hd:dk C.n d=some d':=by exact rfl):SL P C L Q (⟨d,.build t ps,ty,pos,af,g⟩::rest) A H:=bN hp hg hd h
theorem W.zf {t i:Nat} {x:Operand} (h:SL P C L Q rest (pt A d' v) H) (hg:gd L A ⟨d,.field t x i,ty,pos,af,g⟩=some true:=by exact rfl) (hp:Pu P C A H ⟨d,.field t x i,ty,pos,af,g⟩ v:=by first
  | exact sH rfl rfl (by first|exact rfl|assumption)
  | exact tM rfl rfl (by first|assumption|exact rfl)
  ) (hd:dk C.n d=some d':=by exact rfl):SL P C L Q (⟨d,.field t x i,ty,pos,af,g⟩::rest) A H:=bN hp hg hd h
theorem W.zv {t t':TypeId} {x:Operand} (h:SL P C L Q rest (pt A d' v) H) (hg:gd L A ⟨d,.convert t t' x,ty,pos,af,g⟩=some true:=by exact rfl) (hp:Pu P C A H ⟨d,.convert t t' x,ty,pos,af,g⟩ v:=by first
  | exact aP2 rfl rfl oQ
  | exact aP1 rfl rfl
  ) (hd:dk C.n d=some d':=by exact rfl):SL P C L Q (⟨d,.convert t t' x,ty,pos,af,g⟩::rest) A H:=bN hp hg hd h
theorem W.zu {t:TypeId} {x:Operand} {uo:UnOp} (h:SL P C L Q rest (pt A d' v) H) (hg:gd L A ⟨d,.unOp uo t x,ty,pos,af,g⟩=some true:=by exact rfl) (hp:Pu P C A H ⟨d,.unOp uo t x,ty,pos,af,g⟩ v:=by first
  | exact aGh rfl rfl
  | exact aP4 rfl rfl oQ
  | exact aOA rfl rfl
  ) (hd:dk C.n d=some d':=by exact rfl):SL P C L Q (⟨d,.unOp uo t x,ty,pos,af,g⟩::rest) A H:=bN hp hg hd h
theorem W.zp {x y z:Operand} (h:SL P C L Q rest (pt A d' v) H) (hg:gd L A ⟨d,.pick x y z,ty,pos,af,g⟩=some true:=by exact rfl) (hp:Pu P C A H ⟨d,.pick x y z,ty,pos,af,g⟩ v:=by first
  | exact wN rfl rfl rfl
  | exact wM rfl rfl rfl
  ) (hd:dk C.n d=some d':=by exact rfl):SL P C L Q (⟨d,.pick x y z,ty,pos,af,g⟩::rest) A H:=bN hp hg hd h
theorem W.zi {t:TypeId} {x y:Operand} (h:SL P C L Q rest (pt A d' v) H) (hg:gd L A ⟨d,.indexAddr t x y,ty,pos,af,g⟩=some true:=by exact rfl) (hp:Pu P C A H ⟨d,.indexAddr t x y,ty,pos,af,g⟩ v:=by first
  | exact aP3 rfl rfl rfl oQ
  | exact aNt rfl rfl rfl oQ
  ) (hd:dk C.n d=some d':=by exact rfl):SL P C L Q (⟨d,.indexAddr t x y,ty,pos,af,g⟩::rest) A H:=bN hp hg hd h
theorem W.zx {t:TypeId} {x y:Operand} (h:SL P C L Q rest (pt A d' v) H) (hg:gd L A ⟨d,.index t x y,ty,pos,af,g⟩=some true:=by exact rfl) (hp:Pu P C A H ⟨d,.index t x y,ty,pos,af,g⟩ v:=by first
  | exact aQB rfl rfl rfl oQ (by first|exact rfl|assumption)
  ) (hd:dk C.n d=some d':=by exact rfl):SL P C L Q (⟨d,.index t x y,ty,pos,af,g⟩::rest) A H:=bN hp hg hd h
end
def clo(L:List Oper)(listed:Array Bool)(i:Nat):List Nat:=
 (List.range L.length).foldl (fun acc j=>bif (!listed.getD j true&&match L[j]? with|some o=>o.after.any fun e=>Region.binds .any e&&(Nat.beq e.on i||acc.contains e.on)|none=>false) then acc++[j] else acc) []
def nY(P:Program)(C:Ctx)(L:List Oper)(B:List Nat)(R R' H:Hp)(i:Nat)(listed:Array Bool)(A:Fr)(o:Oper)(v:Value):Prop:=
 (aCl L B listed i=true/\R'=R/\∀ a,jS C.ds C.n A a->YieldsIf P L.toArray (Rk C []) o v a) \/
 (aCk L B listed i (clo L listed i)=true/\(∀ x∈R,x∈R')/\(∀ x∈R',x∈R\/x∈H)/\∀ a,jS C.ds C.n A a->YieldsIf P L.toArray (Rk C R') o v a)
abbrev SG(P:Program)(C:Ctx)(L:List Oper)(Q:Exit->Fr->Hp->Prop)(B:List Nat)(S:List Nat)(R:Hp)(fuel:Nat)(listed:Array Bool)(A:Fr)(H:Hp):Prop:=SS P C L Q B R fuel listed A H
section
variable {P:Program}{C:Ctx}{Q:Exit->Fr->Hp->Prop}{A:Fr}{H:Hp}{L:List Oper}{o:Oper}{B:List Nat}{R R':Hp}{fuel i:Nat}{listed:Array Bool}{v:Value}
theorem nY.t(h:Pu P C A [] o v)(hg:gd L A o=some true)(hok:aCl L B listed i=true):nY P C L B R R H i listed A o v:=
 .inl ⟨hok,rfl,fun a hf=>.inl ⟨gW hf hg,fun w hr=>h a w hf hr.1⟩⟩
theorem nY.k(hg:gd L A o=some false)(hok:aCl L B listed i=true):nY P C L B R R H i listed A o undef:=
 .inl ⟨hok,rfl,fun a hf=>.inr ⟨gW hf hg,rfl⟩⟩
theorem nY.ls{t b j:Nat}{x:Operand}{lv:LV}{T:TypeId}(hok:aCk L B listed i (clo L listed i)=true)(ho:o.op=.load t x)(iT:cB P t)(hx:ev A x=some (.pointer (some ⟨b,j,none⟩)))(hat:At H b (cl lv T))(hin:Ins R b (cl lv T) R')(hv:lv[j]?=some v)(hg:gd L A o=some true):nY P C L B R R' H i listed A o v:=
 .inr ⟨hok,hin.ok.2.1,fun x hx=>(hin.ok.2.2 x hx).elim (fun e=>.inr (e▸hat.mem)) .inl,fun a hf=>.inl ⟨gW hf hg,fun w hr=>by
  have hb:=hr.2 _ hin.ok.1
  unfold execOp;rw [ho];simp [hf.eval hx,Instr.loadAt,Instr.sureAddr,zI hb hv]⟩⟩
theorem nY.la{t n b j:Nat}{x:Operand}{lv r:LV}{T:TypeId}(hok:aCk L B listed i (clo L listed i)=true)(ho:o.op=.load t x)(iT:fB P t n)(hx:ev A x=some (.pointer (some ⟨b,j,none⟩)))(hat:At H b (cl lv T))(hin:Ins R b (cl lv T) R')(hv:(lv.drop j).take n=r)(hn:r.length=n)(hg:gd L A o=some true):nY P C L B R R' H i listed A o (.agg r.toArray):=
 .inr ⟨hok,hin.ok.2.1,fun x hx=>(hin.ok.2.2 x hx).elim (fun e=>.inr (e▸hat.mem)) .inl,fun a hf=>.inl ⟨gW hf hg,fun w hr=>by
  have hb:=hr.2 _ hin.ok.1
  unfold execOp;rw [ho];simp [hf.eval hx,Instr.loadAt,Instr.sureAddr,nO hb hv hn]⟩⟩
theorem nY.lw{t n b:Nat}{x:Operand}{lv:LV}{T:TypeId}(hok:aCk L B listed i (clo L listed i)=true)(ho:o.op=.load t x)(iT:fB P t n)(hx:ev A x=some (.pointer (some ⟨b,0,none⟩)))(hat:At H b (cl lv T))(hin:Ins R b (cl lv T) R')(hn:lv.length=n)(hg:gd L A o=some true):nY P C L B R R' H i listed A o (.agg lv.toArray):=
 nY.la hok ho iT hx hat hin (by rw [bQ,aK oQ]) hn hg
theorem SG.on(S:List Nat)(h:SG P C L Q B S R fuel listed A H):SS P C L Q B R fuel listed A H:=h
theorem SG.s {S:List Nat} {d':Option Nat} (hk:SG P C L Q B S R' fuel (listed.setIfInBounds i true) (pt A d' v) H) (hi:L[i]?=some o:=by exact rfl) (h:nY P C L B R R' H i listed A o v:=by first | exact nY.k rfl kQ | exact nY.t (by first | exact fA rfl rfl|exact rN rfl rfl|exact rP rfl rfl|exact gJ rfl rfl OfN.ok | exact Pu.t (yG rfl rfl rfl rfl) (by dsimp only [xX];first|done|omega)|exact Pu.f (yG rfl rfl rfl rfl) (by dsimp only [xX];first|done|omega) | exact aAq rfl rfl rfl|exact aAs rfl rfl rfl|exact tL rfl rfl rfl|exact tQ rfl rfl rfl | exact tK rfl rfl rfl (w64 oQ)|exact aDL rfl rfl rfl (w64 oQ)|exact kK rfl rfl rfl (w64 oQ)|exact aHf rfl rfl rfl oQ oQ oQ|exact aKM rfl rfl rfl oQ oQ|exact aKN rfl rfl rfl|exact aKO rfl rfl rfl|exact aNv rfl rfl rfl | exact wN rfl rfl rfl|exact wM rfl rfl rfl|exact aGh rfl rfl|exact yH rfl rfl rfl|exact rO rfl rfl rfl|exact aP1 rfl rfl | exact sH rfl rfl (by first|rfl|assumption)|exact tM rfl rfl (by first|assumption|rfl) | exact pQ rfl rfl (by first|assumption|rfl)|exact nS rfl rfl (by first|assumption|rfl) | exact aP3 rfl rfl rfl oQ|exact aNt rfl rfl rfl oQ | exact qF rfl rfl|exact tN rfl rfl|exact tO rfl rfl|exact qE rfl rfl|exact aGg rfl rfl rfl rfl|exact aGf rfl rfl rfl rfl) rfl kQ | exact nY.ls kQ rfl inferInstance rfl inferInstance inferInstance (by first|exact rfl|assumption) rfl | exact nY.t (tP rfl rfl (by assumption) (by assumption) (by assumption)) rfl kQ | exact nY.lw kQ rfl inferInstance rfl inferInstance inferInstance (by first|assumption|exact rfl) rfl | exact nY.la kQ rfl inferInstance rfl inferInstance inferInstance (by first|assumption|exact rfl) (by first|assumption|exact rfl) rfl | exact nY.t (aBg rfl rfl (by assumption) (by assumption) (by assumption) (by assumption)) rfl kQ) (hd:dk C.n o.dst=some d':=by exact rfl) (hQ:∀ c A H,Q (.panic c) A H->False:=by exact fun _ _ _ h=>Fin.np h):SG P C L Q B (i::S) R (fuel+1) listed A H:=by
 rcases h with ⟨hok,rfl,hy⟩|⟨hok,hRR,hR,hy⟩
 ·exact aEa i hi hok hQ hy hd hk
 exact wZ i _ hi hok hQ hRR hR hy hd hk
theorem SG.d{k:Nat}(h:Q .normal A H)(hk:L[k]?=none:=by exact rfl)(hr:(Region.ready .any L.toArray listed).isEmpty=true:=by kernel_rfl):SG P C L Q B [k] R fuel listed A H:=SS.done h hr
theorem SG.g{X G:Prop}(h:X)(hn:X->G:=by first|exact fun h=>SG.s h|exact fun h=>SG.d h):G:=hn h
theorem aNf{id:Nat}{l:List Oper}(B S:List Nat)(h:SG P C l Q B S [] l.length (Array.replicate l.length false) A H)(hm:P.follows .mixedOrders=true:=by kernel_rfl):SW P C (.region id l.toArray true) Q A H:=aGK B h hm
theorem bB(S:List Nat) [hk:aB7 R H](h:SG P C L Q B S R fuel listed A H):SL P C L (thn (aDe P C L Q B R fuel listed) Q) [] A H:=dU h
end
section
attribute [local irreducible] SW SL SQ SH SA SS Pu Fin bS aN
theorem W.g1 {X G:Prop} (h:X) (hn:X->G:=by first
  | exact fun h=>W.mv h|exact fun h=>W.zl h|exact fun h=>W.fa h|exact fun h=>W.nl h|exact fun h=>W.as h|exact fun h=>W.zb h|exact fun h=>W.za h|exact fun h=>W.zi h|exact fun h=>W.zc h|exact fun h=>W.zp h
  | exact fun h=>W.st h|exact fun h=>dU h|exact fun h=>jB h|exact fun h=>W.al h|exact fun h=>W.bx h|exact fun h=>aBz h|exact fun h=>W.sw h|exact fun h=>W.sa h|exact fun h=>W.sk h|exact fun h=>aNi h|exact fun h=>W.ma h|exact fun h=>iQ h
  | exact fun h=>W.zu h|exact fun h=>W.zf h|exact fun h=>W.zd h|exact fun h=>W.zs h|exact fun h=>W.zv h|exact fun h=>W.zx h|exact fun h=>W.ex h|exact fun h=>W.mf h|exact fun h=>W.mk h):G:=hn h
theorem W.gb {X G:Prop} (h:X) (hn:X->G:=by first
  | exact fun h=>W.g1 h|exact fun h=>pC h|exact fun h=>mQ h|exact fun h=>aAR rfl h|exact fun h=>aAQ rfl h|exact fun h=>aEb h|exact fun h=>aGL h|exact fun h=>SW.skip h):G:=hn h
theorem W.go {X G:Prop} (h:X) (hn:X->G:=by first
  | exact fun h=>W.gb h|exact fun h=>SW.block h):G:=hn h
theorem W.ow {X G:Prop} (h:X) (hn:X->G:=by first
  | (refine fun h=>sB ?_;first|exact zT rfl rfl h)
  | (refine fun h=>aDu ?_;first|exact bN (fA rfl rfl) rfl rfl h)
  | (refine fun h=>aBy ?_;first|exact bN (rN rfl rfl) rfl rfl h)
  | (refine fun h=>aFr ?_;first|exact bN (rP rfl rfl) rfl rfl h)
  | (refine fun h=>aDr ?_;first|exact bN (gJ rfl rfl rfl) rfl rfl h)
  | (refine fun h=>aDs ?_;first|exact bN (jD rfl rfl rfl) rfl rfl h|exact bN (jD rfl rfl (by assumption)) rfl rfl h|exact bN (mL rfl rfl rfl rfl) rfl rfl h|exact bN (mL rfl rfl (by assumption) (by assumption)) rfl rfl h)
  | (refine fun h=>aCd ?_;first|exact bN (qF rfl rfl) rfl rfl h|exact bN (tO rfl rfl) rfl rfl h|exact bN (tN rfl rfl) rfl rfl h|exact bN (qE rfl rfl) rfl rfl h|exact bN (aGf rfl rfl rfl rfl) rfl rfl h|exact bN (aGg rfl rfl rfl rfl) rfl rfl h)
  | (refine fun h=>aDv ?_;first|exact bN (wN rfl rfl rfl) rfl rfl h|exact bN (wM rfl rfl rfl) rfl rfl h)
  | (refine fun h=>aDt ?_;first|exact bN (rO rfl rfl rfl) rfl rfl h)
  | (refine fun h=>aHz ?_;first|exact bN (aGh rfl rfl) rfl rfl h)
  | (refine fun h=>aCc ?_;first|exact bN (pQ rfl rfl (by rfl)) rfl rfl h|exact bN (nS rfl rfl (by rfl)) rfl rfl h)
  | (refine fun h=>aFq ?_;first|exact bN (sH rfl rfl rfl) rfl rfl h|exact bN (sH rfl rfl (by assumption)) rfl rfl h|exact bN (tM rfl rfl rfl) rfl rfl h)
  | (refine fun h=>aFd ?_;first|exact bN (tK rfl rfl rfl (w64 oQ)) rfl rfl h)
  | (refine fun h=>aFn ?_;first|exact bN (aDL rfl rfl rfl (w64 oQ)) rfl rfl h)
  | (refine fun h=>aFj ?_;first|exact bN (kK rfl rfl rfl (w64 oQ)) rfl rfl h)
  | (refine fun h=>aFl ?_;first|exact bN (aCN rfl rfl rfl dQ (w64 oQ)) rfl rfl h)
  | (refine fun h=>aFm ?_;first|exact bN (aCO rfl rfl rfl dQ rfl) rfl rfl h)
  | (refine fun h=>aFi ?_;first|exact bN (Pu.t (oV rfl rfl rfl) oQ) rfl rfl h|exact bN (Pu.f (oV rfl rfl rfl) oQ) rfl rfl h)
  | (refine fun h=>aFh ?_;first|exact bN (Pu.t (oU rfl rfl rfl) oQ) rfl rfl h|exact bN (Pu.f (oU rfl rfl rfl) oQ) rfl rfl h)
  | (refine fun h=>aFg ?_;first|exact bN (Pu.t (oS rfl rfl rfl) oQ) rfl rfl h|exact bN (Pu.f (oS rfl rfl rfl) oQ) rfl rfl h)
  | (refine fun h=>aFf ?_;first|exact bN (Pu.t (oR rfl rfl rfl) oQ) rfl rfl h|exact bN (Pu.f (oR rfl rfl rfl) oQ) rfl rfl h)
  | (refine fun h=>aFe ?_;first|exact bN (aAq rfl rfl rfl) rfl rfl h|exact bN (tL rfl rfl rfl) rfl rfl h|exact bN (Pu.t (mV rfl rfl rfl) oQ) rfl rfl h|exact bN (Pu.f (mV rfl rfl rfl) oQ) rfl rfl h)
  | (refine fun h=>aFk ?_;first|exact bN (aAs rfl rfl rfl) rfl rfl h|exact bN (tQ rfl rfl rfl) rfl rfl h|exact bN (Pu.t (oW rfl rfl rfl) oQ) rfl rfl h|exact bN (Pu.f (oW rfl rfl rfl) oQ) rfl rfl h)
  | (refine fun h=>aFp ?_;first|exact aGE rfl rfl rfl rfl h|exact aCa rfl rfl rfl rfl h)
  | (refine fun h=>aCb ?_;first|exact SL.alloc rfl rfl rfl h)
  | (refine fun h=>aCe ?_;first|exact SL.store rfl rfl rfl rfl rfl (by first|assumption|exact fH rfl) h|exact yQ rfl rfl rfl rfl rfl (by first|assumption|rfl) (by rfl) h|exact uB rfl rfl rfl rfl rfl (by first|rfl|assumption) (by first|assumption|exact fH rfl) (by first|assumption|rfl) h)
  | exact fun h=>jB h
  | exact fun h=>pC h
  | exact fun h=>mQ h
  | exact fun h=>SW.block h
  | exact fun h=>aAR rfl h
  | exact fun h=>aAQ rfl h
  | exact fun h=>aGL h
  | exact fun h=>SW.skip h
  | exact fun h=>aEb h):G:=hn h
structure Imp(X G:Prop):Prop where
 f:X->G
theorem Imp.r{X:Prop}:Imp X X:=⟨id⟩
theorem W.t{X Y G:Prop}(hn:Y->G)(k:Imp X Y):Imp X G:=⟨fun h=>hn (k.f h)⟩
theorem W.tl{Y S:Nat->Prop}(k:∀ b,Imp (Y b) (S b)):Imp (∀ b,Y b) (∀ b,S b):=⟨fun h b=>(k b).f (h b)⟩
theorem W.i{X G:Prop}(h:X)(hn:Imp X G:=by (repeat' (first|(apply W.t;· exact fun h=>W.g1 h)|(apply W.tl;intro b_)|fail));exact Imp.r):G:=hn.f h
theorem W.j{X G:Prop}(h:X)(hn:Imp X G:=by (repeat' (first|(apply W.t;· exact fun h=>W.gb h)|(apply W.tl;intro b_)|fail));exact Imp.r):G:=hn.f h
theorem W.k{X G:Prop}(h:X)(hn:Imp X G:=by (repeat' (first|(apply W.t;· exact fun h=>W.go h)|(apply W.tl;intro b_)|fail));exact Imp.r):G:=hn.f h
theorem W.o{X G:Prop}(h:X)(hn:Imp X G:=by (repeat' (first|(apply W.t;· exact fun h=>W.ow h)|(apply W.tl;intro b_)|fail));exact Imp.r):G:=hn.f h
section
variable {P:Program}{C:Ctx}{Q:Exit->Fr->Hp->Prop}{A:Fr}{H R:Hp}{L rest:List Oper}{o:Oper}{B:List Nat}{fuel:Nat}{listed:Array Bool}{d:Option Tmp}{d':Option Nat}{ty:TypeId}{pos:String}{af:Array Edge}{g:Option (Nat×Bool)}
theorem W.cq{f:FuncId}{xs:Array Operand}{ats:Array TypeId}{vs:LV}{Hc rr K:Hp}{Pre:World->Prop}{v:Value} [bC P f](ht:Tri P f vs Hc Pre fun v' H'=>v'=v/\H'=K) [eY H Hc rr](hk:SL P C L Q rest (pt A d' v) (K++rr))(hx:evs A xs.toList=some vs:=by exact rfl)(hpre:∀ w,St C.K C.w0 H w->Pre w:=by exact fun _ _=>trivial)(hg:gd L A ⟨d,.call { callee:=.value (.func f),args:=xs,argTypes:=ats },ty,pos,af,g⟩=some true:=by exact rfl)(hd:dk C.n d=some d':=by exact rfl) :
  SL P C L Q (⟨d,.call { callee:=.value (.func f),args:=xs,argTypes:=ats },ty,pos,af,g⟩::rest) A H:=aF ht (fun _ _ h=>h.1▸h.2▸hk) hx hpre hg hd
theorem W.cw{f:FuncId}{xs:Array Operand}{ats:Array TypeId}{vs:LV}{Hc rr K:Hp}{Pre:World->Prop}{v:Value}{X:Prop} [bC P f](ht:Tri P f vs Hc Pre fun v' H'=>v'=v/\H'=K) [eY H Hc rr](h:X)(hx:evs A xs.toList=some vs:=by exact rfl)(hpre:∀ w,St C.K C.w0 H w->Pre w:=by exact fun _ _=>trivial)(hg:gd L A ⟨d,.call { callee:=.value (.func f),args:=xs,argTypes:=ats },ty,pos,af,g⟩=some true:=by exact rfl)(hd:dk C.n d=some d':=by exact rfl)(hn:Imp X (SL P C L Q rest (pt A d' v) (K++rr)):=by (repeat' (first|(apply W.t;· exact fun h=>W.go h)|(apply W.tl;intro b_)|fail));exact Imp.r) :
  SL P C L Q (⟨d,.call { callee:=.value (.func f),args:=xs,argTypes:=ats },ty,pos,af,g⟩::rest) A H:=W.cq ht (hn.f h) hx hpre hg hd
theorem aX(i:Nat)(h:SL P C L (thn (aDe P C L Q B R fuel (listed.setIfInBounds i true)) Q) [o] A H)(hi:L[i]?=some o:=by exact rfl)(hok:(Region.ready .any L.toArray listed == [i]&&!B.contains i)=true:=by kernel_rfl):SS P C L Q B R (fuel+1) listed A H:=pO i h hi hok
theorem bL(i:Nat)(h:SL P C L (thn (aDe P C L Q B [] fuel (listed.setIfInBounds i true)) Q) [o] A H)(hi:L[i]?=some o:=by exact rfl)(hok:(Region.ready .any L.toArray listed == [i]&&B.contains i)=true:=by kernel_rfl):SS P C L Q B R (fuel+1) listed A H:=aLO i h hi hok
theorem SS.dn(h:Q .normal A H)(hr:(Region.ready .any L.toArray listed).isEmpty=true:=by kernel_rfl):SS P C L Q B R fuel listed A H:=SS.done h hr
theorem SW.l{X:Prop}{id:Nat}{l:List Oper}(B S:List Nat)(h:X)(hn:Imp X (SG P C l Q B S [] l.length (Array.replicate l.length false) A H):=by (repeat' (first|(apply W.t;· exact fun h=>SG.g h)|fail));exact Imp.r)(hm:P.follows .mixedOrders=true:=by kernel_rfl):SW P C (.region id l.toArray true) Q A H:=aNf B S (hn.f h) hm
theorem SL.l{X:Prop}(S:List Nat) [hk:aB7 R H](h:X)(hn:Imp X (SG P C L Q B S R fuel listed A H):=by (repeat' (first|(apply W.t;· exact fun h=>SG.g h)|fail));exact Imp.r):SL P C L (thn (aDe P C L Q B R fuel listed) Q) [] A H:=bB S (hn.f h)
theorem SG.l{X:Prop}(S:List Nat)(h:X)(hn:Imp X (SG P C L Q B S R fuel listed A H):=by (repeat' (first|(apply W.t;· exact fun h=>SG.g h)|fail));exact Imp.r):SS P C L Q B R fuel listed A H:=hn.f h
end
theorem F.n{G:Prop}(h:G:=by refine Fin.to [] ?_;exact F.f1 ⟨rfl,rfl⟩):G:=h
end
end Go.Proofs.YtdfclocfackkmaaGreat
