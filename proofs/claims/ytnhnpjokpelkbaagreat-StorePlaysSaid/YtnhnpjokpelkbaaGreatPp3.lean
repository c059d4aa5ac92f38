/- The walk's laws in short: what is plain is found by itself. A region that draws its order: what only reads is taken as early as it can be; what was read stays as it is till it must have been read. More of what is plain: bools, conversions, indexes, parts of slices, texts. Making and growing slices, copies. Tuples, bytes as texts, and constants that are bytes. Bytes that become texts, in regions that draw their order. Words of 32 and 64 bits: their operations, shifts and conversions. One law for all operations that only compute. A region that draws its order: what is taken, one by one, of a list. One law for every plain step of a walk. One law for every plain step of the older walks. Walks in short: steps one behind the other. -/
import Derived.KernelRfl
import Derived.Laws.BytesString
import Derived.Lib.SlBytesConst
import Derived.Test.YtnhnpjokpelkbaaGreatPp2
set_option linter.unusedVariables false
set_option linter.unusedSimpArgs false
set_option linter.unusedSectionVars false
namespace Go.Proofs.YtnhnpjokpelkbaaGreat
open Go
class eI(i:Int)(k:outParam Nat):Prop where
 ok:i=(k:Int)
instance eI.cast(k:Nat):eI (k:Int) k:=⟨rfl⟩
instance:eI 0 0:=⟨rfl⟩
instance:eI 1 1:=⟨rfl⟩
instance:eI 2 2:=⟨rfl⟩
instance:eI 3 3:=⟨rfl⟩
instance:eI 4 4:=⟨rfl⟩
instance:eI 5 5:=⟨rfl⟩
instance:eI 6 6:=⟨rfl⟩
instance:eI 7 7:=⟨rfl⟩
instance:eI 8 8:=⟨rfl⟩
instance:eI 12 12:=⟨rfl⟩
instance:eI 13 13:=⟨rfl⟩
instance:eI 16 16:=⟨rfl⟩
instance:eI 32 32:=⟨rfl⟩
instance:eI 64 64:=⟨rfl⟩
instance:eI 256 256:=⟨rfl⟩
instance eI.add(a b:Int)(x y:Nat) [h1:eI a x] [h2:eI b y]:eI (a+b) (x+y):=⟨by rw [h1.ok,h2.ok];rfl⟩
instance eI.mul(a b:Int)(x y:Nat) [h1:eI a x] [h2:eI b y]:eI (a*b) (x*y):=⟨by rw [h1.ok,h2.ok];rfl⟩
instance eI.div(a b:Int)(x y:Nat) [h1:eI a x] [h2:eI b y]:eI (a/b) (x/y):=⟨by rw [h1.ok,h2.ok];rfl⟩
instance eI.mod(a b:Int)(x y:Nat) [h1:eI a x] [h2:eI b y]:eI (a%b) (x%y):=⟨by rw [h1.ok,h2.ok];rfl⟩
instance eI.cadd(x y:Nat):eI ((x+y:Nat):Int) (x+y):=⟨rfl⟩
class AdN(j k n:Nat)(r:outParam Nat):Prop where
 ok:j+k*n=r
instance AdN.all(j k n:Nat):AdN j k n (j+k*n):=⟨rfl⟩
instance(priority:=1010) AdN.one (j k:Nat):AdN j k 1 (j+k):=⟨by omega⟩
instance(priority:=1020) AdN.zero (k n:Nat):AdN 0 k n (k*n):=⟨by omega⟩
instance(priority:=1030) AdN.zone (k:Nat):AdN 0 k 1 k:=⟨by omega⟩
class OfN(j off:Nat)(r:outParam Nat):Prop where
 ok:j+off=r
instance OfN.all(j off:Nat):OfN j off (j+off):=⟨rfl⟩
instance(priority:=1010) OfN.z (j:Nat):OfN j 0 j:=⟨rfl⟩
instance(priority:=1020) OfN.z2 (off:Nat):OfN 0 off off:=⟨by omega⟩
def xX:BinOp→Int→Int→Prop
 | .lss,m,n=>m<n
 | .leq,m,n=>m≤n
 | .gtr,m,n=>n<m
 | .geq,m,n=>n≤m
 | .eql,m,n=>m=n
 | .neq,m,n=>m≠n
 | _,_,_=>False
instance(b:BinOp)(m n:Int):Decidable (xX b m n):=
 match b with
 | .lss=>inferInstanceAs (Decidable (m<n))
 | .leq=>inferInstanceAs (Decidable (m≤n))
 | .gtr=>inferInstanceAs (Decidable (n<m))
 | .geq=>inferInstanceAs (Decidable (n≤m))
 | .eql=>inferInstanceAs (Decidable (m=n))
 | .neq=>inferInstanceAs (Decidable (m≠n))
 | .add|.sub|.mul|.quo|.rem|.and|.or|.xor|.shl|.shr|.andNot=>inferInstanceAs (Decidable False)
def aFu:BinOp→Bool
 | .lss|.leq|.gtr|.geq|.eql|.neq=>true
 | _=>false
class UAr(b:BinOp)(k:IntKind)(m n:Int)(r:outParam Int):Prop where
 ok:∀ (P:Program) (w:World) (t:TypeId),(binOp b t (.int k m) (.int k n)).run P w=.ok (.int k r) w
section
variable {P:Program}{C:Ctx}{ρ:Fr}{H:Hp}{o:Oper}{t t':TypeId}{x y:Operand}{k:IntKind}{m n r:Int}
theorem yH{b:BinOp}(ho:o.op=.binOp b t x y t')(hb:aFu b=true)(hx:ev ρ x=some (.int k m))(hy:ev ρ y=some (.int k n)):Pu P C ρ H o (.bool (decide (xX b m n))):=by
 cases b <;> first|cases hb|skip
 ·exact nE ho hx hy
 ·exact pI ho hx hy
 ·exact pH ho hx hy
 ·exact pG ho hx hy
 ·exact pF ho hx hy
 ·exact pE ho hx hy
theorem aMN{b:BinOp} [h:UAr b k m n r](ho:o.op=.binOp b t x y t')(hx:ev ρ x=some (.int k m))(hy:ev ρ y=some (.int k n)):Pu P C ρ H o (.int k r):=fun a w hf _=>by
 unfold execOp;rw [ho];simp only [hf.eval hx,hf.eval hy,Sem.run_bind,iI,Result.andThen_ok,h.ok,Sem.run_pure]
theorem aGJ(ho:o.op=.binOp .quo t x y t')(hx:ev ρ x=some (.int .i64 m))(hy:ev ρ y=some (.int .i64 n))(h0:0≤m)(h1:m≤9223372036854775807)(hn:0<n):Pu P C ρ H o (.int .i64 (m/n)):=
 aCv ho hx hy oQ (by
  rw [mM h0]
  have h2:0≤m/n:=vJ h0 oQ
  have h3:m/n≤m:=tG n h0
  exact w64 oQ)
theorem aKc(ho:o.op=.binOp .rem t x y t')(hx:ev ρ x=some (.int k m))(hy:ev ρ y=some (.int k n))(h0:0≤m)(hn:0<n):Pu P C ρ H o (.int k (m%n)):=
 aCw ho hx hy oQ (Int.tmod_eq_emod_of_nonneg h0)
end
section
variable {P:Program}{C:Ctx}{Q:Exit→Fr→Hp→Prop}{ρ:Fr}{H H':Hp}{L rest:List Oper}{d:Option Tmp}{ty:TypeId}{pos:String}{af:Array Edge}{g:Option (Nat×Bool)}{t t' e n len cap b i j off c:Nat}{d':Option Nat}{x y z:Operand}{v u:Value}{k kk:IntKind}{m q r:Int}{l l':List Value}{T:TypeId}
theorem W.mv(h:SL P C L Q rest (pt ρ d' v) H)(hx:ev ρ x=some v:=by exact rfl)(hg:gd L ρ ⟨d,.move x,ty,pos,af,g⟩=some true:=by exact rfl)(hd:dk C.n d=some d':=by exact rfl):SL P C L Q (⟨d,.move x,ty,pos,af,g⟩::rest) ρ H:=bP (fB rfl hx) hg hd h
theorem W.as(h:SL P C L Q rest (pt ρ d' v) H)(hx:ev ρ x=some v:=by exact rfl)(hg:gd L ρ ⟨d,.assign x,ty,pos,af,g⟩=some true:=by exact rfl)(hd:dk C.n d=some d':=by exact rfl):SL P C L Q (⟨d,.assign x,ty,pos,af,g⟩::rest) ρ H:=bP (rY rfl hx) hg hd h
theorem W.nl{ad:Addr}(h:SL P C L Q rest (pt ρ d' (.pointer (some ad))) H)(hx:ev ρ x=some (.pointer (some ad)):=by exact rfl)(hg:gd L ρ ⟨d,.nilCheck x,ty,pos,af,g⟩=some true:=by exact rfl)(hd:dk C.n d=some d':=by exact rfl):SL P C L Q (⟨d,.nilCheck x,ty,pos,af,g⟩::rest) ρ H:=bP (sA rfl hx) hg hd h
theorem W.fa [aU P t i e off](h:SL P C L Q rest (pt ρ d' (.pointer (some ⟨b,c,none⟩))) H)(hx:ev ρ x=some (.pointer (some ⟨b,j,none⟩)):=by exact rfl)(ho:OfN j off c:=by infer_instance)(hg:gd L ρ ⟨d,.fieldAddr t x i,ty,pos,af,g⟩=some true:=by exact rfl)(hd:dk C.n d=some d':=by exact rfl):SL P C L Q (⟨d,.fieldAddr t x i,ty,pos,af,g⟩::rest) ρ H:=bP (gM rfl hx ho.ok) hg hd h
theorem W.la [fC P t n](h:SL P C L Q rest (pt ρ d' (.agg l'.toArray)) H)(hx:ev ρ x=some (.pointer (some ⟨b,i,none⟩)):=by exact rfl)(i0:At H b (cl l T):=by infer_instance)(hv:(l.drop i).take n=l':=by first|assumption|exact rfl)(hn:l'.length=n:=by first|assumption|exact rfl)(hg:gd L ρ ⟨d,.load t x,ty,pos,af,g⟩=some true:=by exact rfl)(hd:dk C.n d=some d':=by exact rfl):SL P C L Q (⟨d,.load t x,ty,pos,af,g⟩::rest) ρ H:=bP (mS rfl hx hv hn) hg hd h
theorem W.mf{f:Go.Fn}{xs ys:Array Operand}{vs us:List Value}(h:SL P C L Q rest (pt ρ d' (.func f vs.toArray us.toArray)) H)(hx:evs ρ xs.toList=some vs:=by exact rfl)(hy:evs ρ ys.toList=some us:=by exact rfl)(hg:gd L ρ ⟨d,.makeFunc f xs ys,ty,pos,af,g⟩=some true:=by exact rfl)(hd:dk C.n d=some d':=by exact rfl):SL P C L Q (⟨d,.makeFunc f xs ys,ty,pos,af,g⟩::rest) ρ H:=bP (rZ rfl hx hy) hg hd h
theorem aOR{ps:Array (Nat×Operand)}{vs:List (Nat×Value)}{zv rv:List Value} [kZ P t len e n] [cN P t zv](h:SL P C L Q rest (pt ρ d' (.agg rv.toArray)) H)(hp:evp ρ ps.toList=some vs:=by exact rfl)(hr:bX (fun i=>some (i*n,n)) zv vs=some rv:=by first|assumption|exact rfl)(hg:gd L ρ ⟨d,.build t ps,ty,pos,af,g⟩=some true:=by exact rfl)(hd:dk C.n d=some d':=by exact rfl):SL P C L Q (⟨d,.build t ps,ty,pos,af,g⟩::rest) ρ H:=bP (oC rfl hp hr) hg hd h
theorem W.cs{bo:BinOp}(h1:xX bo m q→SL P C L Q rest (pt ρ d' (.bool true)) H)(h2:¬ xX bo m q→SL P C L Q rest (pt ρ d' (.bool false)) H)(hb:aFu bo=true:=by exact rfl)(hx:ev ρ x=some (.int k m):=by exact rfl)(hy:ev ρ y=some (.int k q):=by exact rfl)(hg:gd L ρ ⟨d,.binOp bo t x y t',ty,pos,af,g⟩=some true:=by exact rfl)(hd:dk C.n d=some d':=by exact rfl):SL P C L Q (⟨d,.binOp bo t x y t',ty,pos,af,g⟩::rest) ρ H:=dX (yH rfl hb hx hy) hg hd h1 h2
theorem W.cr{bo:BinOp}(h:SL P C L Q rest (pt ρ d' (.bool (decide (xX bo m q)))) H)(hb:aFu bo=true:=by exact rfl)(hx:ev ρ x=some (.int k m):=by exact rfl)(hy:ev ρ y=some (.int k q):=by exact rfl)(hg:gd L ρ ⟨d,.binOp bo t x y t',ty,pos,af,g⟩=some true:=by exact rfl)(hd:dk C.n d=some d':=by exact rfl):SL P C L Q (⟨d,.binOp bo t x y t',ty,pos,af,g⟩::rest) ρ H:=bP (yH rfl hb hx hy) hg hd h
theorem W.sk(h:SL P C L Q rest (pt ρ d' undef) H){op:Go.Op}{gg:Nat×Bool}(hg:gd L ρ ⟨d,op,ty,pos,af,some gg⟩=some false:=by exact rfl)(hd:dk C.n d=some d':=by exact rfl):SL P C L Q (⟨d,op,ty,pos,af,some gg⟩::rest) ρ H:=zR hg hd h
theorem W.bx(h:∀ b,SL P C L Q rest (pt ρ d' (.pointer (some ⟨b,0,none⟩))) ((b,cl [v] t)::H))(hx:ev ρ x=some v:=by exact rfl)(i0:One v:=by infer_instance)(hg:gd L ρ ⟨d,.box t x,ty,pos,af,g⟩=some true:=by exact rfl)(hd:dk C.n d=some d':=by exact rfl):SL P C L Q (⟨d,.box t x,ty,pos,af,g⟩::rest) ρ H:=aGb rfl hg hd hx h
theorem aBl(h:∀ b,SL P C L Q rest (pt ρ d' (.pointer (some ⟨b,0,none⟩))) ((b,cl l t)::H))(hx:ev ρ x=some (.agg l.toArray):=by exact rfl)(hg:gd L ρ ⟨d,.box t x,ty,pos,af,g⟩=some true:=by exact rfl)(hd:dk C.n d=some d':=by exact rfl):SL P C L Q (⟨d,.box t x,ty,pos,af,g⟩::rest) ρ H:=aBV rfl hg hd hx h
theorem W.al{zv:List Value} [cN P t zv](h:∀ b,SL P C L Q rest (pt ρ d' (.pointer (some ⟨b,0,none⟩))) ((b,cl zv t)::H))(hg:gd L ρ ⟨d,.alloc t,ty,pos,af,g⟩=some true:=by exact rfl)(hd:dk C.n d=some d':=by exact rfl):SL P C L Q (⟨d,.alloc t,ty,pos,af,g⟩::rest) ρ H:=SL.alloc rfl hg hd h
theorem W.st [jX P t](h:SL P C L Q rest (pt ρ d' undef) H')(hx:ev ρ x=some (.pointer (some ⟨b,i,none⟩)):=by exact rfl)(hy:ev ρ y=some v:=by exact rfl)(i0:One v:=by infer_instance)(i34:At H b (cl l T):=by infer_instance)(i79:Upd H b (cl (l.set i v) T) H':=by infer_instance)(hi:i<l.length:=by first|assumption|exact fK rfl)(hg:gd L ρ ⟨d,.store t x y,ty,pos,af,g⟩=some true:=by exact rfl)(hd:dk C.n d=some d':=by exact rfl):SL P C L Q (⟨d,.store t x y,ty,pos,af,g⟩::rest) ρ H:=SL.store rfl hg hd hx hy hi h
theorem W.sw [fC P t n](h:SL P C L Q rest (pt ρ d' undef) H')(hx:ev ρ x=some (.pointer (some ⟨b,0,none⟩)):=by exact rfl)(hy:ev ρ y=some (.agg l'.toArray):=by exact rfl)(i0:OC l':=by infer_instance)(i34:At H b (cl l T):=by infer_instance)(i79:Upd H b (cl l' T) H':=by infer_instance)(hr:l'.length=n:=by first|assumption|exact rfl)(hz:l.length=n:=by first|assumption|exact rfl)(hg:gd L ρ ⟨d,.store t x y,ty,pos,af,g⟩=some true:=by exact rfl)(hd:dk C.n d=some d':=by exact rfl):SL P C L Q (⟨d,.store t x y,ty,pos,af,g⟩::rest) ρ H:=yQ rfl hg hd hx hy hr hz h
theorem W.sa{rv:List Value} [fC P t n](h:SL P C L Q rest (pt ρ d' undef) H')(hx:ev ρ x=some (.pointer (some ⟨b,i,none⟩)):=by exact rfl)(hy:ev ρ y=some (.agg rv.toArray):=by exact rfl)(i0:OC rv:=by infer_instance)(i34:At H b (cl l T):=by infer_instance)(i79:Upd H b (cl (l.take i++rv++l.drop (i+n)) T) H':=by infer_instance)(hr:rv.length=n:=by first|assumption|exact rfl)(hi:i+n≤l.length:=by first|assumption|exact fK rfl)(hg:gd L ρ ⟨d,.store t x y,ty,pos,af,g⟩=some true:=by exact rfl)(hd:dk C.n d=some d':=by exact rfl):SL P C L Q (⟨d,.store t x y,ty,pos,af,g⟩::rest) ρ H:=uN rfl hg hd hx hy hr hi rfl h
theorem aF{f:FuncId}{xs:Array Operand}{ats:Array TypeId}{vs:List Value}{Hc rr:Hp}{Pre:World→Prop}{R:Value→Hp→Prop} [bD P f](ht:Tri P f vs Hc Pre R) [fA H Hc rr](hk:∀ v H',R v H'→SL P C L Q rest (pt ρ d' v) (H'++rr))(hx:evs ρ xs.toList=some vs:=by exact rfl)(hpre:∀ w,St C.K C.w0 H w→Pre w:=by exact fun _ _=>trivial)(hg:gd L ρ ⟨d,.call { callee:=.value (.func f),args:=xs,argTypes:=ats },ty,pos,af,g⟩=some true:=by exact rfl)(hd:dk C.n d=some d':=by exact rfl) :
  SL P C L Q (⟨d,.call { callee:=.value (.func f),args:=xs,argTypes:=ats },ty,pos,af,g⟩::rest) ρ H:=oM Hc rfl hg hd hx ht hpre hk
theorem eJ{f:FuncId}{xs:Array Operand}{ats:Array TypeId}{vs vs':List Value}{Hc rr:Hp}{Pre:World→Prop}{R:Value→Hp→Prop} [bD P f](ht:Tri P f vs Hc Pre R) [fA H Hc rr](he:vs'=vs)(hk:∀ v H',R v H'→SL P C L Q rest (pt ρ d' v) (H'++rr))(hx:evs ρ xs.toList=some vs':=by exact rfl)(hpre:∀ w,St C.K C.w0 H w→Pre w:=by exact fun _ _=>trivial)(hg:gd L ρ ⟨d,.call { callee:=.value (.func f),args:=xs,argTypes:=ats },ty,pos,af,g⟩=some true:=by exact rfl)(hd:dk C.n d=some d':=by exact rfl) :
  SL P C L Q (⟨d,.call { callee:=.value (.func f),args:=xs,argTypes:=ats },ty,pos,af,g⟩::rest) ρ H:=aF ht hk (he▸hx) hpre hg hd
end
section
variable {P:Program}{C:Ctx}{ρ:Fr}{H:Hp}{fn:Func}{R:Value→Hp→Prop}{e:Exit}{t u:Nat}{v v2:Value}
theorem F.f0(hR:R (.tuple #[]) H)(he:e=.ret∨e=.normal:=by first|exact .inl rfl|exact .inr rfl)(hrs:fn.results=#[]:=by exact rfl):Fin P C fn R e ρ H:=Fin.s0 he hrs hR
theorem F.f1(hR:R v H)(he:e=.ret∨e=.normal:=by first|exact .inl rfl|exact .inr rfl)(hrs:fn.results=#[.tmp t]:=by exact rfl)(ht:lk ρ t=some v:=by exact rfl):Fin P C fn R e ρ H:=Fin.s1 he hrs ht hR
theorem F.f2(hR:R (.tuple #[v,v2]) H)(he:e=.ret∨e=.normal:=by first|exact .inl rfl|exact .inr rfl)(hrs:fn.results=#[.tmp t,.tmp u]:=by exact rfl)(ht:lk ρ t=some v:=by exact rfl)(hu:lk ρ u=some v2:=by exact rfl):Fin P C fn R e ρ H:=Fin.s2 he hrs ht hu hR
end
theorem aAM{P:Program}{C:Ctx}{Q:Exit→Fr→Hp→Prop}{ρ:Fr}{H:Hp}{c:Operand}{x y:Code}{p:Prop} [Decidable p](hc:ev ρ c=some (.bool (decide p)))(ht:p→SW P C x Q ρ H)(hf:¬ p→SW P C y Q ρ H):SW P C (.cond c x y) Q ρ H:=
 jK hc (fun e=>ht (of_decide_eq_true e)) (fun e=>hf (of_decide_eq_false e))
def yB(ρ:Fr):List Nat→Option Fr
 | []=>some []
 | t::r=>match lk ρ t,yB ρ r with
  | some v,some s=>some ((t,v)::s)
  | _,_=>none
theorem yB.sub{ρ:Fr}:∀ {ts:List Nat} {r:Fr},yB ρ ts=some r→subF r ρ
 | [],r,h=>by simp [yB] at h;subst h;trivial
 | t::ts,r,h=>by
  unfold yB at h
  split at h
  ·rename_i v s hv hs
   simp at h;subst h
   exact⟨hv,yB.sub hs⟩
  ·cases h
theorem subF.append{ρ:Fr}:∀ {a b:Fr},subF a ρ→subF b ρ→subF (a++b) ρ
 | [],b,_,h=>h
 | (k,v)::a,b,⟨h1,h2⟩,h=>⟨h1,subF.append h2 h⟩
section
variable {P:Program}{C:Ctx}{Q:Exit→Fr→Hp→Prop}{ρ:Fr}{H:Hp}{α:Type}
def aQ(F:α→Fr)(ρk:Fr)(G:α→Hp)(s:Hp)(M:α→Nat)(I:α→Prop)(a:α):Fr→Hp→Prop:=sK (fun x=>F x++ρk) (fun x=>G x++s) M I a
theorem aQ.mk{F:α→Fr}{ρk:Fr}{G:α→Hp}{s s':Hp}{M:α→Nat}{I:α→Prop}{a:α}(a':α)(hi:I a')(hM:M a'<M a:=by (first|omega|(dsimp only;omega))) [hp:fA H (G a'++s) s'](hr:subF (F a'++ρk) ρ:=by (repeat' first|exact trivial|refine And.intro rfl ?_)):aQ F ρk G s M I a ρ H:=⟨a',s',hM,hr,hp.perm,hi⟩
theorem bF{c:Code}(ts:List Nat)(F:α→Fr)(G:α→Hp)(M:α→Nat)(I:α→Prop)(a0:α){s:Hp}{ρk:Fr} [hp:fA H (G a0) s](h0:I a0)
  (round:∀ a,I a→SW P C c (thn (aQ F ρk G s M I a) Q) (F a++ρk) (G a++s)) (hk:yB ρ ts=some ρk:=by exact rfl) (hr:subF (F a0) ρ:=by (repeat' first|exact trivial|refine And.intro rfl ?_)):SW P C (.loop c) Q ρ H:=
 zT (fun x=>F x++ρk) (fun x=>G x++s) M I a0 (s:=[]) (hr.append (yB.sub hk)) ⟨by rw [aH];exact hp.perm⟩ h0 round
end
section
variable {P:Program}{C:Ctx}{Q:Exit→Fr→Hp→Prop}{ρ:Fr}{H:Hp}{α:Type}
theorem cK{c:Code}(ts bs:List Nat)(F:α→Fr)(G:α→Hp)(M:α→Nat)(I:α→Prop)(a0:α){R s:Hp}{ρk:Fr} [hp:Sel H bs R s](h0:I a0)
  (round:∀ a,I a→SW P C c (thn (aQ F ρk G s M I a) Q) (F a++ρk) (G a++s)) (hG:R=G a0:=by exact rfl) (hk:yB ρ ts=some ρk:=by exact rfl) (hr:subF (F a0) ρ:=by (repeat' first|exact trivial|refine And.intro rfl ?_)):SW P C (.loop c) Q ρ H:=
 bF (hp:=⟨hG▸hp.perm⟩) ts F G M I a0 h0 round hk hr
end
section
variable {P:Program}{C:Ctx}{Q:Exit→Fr→Hp→Prop}{ρ:Fr}{H:Hp}{α:Type}
def bT(F:α→Fr)(ρk:Fr)(G:α→Hp)(s:Hp)(I:α→Prop)(ρ:Fr)(H:Hp):Prop:=∃ a r,I a∧subF (F a++ρk) ρ∧H.Perm ((G a++s)++r)
theorem bT.mk{F:α→Fr}{ρk:Fr}{G:α→Hp}{s r:Hp}{I:α→Prop}(a:α)(hi:I a) [hp:fA H (G a++s) r](hr:subF (F a++ρk) ρ:=by (repeat' first|exact trivial|refine And.intro rfl ?_)):bT F ρk G s I ρ H:=⟨a,r,hi,hr,hp.perm⟩
theorem bQ{x y:Code}(ts:List Nat)(G0:Hp)(F:α→Fr)(G:α→Hp)(I:α→Prop){ρk:Fr}{s:Hp} [hp:fA H G0 s](h1:SW P C x (thn (bT F ρk G s I) Q) ρ H)(h2:∀ a,I a→SW P C y Q (F a++ρk) (G a++s))(hk:yB ρ ts=some ρk:=by exact rfl):SW P C x (thn (SW P C y Q) Q) ρ H:=
 SW.mono h1 fun e ρ' H' hq=>by
  cases e <;> first
   | exact hq
   | (obtain⟨a,r,hi,hr,hp⟩:=hq;exact aAP hr ⟨hp⟩ (h2 a hi))
theorem SW.cut{x y:Code}(ts bs:List Nat)(F:α→Fr)(G:α→Hp)(I:α→Prop){ρk:Fr}{R s:Hp} [hp:Sel H bs R s](h1:SW P C x (thn (bT F ρk G s I) Q) ρ H)(h2:∀ a,I a→SW P C y Q (F a++ρk) (G a++s))(hk:yB ρ ts=some ρk:=by exact rfl):SW P C x (thn (SW P C y Q) Q) ρ H:=
 bQ (hp:=⟨hp.perm⟩) ts R F G I h1 h2 hk
end
def Rk(C:Ctx)(R:Hp)(w:World):Prop:=St C.K C.w0 [] w∧∀ x∈R,w.heap[x.1]?=some x.2
theorem Rk.of{C:Ctx}{R H:Hp}{w:World}(h:St C.K C.w0 H w)(hr:∀ x∈R,x∈H):Rk C R w:=⟨St.drop (Hc:=[]) (r:=H) h,fun x hx=>h.own x.1 x.2 (hr x hx)⟩
theorem Rk.sub{C:Ctx}{R R':Hp}{w:World}(hs:∀ x∈R,x∈R')(h:Rk C R' w):Rk C R w:=⟨h.1,fun x hx=>h.2 x (hs x hx)⟩
def nxt(B:List Nat)(R:Hp)(i:Nat):Hp:=bif B.contains i then [] else R
theorem aMI{B:List Nat}{R:Hp}{i:Nat}(h:B.contains i=true):nxt B R i=[]:=by unfold nxt;rw [h];rfl
theorem yG{B:List Nat}{R:Hp}{i:Nat}(h:B.contains i=false):nxt B R i=R:=by unfold nxt;rw [h];rfl
theorem aHw{B:List Nat}{R R':Hp}(i:Nat)(hs:∀ x∈R,x∈R'):∀ x∈nxt B R i,x∈nxt B R' i:=by
 cases h:B.contains i
 ·rw [yG h,yG h];exact hs
 ·rw [aMI h];simp
def tE(P:Program)(C:Ctx)(ops:Array Oper)(Q:Exit→Act→World→Prop)(B:List Nat):Hp→Nat→Array Bool→Act→World→Prop
 | _,0,listed,a,w=>Region.ready .any ops listed=[]∧Q .normal a w
 | R,f+1,listed,a,w=>(Region.ready .any ops listed=[]→Q .normal a w) ∧
  ∀ i∈Region.ready .any ops listed,wpOp P ops Q i (fun a' w'=>Rk C (nxt B R i) w'∧tE P C ops Q B (nxt B R i) f (listed.setIfInBounds i true) a' w') a w
section
variable {P:Program}{C:Ctx}{ops:Array Oper}{Q:Exit→Act→World→Prop}{B:List Nat}
theorem tE.any:∀ (f:Nat) (R:Hp) (listed:Array Bool) (a:Act) (w:World),tE P C ops Q B R f listed a w→wpAny P .any ops Q f listed a w
 | 0,_,_,_,_,h=>h
 | f+1,_,_,_,_,h=>⟨h.1,fun i hi=>wpOp_mono (fun a' w' h'=>tE.any f _ _ a' w' h'.2) (h.2 i hi)⟩
theorem tE.weaken:∀ (f:Nat) (R R':Hp) (listed:Array Bool) (a:Act) (w:World),(∀ x∈R,x∈R')→tE P C ops Q B R' f listed a w→tE P C ops Q B R f listed a w
 | 0,_,_,_,_,_,_,h=>h
 | f+1,_,_,_,_,_,hs,h=>⟨h.1,fun i hi=>wpOp_mono (fun a' w' h'=>⟨Rk.sub (aHw i hs) h'.1,tE.weaken f _ _ _ a' w' (aHw i hs) h'.2⟩) (h.2 i hi)⟩
def aNn(ops:Array Oper)(listed:Array Bool)(i:Nat)(Ws:List Nat):Bool:=
 Ws.all fun j=>!listed.getD j true&&match ops[j]? with
  | some o=>o.after.any fun e=>Region.binds .any e&&(Nat.beq e.on i||Ws.contains e.on)
  | none=>false
theorem aFc{listed:Array Bool}{i j:Nat}{Ws:List Nat}(h1:∀ k∈Ws,∃ o,ops[k]?=some o∧∃ e∈o.after,Region.binds .any e=true∧(e.on=i∨e.on∈Ws))(h2:∀ k∈Ws,listed.getD k false=false)(hi:listed.getD i false=false)
  (hj:j∈Region.ready .any ops listed):j∉Ws:=fun hm=>by
 obtain⟨_,o,ho,hall⟩:=mem_ready.1 hj
 obtain⟨o2,ho2,e,he,hb,hor⟩:=h1 j hm
 rw [ho] at ho2
 cases ho2
 have:=hall e he hb
 rcases hor with h|h
 ·rw [h,hi] at this;cases this
 ·rw [h2 _ h] at this;cases this
theorem tE.first{i:Nat}{oi:Oper}{v:Value}{Ws:List Nat}{R:Hp}(hi:ops[i]?=some oi)(hsel:∀ (j:Nat) (o:Oper) cs b,ops[j]?=some o→o.op≠.select cs b)
  (h1:∀ k∈Ws,∃ o,ops[k]?=some o∧∃ e∈o.after,Region.binds .any e=true∧(e.on=i∨e.on∈Ws)) (hiB:B.contains i=false) (hQ:∀ c a w,Q (.panic c) (a.put oi.dst v) w→Q (.panic c) a w) :
  ∀ (f:Nat) (listed:Array Bool) (a:Act) (w:World),
   (∀ j oj,ops[j]?=some oj→j≠i→listed.getD j true=false→(∀ e∈oj.after,Region.binds .any e=true→e.on≠i)→oi.apart ops oj=true) →
   (∀ k∈Ws,listed.getD k true=false)→(∀ t,B.contains t=true→listed.getD t true=true∨t∈Ws) →
   i∈Region.ready .any ops listed→YieldsIf P ops (Rk C R) oi v a→Rk C R w →
   tE P C ops Q B R f (listed.setIfInBounds i true) (a.put oi.dst v) w→tE P C ops Q B R (f+1) listed a w:=by
 intro f
 induction f with
 | zero=>
  intro listed a w _ _ _ hr hy hS h
  refine⟨fun h0=>absurd hr (by rw [h0];exact dN),fun j hj=>?_⟩
  rcases Decidable.em (j=i) with rfl|hne
  ·exact hy.wpOp hi hS (by rw [yG hiB];exact⟨hS,h⟩)
  ·have:=ready_mono hj hne
   rw [h.1] at this
   exact absurd this dN
 | succ f ih=>
  intro listed a w hfree hW hB hr hy hS h
  have hui:=(mem_ready.1 hr).1
  refine⟨fun h0=>absurd hr (by rw [h0];exact dN),fun j hj=>?_⟩
  rcases Decidable.em (j=i) with rfl|hne
  ·exact hy.wpOp hi hS (by rw [yG hiB];exact⟨hS,h⟩)
  ·obtain⟨huj,oj,hoj,hpre⟩:=mem_ready.1 hj
   have hif:listed.getD i false=false:=getD_both hui
   have hjW:j∉Ws:=aFc h1 (fun k hk=>getD_both (hW k hk)) hif hj
   have hjB:B.contains j=false:=by
    cases hb:B.contains j with
    | false=>rfl
    | true=>
     rcases hB j hb with h|h
     ·rw [huj] at h;cases h
     ·exact absurd h hjW
   have hno:∀ e∈oj.after,Region.binds .any e=true→e.on≠i:=fun e he hb heq=>by
    have:=hpre e he hb
    rw [heq,hif] at this
    cases this
   have h1:=wpOp_putIf hoj (hfree j oj hoj hne huj hno) (fun cs b=>hsel i oi cs b hi) (fun cs b=>hsel j oj cs b hoj) hQ hy (h.2 j (ready_mono hj hne))
   refine wpOp_mono (fun a' w' ⟨hy',hS',hrest⟩=>?_) h1
   rw [yG hjB] at hS' hrest ⊢
   refine⟨hS',ih _ a' w' (fun k ok hk hki hun hn=>hfree k ok hk hki ?_ hn) (fun k hk=>?_) (fun t ht=>?_) (ready_mono hr (Ne.symm hne)) hy' hS' (by rw [nJ _ _ hne];exact hrest)⟩
   ·rcases Decidable.em (j=k) with rfl|hjk
    ·exact huj
    ·rwa [getD_set_ne true hjk] at hun
   ·have hjk:j≠k:=fun e=>hjW (e▸hk)
    rw [getD_set_ne true hjk];exact hW k hk
   ·rcases Decidable.em (j=t) with rfl|hjt
    ·rw [hjB] at ht;cases ht
    ·rw [getD_set_ne true hjt];exact hB t ht
theorem tE.firstW{i:Nat}{oi:Oper}{v:Value}(hi:ops[i]?=some oi)(hsel:∀ (j:Nat) (o:Oper) cs b,ops[j]?=some o→o.op≠.select cs b)
  (hiB:B.contains i=false) (hQ:∀ c a w,Q (.panic c) (a.put oi.dst v) w→Q (.panic c) a w) :
  ∀ (f:Nat) (R:Hp) (listed:Array Bool) (a:Act) (w:World),
   (∀ j oj,ops[j]?=some oj→j≠i→listed.getD j true=false→(∀ e∈oj.after,Region.binds .any e=true→e.on≠i)→oi.apart ops oj=true) →
   i∈Region.ready .any ops listed→YieldsIf P ops (Rk C []) oi v a→Rk C R w →
   tE P C ops Q B R f (listed.setIfInBounds i true) (a.put oi.dst v) w→tE P C ops Q B R (f+1) listed a w:=by
 intro f
 induction f with
 | zero=>
  intro R listed a w _ hr hy hS h
  refine⟨fun h0=>absurd hr (by rw [h0];exact dN),fun j hj=>?_⟩
  rcases Decidable.em (j=i) with rfl|hne
  ·exact hy.wpOp hi ⟨hS.1,by simp⟩ (by rw [yG hiB];exact⟨hS,h⟩)
  ·have:=ready_mono hj hne
   rw [h.1] at this
   exact absurd this dN
 | succ f ih=>
  intro R listed a w hfree hr hy hS h
  have hui:=(mem_ready.1 hr).1
  refine⟨fun h0=>absurd hr (by rw [h0];exact dN),fun j hj=>?_⟩
  rcases Decidable.em (j=i) with rfl|hne
  ·exact hy.wpOp hi ⟨hS.1,by simp⟩ (by rw [yG hiB];exact⟨hS,h⟩)
  ·obtain⟨huj,oj,hoj,hpre⟩:=mem_ready.1 hj
   have hif:listed.getD i false=false:=getD_both hui
   have hno:∀ e∈oj.after,Region.binds .any e=true→e.on≠i:=fun e he hb heq=>by
    have:=hpre e he hb
    rw [heq,hif] at this
    cases this
   have h1:=wpOp_putIf hoj (hfree j oj hoj hne huj hno) (fun cs b=>hsel i oi cs b hi) (fun cs b=>hsel j oj cs b hoj) hQ hy (h.2 j (ready_mono hj hne))
   refine wpOp_mono (fun a' w' ⟨hy',hS',hrest⟩=>?_) h1
   refine⟨hS',ih _ _ a' w' (fun k ok hk hki hun hn=>hfree k ok hk hki ?_ hn) (ready_mono hr (Ne.symm hne)) hy' hS' (by rw [nJ _ _ hne];exact hrest)⟩
   rcases Decidable.em (j=k) with rfl|hjk
   ·exact huj
   ·rwa [getD_set_ne true hjk] at hun
end
def SS(P:Program)(C:Ctx)(L:List Oper)(Q:Exit→Fr→Hp→Prop)(B:List Nat)(R:Hp)(fuel:Nat)(listed:Array Bool)(ρ:Fr)(H:Hp):Prop:=
 ∀ a w,jV C.ds C.n ρ a→St C.K C.w0 H w→(∀ x∈R,x∈H)→tE P C L.toArray (sI C Q) B R fuel listed a w
class aBT(R H:Hp):Prop where
 ok:∀ x∈R,x∈H
instance aBT.nil(H:Hp):aBT [] H:=⟨by simp⟩
instance aBT.cons(H R:Hp)(b:Nat)(o:Obj) [h1:At H b o] [h2:aBT R H]:aBT ((b,o)::R) H:=⟨fun x hx=>by
 rcases bZ.1 hx with rfl|hx
 ·exact h1.mem
 ·exact h2.ok x hx⟩
class Ins(R:Hp)(b:Nat)(o:Obj)(R':outParam Hp):Prop where
 ok:(b,o)∈R'∧(∀ x∈R,x∈R')∧∀ x∈R',x=(b,o)∨x∈R
instance Ins.new(R:Hp)(b:Nat)(o:Obj):Ins R b o ((b,o)::R):=⟨by simp,fun x hx=>cX _ hx,fun x hx=>bZ.1 hx⟩
instance(priority:=1100) Ins.old (R:Hp) (b:Nat) (o:Obj) [h:At R b o]:Ins R b o R:=⟨h.mem,fun x hx=>hx,fun x hx=>.inr hx⟩
section
variable {P:Program}{C:Ctx}{Q:Exit→Fr→Hp→Prop}{ρ:Fr}{H H':Hp}{L l rest:List Oper}{o:Oper}{B:List Nat}{R R':Hp}{fuel:Nat}{listed:Array Bool}
theorem aGh{id:Nat}(B:List Nat)(h:SS P C l Q B [] l.length (Array.replicate l.length false) ρ H)(hm:P.follows .mixedOrders=true):SW P C (.region id l.toArray true) Q ρ H:=fun a w hf hs=>
 wp_region_any hm (tE.any _ _ _ _ _ (by
  have:=h a _ hf (hs.drawn (w.drawn+1)) (by simp)
  rw [sL]
  exact this))
def aB7(L:List Oper)(B:List Nat)(listed:Array Bool)(i:Nat):Bool:=
 Region.noSelect L.toArray&&Region.free .any L.toArray listed i&&(Region.ready .any L.toArray listed).contains i&&!B.contains i
def aB6(L:List Oper)(B:List Nat)(listed:Array Bool)(i:Nat)(Ws:List Nat):Bool:=
 aB7 L B listed i&&aNn L.toArray listed i Ws&&B.all fun t=>listed.getD t true||Ws.contains t
theorem aDU{v:Value}(i:Nat)(hi:L[i]?=some o)(hok:aB7 L B listed i=true)(hQ:∀ c ρ H,Q (.panic c) ρ H→False)
  (hy:∀ a,jV C.ds C.n ρ a→YieldsIf P L.toArray (Rk C []) o v a) {d:Option Nat} (hd:dk C.n o.dst=some d)
  (hk:SS P C L Q B R fuel (listed.setIfInBounds i true) (pt ρ d v) H):SS P C L Q B R (fuel+1) listed ρ H:=fun a w hf hs hr=>by
 simp only [aB7,bM,mH] at hok
 obtain⟨⟨⟨h1,h2⟩,h3⟩,h4⟩:=hok
 have hi':L.toArray[i]?=some o:=by simpa using hi
 exact tE.firstW hi' (Region.noSelect_spec h1) h4 (fun c a w ⟨ρ,H,_,_,h⟩=>(hQ c ρ H h).elim) fuel R listed a w (Region.free_spec hi' h2) (by simpa using h3) (hy a hf) (Rk.of hs hr) (hk _ w (hf.put hd v) hs hr)
theorem xA{v:Value}(i:Nat)(Ws:List Nat)(hi:L[i]?=some o)(hok:aB6 L B listed i Ws=true)(hQ:∀ c ρ H,Q (.panic c) ρ H→False)
  (hRR:∀ x∈R,x∈R') (hR:∀ x∈R',x∈R∨x∈H) (hy:∀ a,jV C.ds C.n ρ a→YieldsIf P L.toArray (Rk C R') o v a) {d:Option Nat} (hd:dk C.n o.dst=some d)
  (hk:SS P C L Q B R' fuel (listed.setIfInBounds i true) (pt ρ d v) H):SS P C L Q B R (fuel+1) listed ρ H:=fun a w hf hs hr=>by
 simp only [aB6,aB7,bM,mH] at hok
 obtain⟨⟨⟨⟨⟨h1,h2⟩,h3⟩,h4⟩,h5⟩,h6⟩:=hok
 have hi':L.toArray[i]?=some o:=by simpa using hi
 have hr':∀ x∈R',x∈H:=fun x hx=>(hR x hx).elim (hr x) id
 have h5':∀ k∈Ws,listed.getD k true=false∧∃ o,L.toArray[k]?=some o∧∃ e∈o.after,Region.binds .any e=true∧(e.on=i∨e.on∈Ws):=fun k hk=>by
  have:=tH.1 h5 k hk
  simp only [bM,mH] at this
  refine⟨this.1,?_⟩
  have h7:=this.2
  split at h7
  ·rename_i o2 ho2
   obtain⟨e,he,hb⟩:=Array.any_eq_true'.1 h7
   simp only [bM,Bool.or_eq_true] at hb
   exact⟨o2,ho2,e,he,hb.1,hb.2.imp kC (fun h=>by simpa using h)⟩
  ·cases h7
 refine tE.weaken _ R R' _ _ _ hRR (tE.first hi' (Region.noSelect_spec h1) (fun k hk=>(h5' k hk).2) h4 (fun c a w ⟨ρ,H,_,_,h⟩=>(hQ c ρ H h).elim) fuel listed a w (Region.free_spec hi' h2) (fun k hk=>(h5' k hk).1) (fun t ht=>?_) (by simpa using h3) (hy a hf) (Rk.of hs hr') (hk _ w (hf.put hd v) hs hr'))
 have:=tH.1 h6 t (by simpa using ht)
 simpa using this
theorem SS.done(h:Q .normal ρ H)(hr:(Region.ready .any L.toArray listed).isEmpty=true):SS P C L Q B R fuel listed ρ H:=fun a w hf hs _=>by
 have hr':Region.ready .any L.toArray listed=[]:=by simpa using hr
 have hq:sI C Q .normal a w:=⟨ρ,H,hf,hs,h⟩
 cases fuel with
 | zero=>exact⟨hr',hq⟩
 | succ f=>exact⟨fun _=>hq,by rw [hr'];simp⟩
def aCW(P:Program)(C:Ctx)(L:List Oper)(Q:Exit→Fr→Hp→Prop)(B:List Nat)(R:Hp)(fuel:Nat)(listed:Array Bool)(ρ':Fr)(H':Hp):Prop:=(∀ x∈R,x∈H')∧SS P C L Q B R fuel listed ρ' H'
theorem eB [hk:aBT R H](h:SS P C L Q B R fuel listed ρ H):SL P C L (thn (aCW P C L Q B R fuel listed) Q) [] ρ H:=jG ⟨hk.ok,h⟩
theorem aDT(is:List Nat)(hok:Region.ready .any L.toArray listed=is)(hne:is≠[])
  (h:∀ i∈is,∃ o,L[i]?=some o∧SL P C L (thn (aCW P C L Q B (nxt B R i) fuel (listed.setIfInBounds i true)) Q) [o] ρ H):SS P C L Q B R (fuel+1) listed ρ H:=fun a w hf hs hr=>
 ⟨fun h0=>absurd (hok▸h0) hne,fun k hk=>by
  obtain⟨o,hi,h⟩:=h k (hok▸hk)
  exact vI hi h hf hs fun ρ' H' a' w' ⟨hr',hsa⟩ hf' hs'=>⟨Rk.of hs' hr',hsa a' w' hf' hs' hr'⟩⟩
theorem pT(i:Nat)(h:SL P C L (thn (aCW P C L Q B R fuel (listed.setIfInBounds i true)) Q) [o] ρ H)(hi:L[i]?=some o)(hok:(Region.ready .any L.toArray listed == [i]&&!B.contains i)=true):SS P C L Q B R (fuel+1) listed ρ H:=by
 simp only [bM,mH,beq_iff_eq] at hok
 refine aDT [i] hok.1 (by simp) fun j hj=>?_
 rw [bU.1 hj,yG hok.2]
 exact⟨o,hi,h⟩
theorem aLa(i:Nat)(h:SL P C L (thn (aCW P C L Q B [] fuel (listed.setIfInBounds i true)) Q) [o] ρ H)(hi:L[i]?=some o)(hok:(Region.ready .any L.toArray listed == [i]&&B.contains i)=true):SS P C L Q B R (fuel+1) listed ρ H:=by
 simp only [bM,beq_iff_eq] at hok
 refine aDT [i] hok.1 (by simp) fun j hj=>?_
 rw [bU.1 hj,aMI hok.2]
 exact⟨o,hi,h⟩
theorem jA{o2:Oper}(i j:Nat)(h:SL P C L (thn (aCW P C L Q B R fuel (listed.setIfInBounds i true)) Q) [o] ρ H)(h2:SL P C L (thn (aCW P C L Q B R fuel (listed.setIfInBounds j true)) Q) [o2] ρ H)(hi:L[i]?=some o)(hj:L[j]?=some o2)(hok:(Region.ready .any L.toArray listed == [i,j]&&(!B.contains i&&!B.contains j))=true:=by kernel_rfl):SS P C L Q B R (fuel+1) listed ρ H:=by
 simp only [bM,mH,beq_iff_eq] at hok
 refine aDT [i,j] hok.1 (by simp) fun k hk=>?_
 rcases bZ.1 hk with rfl|hk
 ·rw [yG hok.2.1];exact⟨o,hi,h⟩
 ·rw [bU.1 hk,yG hok.2.2];exact⟨o2,hj,h2⟩
theorem dZ{v:Value}(i:Nat)(hi:L[i]?=some o)(h:Pu P C ρ [] o v){d':Option Nat}(hk:SS P C L Q B R fuel (listed.setIfInBounds i true) (pt ρ d' v) H)(hok:aB7 L B listed i=true:=by kernel_rfl)(hg:gd L ρ o=some true:=by exact rfl)(hd:dk C.n o.dst=some d':=by exact rfl)(hQ:∀ c ρ H,Q (.panic c) ρ H→False:=by exact fun _ _ _ h=>Fin.np h):SS P C L Q B R (fuel+1) listed ρ H:=
 aDU i hi hok hQ (fun a hf=>.inl ⟨gZ hf hg,fun w hr=>h a w hf hr.1⟩) hd hk
theorem aPT{v:Value}(i:Nat)(hi:L[i]?=some o){d':Option Nat}(hk:SS P C L Q B R fuel (listed.setIfInBounds i true) (pt ρ d' v) H)(h:Pu P C ρ [] o v:=by exact uA rfl rfl (by assumption) (by assumption) (by assumption))(hok:aB7 L B listed i=true:=by kernel_rfl)(hg:gd L ρ o=some true:=by exact rfl)(hd:dk C.n o.dst=some d':=by exact rfl)(hQ:∀ c ρ H,Q (.panic c) ρ H→False:=by exact fun _ _ _ h=>Fin.np h):SS P C L Q B R (fuel+1) listed ρ H:=dZ i hi h hk hok hg hd hQ
theorem aPS{v:Value}(i:Nat)(hi:L[i]?=some o){d':Option Nat}(hk:SS P C L Q B R fuel (listed.setIfInBounds i true) (pt ρ d' v) H)(h:Pu P C ρ [] o v:=by exact aA4 rfl rfl (by assumption) (by assumption) (by assumption) (by assumption))(hok:aB7 L B listed i=true:=by kernel_rfl)(hg:gd L ρ o=some true:=by exact rfl)(hd:dk C.n o.dst=some d':=by exact rfl)(hQ:∀ c ρ H,Q (.panic c) ρ H→False:=by exact fun _ _ _ h=>Fin.np h):SS P C L Q B R (fuel+1) listed ρ H:=dZ i hi h hk hok hg hd hQ
theorem dB{d':Option Nat}(i:Nat)(hi:L[i]?=some o)(hk:SS P C L Q B R fuel (listed.setIfInBounds i true) (pt ρ d' undef) H)(hok:aB7 L B listed i=true:=by kernel_rfl)(hg:gd L ρ o=some false:=by exact rfl)(hd:dk C.n o.dst=some d':=by exact rfl)(hQ:∀ c ρ H,Q (.panic c) ρ H→False:=by exact fun _ _ _ h=>Fin.np h):SS P C L Q B R (fuel+1) listed ρ H:=
 aDU i hi hok hQ (fun a hf=>.inr ⟨gZ hf hg,rfl⟩) hd hk
end
class Cv(k:IntKind)(m:Int)(r:outParam Int):Prop where
 ok:k.wrap m=r
section
variable {P:Program}{C:Ctx}{ρ:Fr}{H:Hp}{o:Oper}{t t' e n len cap b j i c:Nat}{x y z:Operand}{k kk:IntKind}{m q r:Int}{p:Option Addr}
theorem aAc(op:BinOp)(w:World)(a c:Bool):(eqGuard op t x y (.bool a) (.bool c)).run P w=.ok () w:=by
 cases op <;> simp [eqGuard]
theorem aBu{t:TypeId} [h:aBS P t](a c:Bool)(w:World):(Op.equal t (.bool a) (.bool c)).run P w=.ok (a == c) w:=by
 unfold Op.equal Op.maxDepth Op.equalIn;simp [run_underlying h.ok]
theorem aMK{a c:Bool} [aBS P t](ho:o.op=.binOp .eql t x y t')(hx:ev ρ x=some (.bool a))(hy:ev ρ y=some (.bool c)):Pu P C ρ H o (.bool (a == c)):=fun ac w hf _=>by
 unfold execOp;rw [ho];simp [hf.eval hx,hf.eval hy,aAc,binOp,aBu]
theorem aKb{a c:Bool} [aBS P t](ho:o.op=.binOp .neq t x y t')(hx:ev ρ x=some (.bool a))(hy:ev ρ y=some (.bool c)):Pu P C ρ H o (.bool (a != c)):=fun ac w hf _=>by
 unfold execOp;rw [ho];simp [hf.eval hx,hf.eval hy,aAc,binOp,aBu,bne]
theorem aGI{a c:Bool} [aBS P t](ho:o.op=.binOp .neq t x y t')(hx:ev ρ x=some (.bool a))(hy:ev ρ y=some (.bool c))(h:a=c):Pu P C ρ H o (.bool false):=by
 have:=aKb (P:=P) (C:=C) (H:=H) ho hx hy;subst h;simpa using this
theorem aPf [h1:mI P t k] [h2:mI P t' kk] [hc:Cv kk m r](ho:o.op=.convert t t' x)(hx:ev ρ x=some (.int k m)):Pu P C ρ H o (.int kk r):=
 aJ9 ho hx ⟨_,h1.ok⟩ h2.ok hc.ok
theorem aPg [h1:mI P t k] [h2:mI P t' .i64](ho:o.op=.convert t t' x)(hx:ev ρ x=some (.int k m))(hm : -9223372036854775808≤m∧m≤9223372036854775807):Pu P C ρ H o (.int .i64 m):=
 aJ9 ho hx ⟨_,h1.ok⟩ h2.ok (w64 hm)
theorem aPh [cI P t e n] [hi:eI m i] [ha:AdN j i n c](ho:o.op=.indexAddr t x y)(hx:ev ρ x=some (.slice (some ⟨b,j,none⟩) len cap))(hy:ev ρ y=some (.int k m))(h1:i<len):Pu P C ρ H o (.pointer (some ⟨b,c,none⟩)):=
 gY ho hx hy (by rw [hi.ok];omega) (by rw [hi.ok];omega) (by rw [hi.ok,aP];exact ha.ok)
theorem aML [kZ P t len e n] [hi:eI m i] [ha:AdN j i n c](ho:o.op=.indexAddr t x y)(hx:ev ρ x=some (.pointer (some ⟨b,j,none⟩)))(hy:ev ρ y=some (.int k m))(h1:i<len):Pu P C ρ H o (.pointer (some ⟨b,c,none⟩)):=
 aBy ho hx hy (by rw [hi.ok];omega) (by rw [hi.ok];omega) (by rw [hi.ok,aP];exact ha.ok)
theorem aHQ{b j cap l n c:Nat} [ha:AdN j l n c](h:l<cap):lR (some ⟨b,j,none⟩) cap l n=some ⟨b,c,none⟩:=by
 unfold lR
 rw [if_neg oQ]
 simp only [Option.map_some,lN,ha.ok]
theorem aOq(a:Option Addr)(cap n:Nat)(h:∀ x,a=some x→x.spot=none):lR a cap 0 n=a:=by
 unfold lR
 split
 ·rfl
 ·cases a with
  | none=>rfl
  | some x=>
   obtain⟨b,o,s⟩:=x
   have:=h _ rfl
   simp only at this
   subst this
   simp [lN]
theorem aN0{h:Nat} [cI P t e n] [hi:eI m h](ho:o.op=.slice t x none (some y) none)(hx:ev ρ x=some (.slice (some ⟨b,j,none⟩) len cap))(hy:ev ρ y=some (.int k m))(hh:h≤cap):Pu P C ρ H o (.slice (some ⟨b,j,none⟩) h cap):=by
 have:=oW (P:=P) (C:=C) (H:=H) (vl:=none) (vh:=none) ho hx (l:=0) (h:=h) (.inl ⟨rfl,rfl⟩) (.inr ⟨y,k,m,rfl,hy,hi.ok⟩) (Nat.zero_le _) hh
 rwa [aOq _ cap n (by rintro x hx;cases hx;rfl)] at this
theorem aKf{l:Nat} [cI P t e n] [hi:eI m l] [AdN j l n c](ho:o.op=.slice t x (some y) none none)(hx:ev ρ x=some (.slice (some ⟨b,j,none⟩) len cap))(hy:ev ρ y=some (.int k m))(hh:l≤len)(hc:l<cap)(hlc:len≤cap):Pu P C ρ H o (.slice (some ⟨b,c,none⟩) (len-l) (cap-l)):=by
 have:=oW (P:=P) (C:=C) (H:=H) (vl:=none) (vh:=none) ho hx (l:=l) (h:=len) (.inr ⟨y,k,m,rfl,hy,hi.ok⟩) (.inl ⟨rfl,rfl⟩) hh hlc
 rwa [aHQ hc] at this
theorem aEk{l h:Nat} [cI P t e n] [hi:eI m l] [hi2:eI q h] [AdN j l n c](ho:o.op=.slice t x (some y) (some z) none)(hx:ev ρ x=some (.slice (some ⟨b,j,none⟩) len cap))(hy:ev ρ y=some (.int k m))(hz:ev ρ z=some (.int kk q))(hh:l≤h∧h≤cap)(hc:l<cap):Pu P C ρ H o (.slice (some ⟨b,c,none⟩) (h-l) (cap-l)):=by
 have:=oW (P:=P) (C:=C) (H:=H) (vl:=none) (vh:=none) ho hx (l:=l) (h:=h) (.inr ⟨y,k,m,rfl,hy,hi.ok⟩) (.inr ⟨z,kk,q,rfl,hz,hi2.ok⟩) hh.1 hh.2
 rwa [aHQ hc] at this
theorem wE(op:BinOp)(w:World)(a c:ByteArray):(eqGuard op t x y (.string a) (.string c)).run P w=.ok () w:=by
 cases op <;> simp [eqGuard]
theorem aEh{a c:ByteArray}(ho:o.op=.binOp .eql t x y t')(hx:ev ρ x=some (.string a))(hy:ev ρ y=some (.string c)):Pu P C ρ H o (.bool (a.toList == c.toList)):=fun ac w hf _=>by
 unfold execOp;rw [ho];simp [hf.eval hx,hf.eval hy,wE,binOp,Op.stringOp]
theorem aEj{a c:ByteArray}(ho:o.op=.binOp .neq t x y t')(hx:ev ρ x=some (.string a))(hy:ev ρ y=some (.string c)):Pu P C ρ H o (.bool !(a.toList == c.toList)):=fun ac w hf _=>by
 unfold execOp;rw [ho];simp [hf.eval hx,hf.eval hy,wE,binOp,Op.stringOp]
end
section
variable {P:Program}{C:Ctx}{Q:Exit→Fr→Hp→Prop}{ρ:Fr}{H H':Hp}{L rest:List Oper}{d:Option Tmp}{ty:TypeId}{pos:String}{af:Array Edge}{g:Option (Nat×Bool)}{t t' t2 e n len cap b i j off c l h bytes:Nat}{d':Option Nat}{x y z:Operand}{v u sv:Value}{k kk:IntKind}{m q r:Int}{p:Option Addr}
theorem W.ma{zv:List Value} [cI P t e n] [fV P e bytes] [cN P e zv](hk:∀ b,SL P C L Q rest (pt ρ d' (.slice (some ⟨b,0,none⟩) l c)) ((b,cl (zs zv c) e)::H))(hx:ev ρ x=some (.int k m):=by exact rfl)(hy:ev ρ y=some (.int kk q):=by exact rfl)(hi:eI m l:=by infer_instance)(hj:eI q c:=by infer_instance)(hzn:zv.length=n:=by exact rfl)(hn:0<n:=by decide)(hlc:l≤c:=by omega)(hb:bytes*c≤281474976710656:=by omega)(hb1:1≤bytes:=by decide)(hg:gd L ρ ⟨d,.makeSlice t x y,ty,pos,af,g⟩=some true:=by exact rfl)(hd:dk C.n d=some d':=by exact rfl):SL P C L Q (⟨d,.makeSlice t x y,ty,pos,af,g⟩::rest) ρ H:=
 SL.make rfl hg hd hx hy hi.ok hj.ok hzn hn hlc hb hb1 hk
theorem W.ap{bytes mm:Nat}{xs ys zv:List Value}{Hs rr:Hp} [ht:cI P t e n] [fV P e bytes] [cN P e zv] [pJ P t2](hv:Sl e n v xs Hs) [hp:fA H Hs rr](hsrc:∀ w,St C.K C.w0 H w→eU P w sv n mm ys)(hk:∀ v' Hs',Sl e n v' (xs++ys) Hs'→SL P C L Q rest (pt ρ d' v') (Hs'++rr))(hx:ev ρ x=some v:=by exact rfl)(hy:ev ρ y=some sv:=by exact rfl)(hys:ys.length=mm*n:=by first|assumption|(simp;done)|omega)(hoc:OC ys:=by infer_instance)(hzn:zv.length=n:=by exact rfl)(hn:0<n:=by decide)(hb1:1≤bytes:=by decide)(hbytes:(xs.length+ys.length)*bytes≤140737488355328*n:=by omega)(hg:gd L ρ ⟨d,.call { callee:=.builtin .append,args:=#[x,y],argTypes:=#[t,t2] },ty,pos,af,g⟩=some true:=by exact rfl)(hd:dk C.n d=some d':=by exact rfl) :
  SL P C L Q (⟨d,.call { callee:=.builtin .append,args:=#[x,y],argTypes:=#[t,t2] },ty,pos,af,g⟩::rest) ρ H:=SL.append Hs rfl hg hd hx hy hv hsrc hys hzn hn hb1 hbytes hk
theorem aJi{zv:List Value} [cI P t e n] [cN P e zv](hk:∀ b,SL P C L Q rest (pt ρ d' (.slice (some ⟨b,0,none⟩) 0 0)) ((b,cl [] e)::H))(hzn:zv.length=n:=by exact rfl)(hn:0<n:=by decide)(hg:gd L ρ ⟨d,.buildSlice t 0 #[],ty,pos,af,g⟩=some true:=by exact rfl)(hd:dk C.n d=some d':=by exact rfl):SL P C L Q (⟨d,.buildSlice t 0 #[],ty,pos,af,g⟩::rest) ρ H:=
 iK (r:=[]) (vs:=[]) rfl hg hd rfl hzn hn rfl oQ hk
theorem iS{ln:Nat}{ps:Array (Nat×Operand)}{vs:List (Nat×Value)}{zv rv:List Value} [cI P t e n] [cN P e zv](hk:∀ b,SL P C L Q rest (pt ρ d' (.slice (some ⟨b,0,none⟩) ln ln)) ((b,cl rv e)::H))(hp:evp ρ ps.toList=some vs:=by exact rfl)(hr:bX (fun i=>some (i*n,n)) (zs zv ln) vs=some rv:=by first|assumption|exact rfl)(hzn:zv.length=n:=by exact rfl)(hn:0<n:=by decide)(hsm:ln*n≤16777216:=by decide)(hg:gd L ρ ⟨d,.buildSlice t ln ps,ty,pos,af,g⟩=some true:=by exact rfl)(hd:dk C.n d=some d':=by exact rfl):SL P C L Q (⟨d,.buildSlice t ln ps,ty,pos,af,g⟩::rest) ρ H:=
 iK rfl hg hd hp hzn hn hr hsm hk
theorem W.cy{mm:Nat}{lv ys:List Value}{T:TypeId} [cI P t e n](hsrc:∀ w,St C.K C.w0 H w→eU P w sv n mm ys)(hk:SL P C L Q rest (pt ρ d' (.int .i64 mm)) H')(hx:ev ρ x=some (.slice (some ⟨b,j,none⟩) len cap):=by exact rfl)(hy:ev ρ y=some sv:=by exact rfl)(hat:At H b (cl lv T):=by infer_instance)(hup:Upd H b (cl (lv.take j++ys++lv.drop (j+ys.length)) T) H':=by infer_instance)(hm:mm≤len:=by omega)(hoc:OC ys:=by infer_instance)(hfit:j+ys.length≤lv.length:=by first|assumption|omega)(hg:gd L ρ ⟨d,.call { callee:=.builtin .copy,args:=#[x,y],argTypes:=#[t,t2] },ty,pos,af,g⟩=some true:=by exact rfl)(hd:dk C.n d=some d':=by exact rfl):SL P C L Q (⟨d,.call { callee:=.builtin .copy,args:=#[x,y],argTypes:=#[t,t2] },ty,pos,af,g⟩::rest) ρ H:=by
 have e:Nat.min mm len=mm:=cR hm
 refine zQ (m:=mm) (l:=lv) (T:=T) (l':=lv.take j++ys++lv.drop (j+ys.length)) rfl hg hd hx hy (fun w hs=>?_) hfit rfl (by rw [e];exact hk)
 rw [e];exact hsrc w hs w rfl
end
theorem eU.own{P:Program}{K:List Nat}{w0 w:World}{H:Hp}{b o n m c:Nat}{l ys:List Value}{T:TypeId} [ha:At H b (cl l T)](hs:St K w0 H w)(hy:(l.drop o).take (m*n)=ys)(hl:ys.length=m*n):eU P w (.slice (some ⟨b,o,none⟩) m c) n m ys:=eU.block hs.at hy hl
theorem Rd.get{K:List Nat}{w:World}{n:Nat}{v:Value}{ys:List Value}(h:Rd K w n v ys):∃ a len cap,v=.slice a len cap∧ys.length=len*n∧len≤cap∧(0<len→∃ b o l T fz,a=some ⟨b,o,none⟩∧w.heap[b]?=some (.cells (List.toArray l) T fz)∧b∉K∧(l.drop o).take (len*n)=ys):=by
 obtain⟨a,len,cap,rfl,hl,hc,hb⟩:=h
 exact⟨a,len,cap,rfl,hl,hc,fun h0=>hb.resolve_left oQ⟩
theorem aAG{l ys:List Value}{o m k:Nat}{v:Value}(h:(l.drop o).take m=ys)(hk:ys[k]?=some v):l[o+k]?=some v:=by
 subst h
 rw [bE] at hk
 split at hk
 ·rwa [bI] at hk
 ·cases hk
theorem Fin.to{P:Program}{C:Ctx}{fn:Func}{R:Value→Hp→Prop}{e:Exit}{ρ:Fr}{H s:Hp}(H':Hp) [hp:fA H H' s](h:Fin P C fn R e ρ H'):Fin P C fn R e ρ H:=by
 have hq:=hp.perm
 cases e <;> first
  | exact h
  | (obtain⟨v,Hc,s2,h1,h2,h3⟩:=h;exact⟨v,Hc,s2++s,by rw [← aM];exact hq.trans (h1.append_right s),h2,fun a w hf hs=>h3 a w hf (hs.perm hq).drop⟩)
theorem aF4{α:Type}{l:List α}{k:Nat}{u:α}(h:l[k]?=some u):l.set k u=l:=by
 apply cB
 intro i
 rw [dT]
 split
 ·rename_i e;subst e
  rw [if_pos (aE.1 h).1,h]
 ·rfl
def u8(b:UInt8):Value:=.int .u8 (b.toNat:Int)
def zH(bs:List UInt8):ByteArray:=⟨bs.toArray⟩
theorem aBP(a b:List UInt8):((zH a).toList == (zH b).toList)=decide (a=b):=by
 rw [ByteArray.toList_eq,ByteArray.toList_eq]
 by_cases h:a=b <;> simp [zH,h]
theorem wG:∀ (bs:List UInt8) (s:ByteArray),(bs.map fun b=>(b.toNat:Int)).foldl (fun r n=>r.push (UInt8.ofNat n.toNat)) s=⟨(s.data.toList++bs).toArray⟩
 | [],s=>by obtain⟨⟨l⟩⟩:=s;simp
 | b::bs,s=>by
  simp only [dP,dS,aP]
  rw [wG bs,mJ]
  congr 1
  obtain⟨⟨l⟩⟩:=s
  simp [ByteArray.push]
section
variable {P:Program}{C:Ctx}{ρ:Fr}{H:Hp}{o:Oper}{t t' e n len cap b j i c:Nat}{x y z:Operand}{k kk:IntKind}{m q r:Int}{p:Option Addr}{v:Value}
theorem yI{vs:List Value}(ho:o.op=.extract x i)(hx:ev ρ x=some (.tuple vs.toArray))(hv:vs[i]?=some v):Pu P C ρ H o v:=fun a w hf _=>by
 unfold execOp;rw [ho];simp [hf.eval hx,Instr.extract,hv]
theorem uF{w:World}{P:Program}{a:Option Addr}{len cap m:Nat}{ys:List Value}(hs:eU P w (.slice a len cap) 1 m ys):m=len∧(a=none∧ys=[]∨∃ ad,a=some ad∧(loadCells ad len).run P w=.ok ys.toArray w):=by
 obtain⟨h1,h2⟩:=hs w rfl
 have hm:m=len:=by
  simp [Builtin.lenOf] at h1
  exact h1.symm
 subst hm
 refine⟨rfl,?_⟩
 cases a with
 | none=>left;simp [Builtin.firstCells] at h2;exact⟨rfl,by simpa using h2.symm⟩
 | some ad=>right;refine⟨ad,rfl,?_⟩;simpa [Builtin.firstCells] using h2
theorem aNR{a:Option Addr}{bs:List UInt8} [h1:cI P t e n] [h2:mI P e .u8] [h3:zV P t'](ho:o.op=.convert t t' x)(hx:ev ρ x=some (.slice a len cap))(hsrc:∀ w,St C.K C.w0 H w→eU P w (.slice a len cap) 1 m.toNat (bs.map fun b=>.int .u8 (b.toNat:Int))):Pu P C ρ H o (.string (zH bs)):=fun ac w hf hs=>by
 have key:=uF (hsrc w hs)
 unfold execOp;rw [ho]
 have hc:=run_convert_bytes_string (P:=P) w t t' e a len cap h1.ok h2.ok h3.ok
 have hb:(Conv.bytesToString (.slice a len cap)).run P w=.ok (.string (zH bs)) w:=by
  rcases key.2 with ⟨rfl,h⟩|⟨ad,rfl,h⟩
  ·have:bs=[]:=by simpa using h
   subst this
   simp [Conv.bytesToString];rfl
  ·have:=run_bytesToString (P:=P) w ad len cap (bs.map fun b=>(b.toNat:Int)) (by rw [h];simp)
   rw [this,wG];rfl
 rw [hb] at hc
 simp [hf.eval hx,hc]
end
section
variable {P:Program}{C:Ctx}{Q:Exit→Fr→Hp→Prop}{ρ:Fr}{H H':Hp}{L rest:List Oper}{d d2:Option Tmp}{ty ty2:TypeId}{pos pos2:String}{af af2:Array Edge}{g g2:Option (Nat×Bool)}{t t' e n len cap b i j off c:Nat}{d' d2':Option Nat}{x y z:Operand}{v u:Value}{k kk:IntKind}{m q r:Int}{l l':List Value}{T:TypeId}
theorem W.ex{vs:List Value}(h:SL P C L Q rest (pt ρ d' v) H)(hx:ev ρ x=some (.tuple vs.toArray):=by exact rfl)(hv:vs[i]?=some v:=by exact rfl)(hg:gd L ρ ⟨d,.extract x i,ty,pos,af,g⟩=some true:=by exact rfl)(hd:dk C.n d=some d':=by exact rfl):SL P C L Q (⟨d,.extract x i,ty,pos,af,g⟩::rest) ρ H:=bP (yI rfl hx hv) hg hd h
theorem aE3{a:Option Addr}{mm:Nat}{bs:List UInt8} [cI P t e n] [mI P e .u8] [zV P t'](hsrc:∀ w,St C.K C.w0 H w→eU P w (.slice a len cap) 1 mm (bs.map fun b=>.int .u8 (b.toNat:Int)))(h:SL P C L Q rest (pt ρ d' (.string (zH bs))) H)(hx:ev ρ x=some (.slice a len cap):=by exact rfl)(hg:gd L ρ ⟨d,.convert t t' x,ty,pos,af,g⟩=some true:=by exact rfl)(hd:dk C.n d=some d':=by exact rfl):SL P C L Q (⟨d,.convert t t' x,ty,pos,af,g⟩::rest) ρ H:=
 bP (aNR (m:=(mm:Int)) rfl hx (by simpa using hsrc)) hg hd h
theorem aOS{a c:ByteArray}(hk:SL P C L Q rest (pt ρ d' (.bool (a.toList == c.toList))) H)(hx:ev ρ x=some (.string a):=by exact rfl)(hy:ev ρ y=some (.string c):=by exact rfl)(hg:gd L ρ ⟨d,.binOp .eql t x y t',ty,pos,af,g⟩=some true:=by exact rfl)(hd:dk C.n d=some d':=by exact rfl):SL P C L Q (⟨d,.binOp .eql t x y t',ty,pos,af,g⟩::rest) ρ H:=bP (aEh rfl hx hy) hg hd hk
theorem aOV{a c:ByteArray}(hk:SL P C L Q rest (pt ρ d' (.bool !(a.toList == c.toList))) H)(hx:ev ρ x=some (.string a):=by exact rfl)(hy:ev ρ y=some (.string c):=by exact rfl)(hg:gd L ρ ⟨d,.binOp .neq t x y t',ty,pos,af,g⟩=some true:=by exact rfl)(hd:dk C.n d=some d':=by exact rfl):SL P C L Q (⟨d,.binOp .neq t x y t',ty,pos,af,g⟩::rest) ρ H:=bP (aEj rfl hx hy) hg hd hk
theorem aKC{w:World}{b o n c:Nat}{l:List Value}{T:TypeId} [ht:cI P t e 1] [he:mI P e .u8](hb:w.heap[b]?=some (cl l T)) :
  (convert t t (.slice (some ⟨b,o,none⟩) n c)).run P w=.ok (.slice (some ⟨b,o,none⟩) n c) (w.freeze ⟨b,l.length,none⟩ 1):=by
 have hsh:w.shape? b=some (T,l.length):=by unfold World.shape?;rw [hb];simp
 simp [convert,run_underlying ht.ok,run_underlying he.ok,markStringish,hsh]
theorem aBo(w:World)(b k i:Nat)(l:List Value)(T:TypeId)(hb:w.heap[b]?=some (cl l T)):(w.freeze ⟨b,k,none⟩ 1).heap[i]?=if i=b then some (.cells l.toArray T (k,k+1)) else w.heap[i]?:=by
 unfold World.freeze
 rw [if_neg dQ]
 show (w.heap.modify b _)[i]?=_
 rw [Array.getElem?_modify]
 by_cases h:b=i
 ·subst h;simp [hb]
 ·simp [h,Ne.symm h]
theorem W.mk [ht:cI P t e 1] [he:mI P e .u8](hk:SL P C L Q rest (pt ρ d' (.slice (some ⟨b,j,none⟩) n c)) H')(hx:ev ρ x=some (.slice (some ⟨b,j,none⟩) n c):=by exact rfl)(hat:At H b (cl l T):=by infer_instance)(hup:Upd H b (.cells l.toArray T (l.length,l.length+1)) H':=by infer_instance)(hg:gd L ρ ⟨d,.convert t t x,ty,pos,af,g⟩=some true:=by exact rfl)(hd:dk C.n d=some d':=by exact rfl):SL P C L Q (⟨d,.convert t t x,ty,pos,af,g⟩::rest) ρ H:=
 nH hg hd fun a w hf hs=>⟨_,w.freeze ⟨b,l.length,none⟩ 1,H',.inl (by unfold execOp;simp [hf.eval hx,aKC (P:=P) (t:=t) hs.at]),
  hs.set (b:=b) (o':=.cells l.toArray T (l.length,l.length+1)) (by unfold World.freeze;simp) (by rw [aBo w b _ b l T hs.at,if_pos rfl]) (fun k hk=>by rw [aBo w b _ k l T hs.at,if_neg hk]) rfl rfl rfl,hk⟩
theorem Rd.at{K:List Nat}{w0 w:World}{H:Hp}{b o n len cap:Nat}{l ys:List Value}{T:TypeId}{fz:Nat×Nat}(bs:List Nat){Hc r:Hp}(hs:St K w0 H w) [hp:Sel H bs Hc r] [ha:At r b (.cells l.toArray T fz)](hy:(l.drop o).take (len*n)=ys)(hl:ys.length=len*n)(hc:len≤cap):Rd bs w n (.slice (some ⟨b,o,none⟩) len cap) ys:=by
 have hs2:=hs.perm hp.perm
 have hm:=ha.mem
 refine⟨_,len,cap,rfl,hl,hc,.inr ⟨b,o,l,T,fz,rfl,hs2.own b _ (aN _ hm),fun hb=>?_,hy⟩⟩
 have hn:=hs2.nodup
 rw [aV] at hn
 rw [← hp.keys] at hb
 exact (fS.1 hn).2.2 b hb b (bH.2 ⟨_,hm,rfl⟩) rfl
end
theorem F.c0{P:Program}{C:Ctx}{ρ:Fr}{H:Hp}{fn:Func}{R:Value→Hp→Prop}{e:Exit}{t ty n b:Nat}{l:List Value}{T:TypeId}(l2:List Value)(hR:R (.agg l2.toArray) [])(he:e=.ret∨e=.normal:=by first|exact .inl rfl|exact .inr rfl)(hrs:fn.results=#[.cell t ty]:=by exact rfl)(ht:lk ρ t=some (.pointer (some ⟨b,0,none⟩)):=by exact rfl)(hat:At H b (cl l T):=by infer_instance)(hl:l=l2:=by first|assumption|exact rfl)(iR:fC P ty n:=by infer_instance)(hn:l2.length=n:=by first|assumption|exact rfl):Fin P C fn R e ρ H:=by
 subst hl
 exact Fin.c1 (Hc:=[]) he hrs ht hn hR
instance aBT.app(H A R r:Hp) [h1:fA H A r] [h2:aBT R H]:aBT (A++R) H:=⟨fun x hx=>by
 rcases bK.1 hx with hx|hx
 ·exact h1.perm.mem_iff.2 (aO _ hx)
 ·exact h2.ok x hx⟩
abbrev cbs(bs:List UInt8):List Value:=bs.map fun b=>.int .u8 (b.toNat:Int)
section
variable {P:Program}{C:Ctx}{ρ:Fr}{H:Hp}{o:Oper}{t t' e n len cap b j i c:Nat}{x y z:Operand}
theorem aHB{a c:ByteArray}(ho:o.op=.binOp .neq t x y t')(hx:ev ρ x=some (.string a))(hy:ev ρ y=some (.string c))(h:a=c):Pu P C ρ H o (.bool false):=by
 have:=aEj (P:=P) (C:=C) (H:=H) ho hx hy;subst h;simpa using this
theorem aLS{a c:ByteArray}(ho:o.op=.binOp .eql t x y t')(hx:ev ρ x=some (.string a))(hy:ev ρ y=some (.string c))(h:a=c):Pu P C ρ H o (.bool true):=by
 have:=aEh (P:=P) (C:=C) (H:=H) ho hx hy;subst h;simpa using this
theorem aAx{w:World}{a:Option Addr}{m:Nat}{bs:List UInt8} [h1:cI P t e n] [h2:mI P e .u8] [h3:zV P t'](hs:eU P w (.slice a len cap) 1 m (cbs bs)):(convert t t' (.slice a len cap)).run P w=.ok (.string (zH bs)) w:=by
 have key:=uF hs
 have hc:=run_convert_bytes_string (P:=P) w t t' e a len cap h1.ok h2.ok h3.ok
 rw [hc]
 rcases key.2 with ⟨rfl,h⟩|⟨ad,rfl,h⟩
 ·have:bs=[]:=by simpa using h
  subst this
  simp [Conv.bytesToString];rfl
 ·have:=run_bytesToString (P:=P) w ad len cap (bs.map fun b=>(b.toNat:Int)) (by rw [h];simp)
  rw [this,wG];rfl
end
section
variable {P:Program}{C:Ctx}{Q:Exit→Fr→Hp→Prop}{ρ:Fr}{H H':Hp}{L l rest:List Oper}{o:Oper}{B:List Nat}{R R':Hp}{fuel:Nat}{listed:Array Bool}
theorem aG6{t t' e n:Nat}{x:Operand}{v:Value}{bs:List UInt8}{Hs rr:Hp}(hv:Sl e 1 v (cbs bs) Hs) [hp:fA H Hs rr](i:Nat)(Ws:List Nat)(hi:L[i]?=some o){d':Option Nat}(hk:SS P C L Q B (Hs++R) fuel (listed.setIfInBounds i true) (pt ρ d' (.string (zH bs))) H)(hok:aB6 L B listed i Ws=true:=by kernel_rfl)(ho:o.op=.convert t t' x:=by exact rfl)(h1:cI P t e n:=by infer_instance)(h2:mI P e .u8:=by infer_instance)(h3:zV P t':=by infer_instance)(hx:ev ρ x=some v:=by exact rfl)(hg:gd L ρ o=some true:=by exact rfl)(hd:dk C.n o.dst=some d':=by exact rfl)(hQ:∀ c ρ H,Q (.panic c) ρ H→False:=by exact fun _ _ _ h=>Fin.np h):SS P C L Q B R (fuel+1) listed ρ H:=
 xA (R':=Hs++R) i Ws hi hok hQ (fun x hx=>aN _ hx) (fun x hx=>(bK.1 hx).elim (fun h=>.inr (hp.perm.mem_iff.2 (aO _ h))) .inl) (fun a hf=>.inl ⟨gZ hf hg,fun w hr=>by
  unfold execOp;rw [ho]
  rcases hv with ⟨rfl,hb,rfl⟩|⟨b,len,cap,junk,rfl,hl,hj,hlc,rfl⟩
  ·have:bs=[]:=by simpa using hb
   subst this
   simp [hf.eval hx,aAx (P:=P) (t:=t) (t':=t') (e:=e) (n:=n) (m:=0) (bs:=[]) (eU.empty w none 0 1)]
  ·have hb:w.heap[b]?=some (cl (cbs bs++junk) e):=hr.2 (b,cl (cbs bs++junk) e) (by simp)
   have hs:eU P w (.slice (some ⟨b,0,none⟩) len cap) 1 len (cbs bs):=eU.block hb (by rw [bR,← hl,cW];rfl) hl
   simp [hf.eval hx,aAx (P:=P) (t:=t) (t':=t') (e:=e) (n:=n) hs]⟩) hd hk
theorem aK9{t t' e n b j len cap:Nat}{x:Operand}{lv:List Value}{T:TypeId}{bs:List UInt8}(i:Nat)(Ws:List Nat)(hi:L[i]?=some o){d':Option Nat}(hy:(lv.drop j).take len=cbs bs)(hl:bs.length=len)(hk:SS P C L Q B R' fuel (listed.setIfInBounds i true) (pt ρ d' (.string (zH bs))) H)(hok:aB6 L B listed i Ws=true:=by kernel_rfl)(ho:o.op=.convert t t' x:=by exact rfl)(h1:cI P t e n:=by infer_instance)(h2:mI P e .u8:=by infer_instance)(h3:zV P t':=by infer_instance)(hx:ev ρ x=some (.slice (some ⟨b,j,none⟩) len cap):=by exact rfl)(hat:At H b (cl lv T):=by infer_instance)(hin:Ins R b (cl lv T) R':=by infer_instance)(hg:gd L ρ o=some true:=by exact rfl)(hd:dk C.n o.dst=some d':=by exact rfl)(hQ:∀ c ρ H,Q (.panic c) ρ H→False:=by exact fun _ _ _ h=>Fin.np h):SS P C L Q B R (fuel+1) listed ρ H:=
 xA i Ws hi hok hQ hin.ok.2.1 (fun x hx=>(hin.ok.2.2 x hx).elim (fun e=>.inr (e▸hat.mem)) .inl) (fun a hf=>.inl ⟨gZ hf hg,fun w hr=>by
  have hb:=hr.2 _ hin.ok.1
  have hs:eU P w (.slice (some ⟨b,j,none⟩) len cap) 1 len (cbs bs):=eU.block hb (by rw [Nat.mul_one];exact hy) (by simpa using hl)
  unfold execOp;rw [ho];simp [hf.eval hx,aAx (P:=P) (t:=t) (t':=t') (e:=e) (n:=n) hs]⟩) hd hk
end
section
variable {P:Program}{C:Ctx}{Q:Exit→Fr→Hp→Prop}{ρ:Fr}{H H':Hp}{L rest:List Oper}{d d2:Option Tmp}{ty ty2:TypeId}{pos pos2:String}{af af2:Array Edge}{g g2:Option (Nat×Bool)}{t t' e n:Nat}{d':Option Nat}{x:Operand}{v:Value}
theorem aDW{bs:List UInt8}{Hs rr:Hp} [cI P t e n] [mI P e .u8] [zV P t'](hv:Sl e 1 v (cbs bs) Hs) [hp:fA H Hs rr](h:SL P C L Q rest (pt ρ d' (.string (zH bs))) H)(hx:ev ρ x=some v:=by exact rfl)(hg:gd L ρ ⟨d,.convert t t' x,ty,pos,af,g⟩=some true:=by exact rfl)(hd:dk C.n d=some d':=by exact rfl):SL P C L Q (⟨d,.convert t t' x,ty,pos,af,g⟩::rest) ρ H:=by
 obtain⟨a,len,cap,rfl,hl⟩:=hv.form
 exact aE3 (mm:=len) (fun w hs=>hv.srcAt hs hp) h hx hg hd
end
theorem Rd.atH{K:List Nat}{w0 w:World}{H Hc r:Hp}{b o n len cap:Nat}{l ys:List Value}{T:TypeId}{fz:Nat×Nat}(hs:St K w0 H w)(hp:fA H (Hc++[(b,.cells l.toArray T fz)]) r)(hy:(l.drop o).take (len*n)=ys)(hl:ys.length=len*n)(hc:len≤cap):Rd (Hc.map Prod.fst) w n (.slice (some ⟨b,o,none⟩) len cap) ys:=by
 have hs2:=hs.perm hp.perm
 refine⟨_,len,cap,rfl,hl,hc,.inr ⟨b,o,l,T,fz,rfl,hs2.own b _ (by simp),fun hb=>?_,hy⟩⟩
 have hn:=hs2.nodup
 simp only [aV,aM] at hn
 exact (fS.1 hn).2.2 b hb b (by simp) rfl
instance(k:IntKind)(n:Int):OC (vl (.int k n)):=inferInstanceAs (OC [.int k n])
instance(a:Option Addr)(l c:Nat):OC (vl (.slice a l c)):=inferInstanceAs (OC [.slice a l c])
theorem tD(n:Int):IntKind.u32.wrap n=n%4294967296:=rfl
theorem uL(n:Int):IntKind.u8.wrap n=n%256:=rfl
theorem nC(n:Int):IntKind.u64.wrap n=n%18446744073709551616:=rfl
class U32(i:Int)(a:outParam UInt32):Prop where
 ok:i=(a.toNat:Int)
class U64(i:Int)(a:outParam UInt64):Prop where
 ok:i=(a.toNat:Int)
class U8(i:Int)(a:outParam UInt8):Prop where
 ok:i=(a.toNat:Int)
instance(a:UInt32):U32 (a.toNat:Int) a:=⟨rfl⟩
instance(a:UInt64):U64 (a.toNat:Int) a:=⟨rfl⟩
instance(a:UInt8):U8 (a.toNat:Int) a:=⟨rfl⟩
instance:U8 1 1:=⟨rfl⟩
instance:U32 256 256:=⟨rfl⟩
instance:U32 65536 65536:=⟨rfl⟩
instance:U32 16777216 16777216:=⟨rfl⟩
instance:U64 1 1:=⟨rfl⟩
instance:U64 8 8:=⟨rfl⟩
instance:U64 256 256:=⟨rfl⟩
instance:U64 4294967295 4294967295:=⟨rfl⟩
theorem aBL(a:UInt32):BitVec.ofInt IntKind.u32.bits (a.toNat:Int)=a.toBitVec:=by
 show BitVec.ofInt 32 _=_
 apply mC
 rw [iU]
 have:=a.toNat_lt
 show ((a.toNat:Int)%4294967296).toNat=a.toNat
 omega
theorem aHx(a:UInt64):BitVec.ofInt IntKind.u64.bits (a.toNat:Int)=a.toBitVec:=by
 show BitVec.ofInt 64 _=_
 apply mC
 rw [iU]
 have:=a.toNat_lt
 show ((a.toNat:Int)%18446744073709551616).toNat=a.toNat
 omega
theorem aHu(v:BitVec 32):IntKind.u32.wrap ((v.toNat:Nat):Int)=((UInt32.ofBitVec v).toNat:Int):=by
 rw [tD]
 have:v.toNat<4294967296:=v.isLt
 show _=((v.toNat:Nat):Int)
 omega
theorem aMH(v:BitVec 64):IntKind.u64.wrap ((v.toNat:Nat):Int)=((UInt64.ofBitVec v).toNat:Int):=by
 rw [nC]
 have:v.toNat<18446744073709551616:=v.isLt
 show _=((v.toNat:Nat):Int)
 omega
section
variable {m n:Int}
instance{a b:UInt32} [h1:U32 m a] [h2:U32 n b]:UAr .add .u32 m n ((a+b).toNat:Int):=⟨fun P w t=>by
 rw [h1.ok,h2.ok]
 have h:IntKind.u32.wrap ((a.toNat:Int)+b.toNat)=((a+b).toNat:Int):=by
  rw [tD,lA];simp
 simp [binOp,Op.intArith,h]⟩
instance{a b:UInt32} [h1:U32 m a] [h2:U32 n b]:UAr .mul .u32 m n ((a*b).toNat:Int):=⟨fun P w t=>by
 rw [h1.ok,h2.ok]
 have h:IntKind.u32.wrap ((a.toNat:Int)*b.toNat)=((a*b).toNat:Int):=by
  rw [tD,lB];simp
 simp [binOp,Op.intArith,h]⟩
instance{a b:UInt32} [h1:U32 m a] [h2:U32 n b]:UAr .and .u32 m n ((a &&& b).toNat:Int):=⟨fun P w t=>by
 rw [h1.ok,h2.ok]
 simp only [binOp,Op.intBits,ne_eq,not_true_eq_false,if_false,Sem.run_pure,aBL];exact congrArg (fun z=>Result.ok (Value.int .u32 z) w) (aHu _)⟩
instance{a b:UInt32} [h1:U32 m a] [h2:U32 n b]:UAr .or .u32 m n ((a ||| b).toNat:Int):=⟨fun P w t=>by
 rw [h1.ok,h2.ok]
 simp only [binOp,Op.intBits,ne_eq,not_true_eq_false,if_false,Sem.run_pure,aBL];exact congrArg (fun z=>Result.ok (Value.int .u32 z) w) (aHu _)⟩
instance{a b:UInt32} [h1:U32 m a] [h2:U32 n b]:UAr .xor .u32 m n ((a ^^^ b).toNat:Int):=⟨fun P w t=>by
 rw [h1.ok,h2.ok]
 simp only [binOp,Op.intBits,ne_eq,not_true_eq_false,if_false,Sem.run_pure,aBL];exact congrArg (fun z=>Result.ok (Value.int .u32 z) w) (aHu _)⟩
instance{a b:UInt64} [h1:U64 m a] [h2:U64 n b]:UAr .add .u64 m n ((a+b).toNat:Int):=⟨fun P w t=>by
 rw [h1.ok,h2.ok]
 have h:IntKind.u64.wrap ((a.toNat:Int)+b.toNat)=((a+b).toNat:Int):=by
  rw [nC,gT];simp
 simp [binOp,Op.intArith,h]⟩
instance{a b:UInt64} [h1:U64 m a] [h2:U64 n b]:UAr .mul .u64 m n ((a*b).toNat:Int):=⟨fun P w t=>by
 rw [h1.ok,h2.ok]
 have h:IntKind.u64.wrap ((a.toNat:Int)*b.toNat)=((a*b).toNat:Int):=by
  rw [nC,pM];simp
 simp [binOp,Op.intArith,h]⟩
instance{a b:UInt64} [h1:U64 m a] [h2:U64 n b]:UAr .and .u64 m n ((a &&& b).toNat:Int):=⟨fun P w t=>by
 rw [h1.ok,h2.ok]
 simp only [binOp,Op.intBits,ne_eq,not_true_eq_false,if_false,Sem.run_pure,aHx];exact congrArg (fun z=>Result.ok (Value.int .u64 z) w) (aMH _)⟩
instance{a b:UInt64} [h1:U64 m a] [h2:U64 n b]:UAr .or .u64 m n ((a ||| b).toNat:Int):=⟨fun P w t=>by
 rw [h1.ok,h2.ok]
 simp only [binOp,Op.intBits,ne_eq,not_true_eq_false,if_false,Sem.run_pure,aHx];exact congrArg (fun z=>Result.ok (Value.int .u64 z) w) (aMH _)⟩
class aGj(k:IntKind)(m n:Int)(r:outParam Int):Prop where
 ok:0≤n∧k.wrap (m*2^(min n.toNat k.bits))=r
class aH6(k:IntKind)(m n:Int)(r:outParam Int):Prop where
 ok:0≤n∧m.fdiv (2^(min n.toNat k.bits))=r
class aBU(n:Int)(k:outParam UInt32):Prop where
 ok:n=(k.toNat:Int)
 lt:k.toNat<32
class aH1(n:Int)(k:outParam UInt64):Prop where
 ok:n=(k.toNat:Int)
 lt:k.toNat<64
instance:aBU 3 3:=⟨rfl,by decide⟩
instance:aBU 8 8:=⟨rfl,by decide⟩
instance:aBU 10 10:=⟨rfl,by decide⟩
instance:aBU 16 16:=⟨rfl,by decide⟩
instance:aBU 24 24:=⟨rfl,by decide⟩
instance:aH1 1 1:=⟨rfl,by decide⟩
instance:aH1 32 32:=⟨rfl,by decide⟩
instance{a k:UInt32} [h1:U32 m a] [h2:aBU n k]:aGj .u32 m n ((a <<< k).toNat:Int):=⟨by
 rw [h1.ok,h2.ok]
 have hk:=h2.lt
 refine⟨by omega,?_⟩
 rw [tD,aP,cR (by show k.toNat≤32;omega),UInt32.toNat_shiftLeft,dO hk,jT]
 simp⟩
instance{a k:UInt32} [h1:U32 m a] [h2:aBU n k]:aH6 .u32 m n ((a >>> k).toNat:Int):=⟨by
 rw [h1.ok,h2.ok]
 have hk:=h2.lt
 refine⟨by omega,?_⟩
 rw [aP,cR (by show k.toNat≤32;omega),UInt32.toNat_shiftRight,dO hk,eZ,iL _ (by exact_mod_cast Nat.zero_le _)]
 simp⟩
instance{a k:UInt64} [h1:U64 m a] [h2:aH1 n k]:aGj .u64 m n ((a <<< k).toNat:Int):=⟨by
 rw [h1.ok,h2.ok]
 have hk:=h2.lt
 refine⟨by omega,?_⟩
 rw [nC,aP,cR (by show k.toNat≤64;omega),UInt64.toNat_shiftLeft,dO hk,jT]
 simp⟩
instance{a k:UInt64} [h1:U64 m a] [h2:aH1 n k]:aH6 .u64 m n ((a >>> k).toNat:Int):=⟨by
 rw [h1.ok,h2.ok]
 have hk:=h2.lt
 refine⟨by omega,?_⟩
 rw [aP,cR (by show k.toNat≤64;omega),UInt64.toNat_shiftRight,dO hk,eZ,iL _ (by exact_mod_cast Nat.zero_le _)]
 simp⟩
instance{a:UInt64} [h1:U64 m a]:Cv .u32 m (a.toUInt32.toNat:Int):=⟨by
 rw [h1.ok,tD,UInt64.toNat_toUInt32];simp⟩
instance{a:UInt64} [h1:U64 m a]:Cv .u8 m (a.toUInt8.toNat:Int):=⟨by
 rw [h1.ok,uL,UInt64.toNat_toUInt8];simp⟩
instance{a:UInt32} [h1:U32 m a]:Cv .u8 m (a.toUInt8.toNat:Int):=⟨by
 rw [h1.ok,uL,UInt32.toNat_toUInt8];simp⟩
instance{a:UInt32} [h1:U32 m a]:Cv .u64 m (a.toUInt64.toNat:Int):=⟨by
 rw [h1.ok,nC,UInt32.toNat_toUInt64];have:=a.toNat_lt;omega⟩
instance{a:UInt8} [h1:U8 m a]:Cv .u32 m (a.toUInt32.toNat:Int):=⟨by
 rw [h1.ok,tD,iH];have:=a.toNat_lt;omega⟩
instance(priority:=low)(n:Nat):Cv .u64 (n:Int) ((UInt64.ofNat n).toNat:Int):=⟨by
 rw [nC,aW];omega⟩
instance{a:UInt8} [h1:U8 m a]:Cv .u64 m (a.toUInt64.toNat:Int):=⟨by
 rw [h1.ok,nC,qB];have:=a.toNat_lt;omega⟩
end
section
variable {P:Program}{C:Ctx}{Q:Exit→Fr→Hp→Prop}{ρ:Fr}{H:Hp}{L rest:List Oper}{d:Option Tmp}{ty:TypeId}{pos:String}{af:Array Edge}{g:Option (Nat×Bool)}{t t':Nat}{d':Option Nat}{x y:Operand}{k kk:IntKind}{m q r:Int}
theorem aNQ{o:Oper}{a:UInt32} [h:U32 m a](ho:o.op=.unOp .xor t x)(hx:ev ρ x=some (.int .u32 m)):Pu P C ρ H o (.int .u32 ((~~~a).toNat:Int)):=fun ac w hf _=>by
 have hm:=h.ok
 subst hm
 have e:∀ z:BitVec 32,z=BitVec.allOnes 32→IntKind.u32.wrap (((z ^^^ a.toBitVec).toNat:Nat):Int)=((~~~a).toNat:Int):=fun z hz=>by
  subst hz
  refine (aHu _).trans ?_
  congr 1
 have e2:(Op.unary .xor (.int .u32 (a.toNat:Int)))=Op.intBits .xor .u32 (IntKind.u32.max) (a.toNat:Int):=rfl
 unfold execOp;rw [ho];simp only [hf.eval hx,Sem.run_bind,e2,Op.intBits,ne_eq,not_true_eq_false,if_false,Sem.run_pure,Result.andThen_ok,aBL]
 exact congrArg (fun z=>Result.ok (Next.value (Value.int .u32 z)) w) (e _ rfl)
class aMu(P:Program)(f:FuncId):Prop where
 ok : ∃ fn, P.funcs[f]? = some fn ∧ (fn.name == "runtime.NumGoroutine") = false ∧ fn.body.isNone = true ∧ Extern.findNext fn = none ∧ Extern.find fn = some add64Entry
theorem aLe{f:FuncId}{a b:UInt64}{ats:Array TypeId}{y:Operand} [hF:aMu P f](h:SL P C L Q rest (pt ρ d' (.tuple #[.int .u64 ((a+b).toNat:Int),.int .u64 (((a.toNat+b.toNat)/18446744073709551616:Nat):Int)])) H)
  (hx:ev ρ x=some (.int .u64 m):=by exact rfl) (i0:U64 m a:=by infer_instance) (hy:ev ρ y=some (.int .u64 q):=by exact rfl) (i1:U64 q b:=by infer_instance)
  (hg:gd L ρ ⟨d,.call { callee:=.value (.func f),args:=#[x,y,.const (.int .u64 0)],argTypes:=ats },ty,pos,af,g⟩=some true:=by exact rfl) (hd:dk C.n d=some d':=by exact rfl) :
  SL P C L Q (⟨d,.call { callee:=.value (.func f),args:=#[x,y,.const (.int .u64 0)],argTypes:=ats },ty,pos,af,g⟩::rest) ρ H:=
 bP (fun ac w hf _=>by
  obtain⟨fn,h1,h2,h3,h4,h5⟩:=hF.ok
  have e:=run_callFunc_extern (P:=P) h1 h2 h3 h4 h5 #[.int .u64 m,.int .u64 q,.int .u64 0] w
  have hm:=i0.ok
  have hq:=i1.ok
  subst hm hq
  rw [run_add64 _ _ _ oQ oQ oQ oQ] at e
  have hc:ac.eval (.const (.int .u64 0))=.int .u64 0:=rfl
  have hv:ac.eval (.func f)=.func (.func f) #[] #[]:=rfl
  unfold execOp
  simp only [resolve,Deferred.ofValue,hf.eval hx,hf.eval hy,hc,hv,List.map_toArray,dP,mX,Sem.run_bind,Sem.run_pure,Result.andThen_ok,invoke]
  rw [show (#[]++#[Value.int .u64 (a.toNat:Int),Value.int .u64 (b.toNat:Int),Value.int .u64 0]++#[]:Array Value)=#[Value.int .u64 (a.toNat:Int),Value.int .u64 (b.toNat:Int),Value.int .u64 0] from rfl,e]
  have e3:((a.toNat:Int)+b.toNat+0)%18446744073709551616=((a+b).toNat:Int):=by rw [gT];omega
  have e4:((a.toNat:Int)+b.toNat+0)/18446744073709551616=(((a.toNat+b.toNat)/18446744073709551616:Nat):Int):=oQ
  rw [e3,e4]
  rfl) hg hd h
end
section
variable {P:Program}{C:Ctx}{ρ:Fr}{H:Hp}{o:Oper}{t t' e n len cap b j i c:Nat}{d':Option Nat}{x y z:Operand}{k kk:IntKind}{m q r:Int}{l:List Value}{T:TypeId}{v:Value}
theorem aKa [fC P t n] [At H b (cl l T)](ho:o.op=.load t x)(hx:ev ρ x=some (.pointer (some ⟨b,0,none⟩)))(hn:l.length=n):Pu P C ρ H o (.agg l.toArray):=
 mS ho hx (by rw [bR,aK oQ]) hn
theorem aPO [kZ P t len e 1] [cG P e] [i0:eI m i](ho:o.op=.index t x y)(hx:ev ρ x=some (.agg l.toArray))(hy:ev ρ y=some (.int kk m))(hi:i<len)(hv:l[i]?=some v):Pu P C ρ H o v:=
 aLT ho hx hy (by have:=i0.ok;omega) (by have:=i0.ok;omega) (by rw [i0.ok,aP,Nat.mul_one];exact hv)
theorem aKe [i0:aH6 k m q r](ho:o.op=.binOp .shr t x y t')(hx:ev ρ x=some (.int k m))(hy:ev ρ y=some (.int kk q)):Pu P C ρ H o (.int k r):=aPl ho hx hy i0.ok.1 i0.ok.2
theorem aKd [i0:aGj k m q r](ho:o.op=.binOp .shl t x y t')(hx:ev ρ x=some (.int k m))(hy:ev ρ y=some (.int kk q)):Pu P C ρ H o (.int k r):=aPk ho hx hy i0.ok.1 i0.ok.2
theorem aNP(ho:o.op=.binOp .add t x y t')(hx:ev ρ x=some (.int .i64 m))(hy:ev ρ y=some (.int .i64 q))(hr : -9223372036854775808≤m+q∧m+q≤9223372036854775807):Pu P C ρ H o (.int .i64 (m+q)):=tV ho hx hy (w64 hr)
theorem aN1(ho:o.op=.binOp .sub t x y t')(hx:ev ρ x=some (.int .i64 m))(hy:ev ρ y=some (.int .i64 q))(hr : -9223372036854775808≤m-q∧m-q≤9223372036854775807):Pu P C ρ H o (.int .i64 (m-q)):=aDt ho hx hy (w64 hr)
theorem aNU(ho:o.op=.binOp .mul t x y t')(hx:ev ρ x=some (.int .i64 m))(hy:ev ρ y=some (.int .i64 q))(hr : -9223372036854775808≤m*q∧m*q≤9223372036854775807):Pu P C ρ H o (.int .i64 (m*q)):=kR ho hx hy (w64 hr)
theorem aPi(ho:o.op=.unOp .neg t x)(hx:ev ρ x=some (.int .i64 m))(hr : -9223372036854775807≤m∧m≤9223372036854775807):Pu P C ρ H o (.int .i64 (-m)):=fun ac w hf _=>by
 unfold execOp;rw [ho];simp [hf.eval hx,Op.unary,Op.intArith,w64 (n := -m) oQ]
theorem yJ [kZ P t len e n](ho:o.op=.slice t x none none none)(hx:ev ρ x=some (.pointer (some ⟨b,j,none⟩))):Pu P C ρ H o (.slice (some ⟨b,j,none⟩) len len):=by
 have:=sW (P:=P) (C:=C) (ρ:=ρ) (H:=H) (o:=o) (l:=0) (h:=len) ho hx (.inl ⟨rfl,rfl⟩) (.inl ⟨rfl,rfl⟩) (Nat.zero_le _) (Nat.le_refl _)
 simpa using this
theorem aNX{l:Nat} [cI P t e n] [hi:eI m l](ho:o.op=.slice t x (some y) none none)(hx:ev ρ x=some (.slice (some ⟨b,j,none⟩) len len))(hy:ev ρ y=some (.int k m))(hh:l=len):Pu P C ρ H o (.slice (some ⟨b,j,none⟩) 0 0):=by
 subst hh
 have:=oW (P:=P) (C:=C) (ρ:=ρ) (H:=H) (o:=o) (vl:=none) (vh:=none) ho hx (l:=l) (h:=l) (.inr ⟨y,k,m,rfl,hy,hi.ok⟩) (.inl ⟨rfl,rfl⟩) (Nat.le_refl _) (Nat.le_refl _)
 simpa [lR] using this
end
section
variable {P:Program}{C:Ctx}{Q:Exit→Fr→Hp→Prop}{ρ:Fr}{H:Hp}{L rest:List Oper}{d:Option Tmp}{ty:TypeId}{pos:String}{af:Array Edge}{g:Option (Nat×Bool)}{d':Option Nat}{v:Value}
theorem W.zl {t:TypeId} {x:Operand} (h:SL P C L Q rest (pt ρ d' v) H) (hg:gd L ρ ⟨d,.load t x,ty,pos,af,g⟩=some true:=by exact rfl) (hp:Pu P C ρ H ⟨d,.load t x,ty,pos,af,g⟩ v:=by first
  | exact jI rfl rfl (by first|exact rfl|assumption)
  | exact aKa rfl rfl (by first|assumption|exact rfl)
  | exact mS rfl rfl (by first|assumption|exact rfl) (by first|assumption|exact rfl)
  | exact uA rfl rfl (by assumption) (by assumption) (by first|exact rfl|assumption)
  | exact aA4 rfl rfl (by assumption) (by assumption) (by first|assumption|exact rfl) (by first|assumption|exact rfl)
  ) (hd:dk C.n d=some d':=by exact rfl):SL P C L Q (⟨d,.load t x,ty,pos,af,g⟩::rest) ρ H:=bP hp hg hd h
theorem W.zb {t t':TypeId} {x y:Operand} {bo:BinOp} (h:SL P C L Q rest (pt ρ d' v) H) (hg:gd L ρ ⟨d,.binOp bo t x y t',ty,pos,af,g⟩=some true:=by exact rfl) (hb:aFu bo=true:=by exact rfl) (hp:Pu P C ρ H ⟨d,.binOp bo t x y t',ty,pos,af,g⟩ v:=by first
  | exact Pu.t (yH rfl rfl rfl rfl) (by dsimp only [xX];first|done|omega)
  | exact Pu.f (yH rfl rfl rfl rfl) (by dsimp only [xX];first|done|omega)
  | exact aAl rfl rfl rfl
  | exact aAn rfl rfl rfl
  | exact tW rfl rfl rfl
  | exact uB rfl rfl rfl
  | exact aMK rfl rfl rfl
  | exact aKb rfl rfl rfl
  | exact aLS rfl rfl rfl rfl
  | exact aEh rfl rfl rfl
  | exact aEj rfl rfl rfl
  ) (hd:dk C.n d=some d':=by exact rfl):SL P C L Q (⟨d,.binOp bo t x y t',ty,pos,af,g⟩::rest) ρ H:=bP hp hg hd h
theorem W.za {t t':TypeId} {x y:Operand} {bo:BinOp} (h:SL P C L Q rest (pt ρ d' v) H) (hg:gd L ρ ⟨d,.binOp bo t x y t',ty,pos,af,g⟩=some true:=by exact rfl) (hb:aFu bo=false:=by exact rfl) (hp:Pu P C ρ H ⟨d,.binOp bo t x y t',ty,pos,af,g⟩ v:=by first
  | exact aNP rfl rfl rfl oQ
  | exact aN1 rfl rfl rfl oQ
  | exact aNU rfl rfl rfl oQ
  | exact aGJ rfl rfl rfl oQ oQ oQ
  | exact aKc rfl rfl rfl oQ oQ
  | exact aKd rfl rfl rfl
  | exact aKe rfl rfl rfl
  | exact aMN rfl rfl rfl
  ) (hd:dk C.n d=some d':=by exact rfl):SL P C L Q (⟨d,.binOp bo t x y t',ty,pos,af,g⟩::rest) ρ H:=bP hp hg hd h
theorem W.zc {bn:Go.Builtin} {xs:Array Operand} {ats:Array TypeId} (h:SL P C L Q rest (pt ρ d' v) H) (hg:gd L ρ ⟨d,.call { callee:=.builtin bn,args:=xs,argTypes:=ats },ty,pos,af,g⟩=some true:=by exact rfl) (hp:Pu P C ρ H ⟨d,.call { callee:=.builtin bn,args:=xs,argTypes:=ats },ty,pos,af,g⟩ v:=by first
  | exact qJ rfl rfl
  | exact aFM rfl rfl rfl rfl
  | exact aFL rfl rfl rfl rfl
  | exact tY rfl rfl
  | exact tZ rfl rfl
  | exact qI rfl rfl
  ) (hd:dk C.n d=some d':=by exact rfl):SL P C L Q (⟨d,.call { callee:=.builtin bn,args:=xs,argTypes:=ats },ty,pos,af,g⟩::rest) ρ H:=bP hp hg hd h
theorem W.zs {t:TypeId} {x:Operand} {lo hi:Option Operand} (h:SL P C L Q rest (pt ρ d' v) H) (hg:gd L ρ ⟨d,.slice t x lo hi none,ty,pos,af,g⟩=some true:=by exact rfl) (hp:Pu P C ρ H ⟨d,.slice t x lo hi none,ty,pos,af,g⟩ v:=by first
  | exact aN0 rfl rfl rfl oQ
  | exact aKf rfl rfl rfl oQ oQ oQ
  | exact aEk rfl rfl rfl rfl oQ oQ
  | exact aNX rfl rfl rfl oQ
  | exact yJ rfl rfl
  ) (hd:dk C.n d=some d':=by exact rfl):SL P C L Q (⟨d,.slice t x lo hi none,ty,pos,af,g⟩::rest) ρ H:=bP hp hg hd h
theorem W.zd {t:TypeId} {ps:Array (Nat×Operand)} (h:SL P C L Q rest (pt ρ d' v) H) (hg:gd L ρ ⟨d,.build t ps,ty,pos,af,g⟩=some true:=by exact rfl) (hp:Pu P C ρ H ⟨d,.build t ps,ty,pos,af,g⟩ v:=by first
  | exact pU rfl rfl (by first|assumption|exact rfl)
  | exact oC rfl rfl (by first|assumption|exact rfl)
  ) (hd:dk C.n d=some d':=by exact rfl):SL P C L Q (⟨d,.build t ps,ty,pos,af,g⟩::rest) ρ H:=bP hp hg hd h
theorem W.zf {t i:Nat} {x:Operand} (h:SL P C L Q rest (pt ρ d' v) H) (hg:gd L ρ ⟨d,.field t x i,ty,pos,af,g⟩=some true:=by exact rfl) (hp:Pu P C ρ H ⟨d,.field t x i,ty,pos,af,g⟩ v:=by first
  | exact sV rfl rfl (by first|exact rfl|assumption)
  | exact tX rfl rfl (by first|assumption|exact rfl)
  ) (hd:dk C.n d=some d':=by exact rfl):SL P C L Q (⟨d,.field t x i,ty,pos,af,g⟩::rest) ρ H:=bP hp hg hd h
theorem W.zv {t t':TypeId} {x:Operand} (h:SL P C L Q rest (pt ρ d' v) H) (hg:gd L ρ ⟨d,.convert t t' x,ty,pos,af,g⟩=some true:=by exact rfl) (hp:Pu P C ρ H ⟨d,.convert t t' x,ty,pos,af,g⟩ v:=by first
  | exact aPg rfl rfl oQ
  | exact aPf rfl rfl
  ) (hd:dk C.n d=some d':=by exact rfl):SL P C L Q (⟨d,.convert t t' x,ty,pos,af,g⟩::rest) ρ H:=bP hp hg hd h
theorem W.zu {t:TypeId} {x:Operand} {uo:UnOp} (h:SL P C L Q rest (pt ρ d' v) H) (hg:gd L ρ ⟨d,.unOp uo t x,ty,pos,af,g⟩=some true:=by exact rfl) (hp:Pu P C ρ H ⟨d,.unOp uo t x,ty,pos,af,g⟩ v:=by first
  | exact aFN rfl rfl
  | exact aPi rfl rfl oQ
  | exact aNQ rfl rfl
  ) (hd:dk C.n d=some d':=by exact rfl):SL P C L Q (⟨d,.unOp uo t x,ty,pos,af,g⟩::rest) ρ H:=bP hp hg hd h
theorem W.zp {x y z:Operand} (h:SL P C L Q rest (pt ρ d' v) H) (hg:gd L ρ ⟨d,.pick x y z,ty,pos,af,g⟩=some true:=by exact rfl) (hp:Pu P C ρ H ⟨d,.pick x y z,ty,pos,af,g⟩ v:=by first
  | exact wO rfl rfl rfl
  | exact wN rfl rfl rfl
  ) (hd:dk C.n d=some d':=by exact rfl):SL P C L Q (⟨d,.pick x y z,ty,pos,af,g⟩::rest) ρ H:=bP hp hg hd h
theorem W.zi {t:TypeId} {x y:Operand} (h:SL P C L Q rest (pt ρ d' v) H) (hg:gd L ρ ⟨d,.indexAddr t x y,ty,pos,af,g⟩=some true:=by exact rfl) (hp:Pu P C ρ H ⟨d,.indexAddr t x y,ty,pos,af,g⟩ v:=by first
  | exact aPh rfl rfl rfl oQ
  | exact aML rfl rfl rfl oQ
  ) (hd:dk C.n d=some d':=by exact rfl):SL P C L Q (⟨d,.indexAddr t x y,ty,pos,af,g⟩::rest) ρ H:=bP hp hg hd h
theorem W.zx {t:TypeId} {x y:Operand} (h:SL P C L Q rest (pt ρ d' v) H) (hg:gd L ρ ⟨d,.index t x y,ty,pos,af,g⟩=some true:=by exact rfl) (hp:Pu P C ρ H ⟨d,.index t x y,ty,pos,af,g⟩ v:=by first
  | exact aPO rfl rfl rfl oQ (by first|exact rfl|assumption)
  ) (hd:dk C.n d=some d':=by exact rfl):SL P C L Q (⟨d,.index t x y,ty,pos,af,g⟩::rest) ρ H:=bP hp hg hd h
end
def clo(L:List Oper)(listed:Array Bool)(i:Nat):List Nat:=
 (List.range L.length).foldl (fun acc j=>bif (!listed.getD j true&&match L[j]? with|some o=>o.after.any fun e=>Region.binds .any e&&(Nat.beq e.on i||acc.contains e.on)|none=>false) then acc++[j] else acc) []
def oP(P:Program)(C:Ctx)(L:List Oper)(B:List Nat)(R R' H:Hp)(i:Nat)(listed:Array Bool)(ρ:Fr)(o:Oper)(v:Value):Prop:=
 (aB7 L B listed i=true∧R'=R∧∀ a,jV C.ds C.n ρ a→YieldsIf P L.toArray (Rk C []) o v a) ∨
 (aB6 L B listed i (clo L listed i)=true∧(∀ x∈R,x∈R')∧(∀ x∈R',x∈R∨x∈H)∧∀ a,jV C.ds C.n ρ a→YieldsIf P L.toArray (Rk C R') o v a)
abbrev SG(P:Program)(C:Ctx)(L:List Oper)(Q:Exit→Fr→Hp→Prop)(B:List Nat)(S:List Nat)(R:Hp)(fuel:Nat)(listed:Array Bool)(ρ:Fr)(H:Hp):Prop:=SS P C L Q B R fuel listed ρ H
section
variable {P:Program}{C:Ctx}{Q:Exit→Fr→Hp→Prop}{ρ:Fr}{H:Hp}{L:List Oper}{o:Oper}{B:List Nat}{R R':Hp}{fuel i:Nat}{listed:Array Bool}{v:Value}
theorem oP.t(h:Pu P C ρ [] o v)(hg:gd L ρ o=some true)(hok:aB7 L B listed i=true):oP P C L B R R H i listed ρ o v:=
 .inl ⟨hok,rfl,fun a hf=>.inl ⟨gZ hf hg,fun w hr=>h a w hf hr.1⟩⟩
theorem oP.k(hg:gd L ρ o=some false)(hok:aB7 L B listed i=true):oP P C L B R R H i listed ρ o undef:=
 .inl ⟨hok,rfl,fun a hf=>.inr ⟨gZ hf hg,rfl⟩⟩
theorem oP.ls{t b j:Nat}{x:Operand}{lv:List Value}{T:TypeId}(hok:aB6 L B listed i (clo L listed i)=true)(ho:o.op=.load t x)(iT:cG P t)(hx:ev ρ x=some (.pointer (some ⟨b,j,none⟩)))(hat:At H b (cl lv T))(hin:Ins R b (cl lv T) R')(hv:lv[j]?=some v)(hg:gd L ρ o=some true):oP P C L B R R' H i listed ρ o v:=
 .inr ⟨hok,hin.ok.2.1,fun x hx=>(hin.ok.2.2 x hx).elim (fun e=>.inr (e▸hat.mem)) .inl,fun a hf=>.inl ⟨gZ hf hg,fun w hr=>by
  have hb:=hr.2 _ hin.ok.1
  unfold execOp;rw [ho];simp [hf.eval hx,Instr.loadAt,Instr.sureAddr,zG hb hv]⟩⟩
theorem oP.la{t n b j:Nat}{x:Operand}{lv r:List Value}{T:TypeId}(hok:aB6 L B listed i (clo L listed i)=true)(ho:o.op=.load t x)(iT:fC P t n)(hx:ev ρ x=some (.pointer (some ⟨b,j,none⟩)))(hat:At H b (cl lv T))(hin:Ins R b (cl lv T) R')(hv:(lv.drop j).take n=r)(hn:r.length=n)(hg:gd L ρ o=some true):oP P C L B R R' H i listed ρ o (.agg r.toArray):=
 .inr ⟨hok,hin.ok.2.1,fun x hx=>(hin.ok.2.2 x hx).elim (fun e=>.inr (e▸hat.mem)) .inl,fun a hf=>.inl ⟨gZ hf hg,fun w hr=>by
  have hb:=hr.2 _ hin.ok.1
  unfold execOp;rw [ho];simp [hf.eval hx,Instr.loadAt,Instr.sureAddr,nY hb hv hn]⟩⟩
theorem oP.lw{t n b:Nat}{x:Operand}{lv:List Value}{T:TypeId}(hok:aB6 L B listed i (clo L listed i)=true)(ho:o.op=.load t x)(iT:fC P t n)(hx:ev ρ x=some (.pointer (some ⟨b,0,none⟩)))(hat:At H b (cl lv T))(hin:Ins R b (cl lv T) R')(hn:lv.length=n)(hg:gd L ρ o=some true):oP P C L B R R' H i listed ρ o (.agg lv.toArray):=
 oP.la hok ho iT hx hat hin (by rw [bR,aK oQ]) hn hg
theorem SG.on(S:List Nat)(h:SG P C L Q B S R fuel listed ρ H):SS P C L Q B R fuel listed ρ H:=h
theorem SG.s {S:List Nat} {d':Option Nat} (hk:SG P C L Q B S R' fuel (listed.setIfInBounds i true) (pt ρ d' v) H) (hi:L[i]?=some o:=by exact rfl) (h:oP P C L B R R' H i listed ρ o v:=by first
  | exact oP.k rfl kQ
  | exact oP.t (by first
    | exact fB rfl rfl|exact rY rfl rfl|exact sA rfl rfl|exact gM rfl rfl OfN.ok
    | exact Pu.t (yH rfl rfl rfl rfl) (by dsimp only [xX];first|done|omega)|exact Pu.f (yH rfl rfl rfl rfl) (by dsimp only [xX];first|done|omega)
    | exact aAl rfl rfl rfl|exact aAn rfl rfl rfl|exact tW rfl rfl rfl|exact uB rfl rfl rfl
    | exact tV rfl rfl rfl (w64 oQ)|exact aDt rfl rfl rfl (w64 oQ)|exact kR rfl rfl rfl (w64 oQ)|exact aGJ rfl rfl rfl oQ oQ oQ|exact aKc rfl rfl rfl oQ oQ|exact aKd rfl rfl rfl|exact aKe rfl rfl rfl|exact aMN rfl rfl rfl
    | exact wO rfl rfl rfl|exact wN rfl rfl rfl|exact aFN rfl rfl|exact yI rfl rfl rfl|exact rZ rfl rfl rfl|exact aPf rfl rfl
    | exact sV rfl rfl (by first|rfl|assumption)|exact tX rfl rfl (by first|assumption|rfl)
    | exact pU rfl rfl (by first|assumption|rfl)|exact oC rfl rfl (by first|assumption|rfl)
    | exact aPh rfl rfl rfl oQ|exact aML rfl rfl rfl oQ
    | exact qJ rfl rfl|exact tY rfl rfl|exact tZ rfl rfl|exact qI rfl rfl|exact aFM rfl rfl rfl rfl|exact aFL rfl rfl rfl rfl) rfl kQ
  | exact oP.ls kQ rfl inferInstance rfl inferInstance inferInstance (by first|exact rfl|assumption) rfl
  | exact oP.t (uA rfl rfl (by assumption) (by assumption) (by assumption)) rfl kQ
  | exact oP.lw kQ rfl inferInstance rfl inferInstance inferInstance (by first|assumption|exact rfl) rfl
  | exact oP.la kQ rfl inferInstance rfl inferInstance inferInstance (by first|assumption|exact rfl) (by first|assumption|exact rfl) rfl
  | exact oP.t (aA4 rfl rfl (by assumption) (by assumption) (by assumption) (by assumption)) rfl kQ)
  (hd:dk C.n o.dst=some d':=by exact rfl) (hQ:∀ c ρ H,Q (.panic c) ρ H→False:=by exact fun _ _ _ h=>Fin.np h):SG P C L Q B (i::S) R (fuel+1) listed ρ H:=by
 rcases h with ⟨hok,rfl,hy⟩|⟨hok,hRR,hR,hy⟩
 ·exact aDU i hi hok hQ hy hd hk
 ·exact xA i _ hi hok hQ hRR hR hy hd hk
theorem SG.d{k:Nat}(h:Q .normal ρ H)(hk:L[k]?=none:=by exact rfl)(hr:(Region.ready .any L.toArray listed).isEmpty=true:=by kernel_rfl):SG P C L Q B [k] R fuel listed ρ H:=SS.done h hr
theorem SG.g{X G:Prop}(h:X)(hn:X→G:=by first|exact fun h=>SG.s h|exact fun h=>SG.d h):G:=hn h
theorem aMx{id:Nat}{l:List Oper}(B S:List Nat)(h:SG P C l Q B S [] l.length (Array.replicate l.length false) ρ H)(hm:P.follows .mixedOrders=true:=by kernel_rfl):SW P C (.region id l.toArray true) Q ρ H:=aGh B h hm
theorem bC(S:List Nat) [hk:aBT R H](h:SG P C L Q B S R fuel listed ρ H):SL P C L (thn (aCW P C L Q B R fuel listed) Q) [] ρ H:=eB h
end
section
attribute [local irreducible] SW SL SQ SH SA SS Pu Fin bT aQ
theorem W.g1 {X G:Prop} (h:X) (hn:X→G:=by first
  | exact fun h=>W.mv h|exact fun h=>W.zl h|exact fun h=>W.fa h|exact fun h=>W.nl h|exact fun h=>W.as h|exact fun h=>W.zb h|exact fun h=>W.za h|exact fun h=>W.zi h|exact fun h=>W.zc h|exact fun h=>W.zp h
  | exact fun h=>W.st h|exact fun h=>eB h|exact fun h=>jG h|exact fun h=>W.al h|exact fun h=>W.bx h|exact fun h=>aBl h|exact fun h=>W.sw h|exact fun h=>W.sa h|exact fun h=>W.sk h|exact fun h=>aJi h|exact fun h=>W.ma h|exact fun h=>iS h
  | exact fun h=>W.zu h|exact fun h=>W.zf h|exact fun h=>W.zd h|exact fun h=>W.zs h|exact fun h=>W.zv h|exact fun h=>W.zx h|exact fun h=>W.ex h|exact fun h=>W.mf h|exact fun h=>W.mk h):G:=hn h
theorem W.gb {X G:Prop} (h:X) (hn:X→G:=by first
  | exact fun h=>W.g1 h|exact fun h=>pL h|exact fun h=>mZ h|exact fun h=>aAO rfl h|exact fun h=>aAN rfl h|exact fun h=>aDV h|exact fun h=>aGi h|exact fun h=>SW.skip h):G:=hn h
theorem W.go {X G:Prop} (h:X) (hn:X→G:=by first
  | exact fun h=>W.gb h|exact fun h=>SW.block h):G:=hn h
theorem W.ow {X G:Prop} (h:X) (hn:X→G:=by first
  | (refine fun h=>sP ?_;first|exact zR rfl rfl h)
  | (refine fun h=>aDd ?_;first|exact bP (fB rfl rfl) rfl rfl h)
  | (refine fun h=>aBk ?_;first|exact bP (rY rfl rfl) rfl rfl h)
  | (refine fun h=>aE0 ?_;first|exact bP (sA rfl rfl) rfl rfl h)
  | (refine fun h=>aDa ?_;first|exact bP (gM rfl rfl rfl) rfl rfl h)
  | (refine fun h=>aDb ?_;first|exact bP (jI rfl rfl rfl) rfl rfl h|exact bP (jI rfl rfl (by assumption)) rfl rfl h|exact bP (mS rfl rfl rfl rfl) rfl rfl h|exact bP (mS rfl rfl (by assumption) (by assumption)) rfl rfl h)
  | (refine fun h=>aBY ?_;first|exact bP (qJ rfl rfl) rfl rfl h|exact bP (tZ rfl rfl) rfl rfl h|exact bP (tY rfl rfl) rfl rfl h|exact bP (qI rfl rfl) rfl rfl h|exact bP (aFL rfl rfl rfl rfl) rfl rfl h|exact bP (aFM rfl rfl rfl rfl) rfl rfl h)
  | (refine fun h=>aDe ?_;first|exact bP (wO rfl rfl rfl) rfl rfl h|exact bP (wN rfl rfl rfl) rfl rfl h)
  | (refine fun h=>aDc ?_;first|exact bP (rZ rfl rfl rfl) rfl rfl h)
  | (refine fun h=>aG5 ?_;first|exact bP (aFN rfl rfl) rfl rfl h)
  | (refine fun h=>aBX ?_;first|exact bP (pU rfl rfl (by rfl)) rfl rfl h|exact bP (oC rfl rfl (by rfl)) rfl rfl h)
  | (refine fun h=>aEZ ?_;first|exact bP (sV rfl rfl rfl) rfl rfl h|exact bP (sV rfl rfl (by assumption)) rfl rfl h|exact bP (tX rfl rfl rfl) rfl rfl h)
  | (refine fun h=>aEM ?_;first|exact bP (tV rfl rfl rfl (w64 oQ)) rfl rfl h)
  | (refine fun h=>aEW ?_;first|exact bP (aDt rfl rfl rfl (w64 oQ)) rfl rfl h)
  | (refine fun h=>aES ?_;first|exact bP (kR rfl rfl rfl (w64 oQ)) rfl rfl h)
  | (refine fun h=>aEU ?_;first|exact bP (aCv rfl rfl rfl dQ (w64 oQ)) rfl rfl h)
  | (refine fun h=>aEV ?_;first|exact bP (aCw rfl rfl rfl dQ rfl) rfl rfl h)
  | (refine fun h=>aER ?_;first|exact bP (Pu.t (pH rfl rfl rfl) oQ) rfl rfl h|exact bP (Pu.f (pH rfl rfl rfl) oQ) rfl rfl h)
  | (refine fun h=>aEQ ?_;first|exact bP (Pu.t (pG rfl rfl rfl) oQ) rfl rfl h|exact bP (Pu.f (pG rfl rfl rfl) oQ) rfl rfl h)
  | (refine fun h=>aEP ?_;first|exact bP (Pu.t (pF rfl rfl rfl) oQ) rfl rfl h|exact bP (Pu.f (pF rfl rfl rfl) oQ) rfl rfl h)
  | (refine fun h=>aEO ?_;first|exact bP (Pu.t (pE rfl rfl rfl) oQ) rfl rfl h|exact bP (Pu.f (pE rfl rfl rfl) oQ) rfl rfl h)
  | (refine fun h=>aEN ?_;first|exact bP (aAl rfl rfl rfl) rfl rfl h|exact bP (tW rfl rfl rfl) rfl rfl h|exact bP (Pu.t (nE rfl rfl rfl) oQ) rfl rfl h|exact bP (Pu.f (nE rfl rfl rfl) oQ) rfl rfl h)
  | (refine fun h=>aET ?_;first|exact bP (aAn rfl rfl rfl) rfl rfl h|exact bP (uB rfl rfl rfl) rfl rfl h|exact bP (Pu.t (pI rfl rfl rfl) oQ) rfl rfl h|exact bP (Pu.f (pI rfl rfl rfl) oQ) rfl rfl h)
  | (refine fun h=>aEY ?_;first|exact aGb rfl rfl rfl rfl h|exact aBV rfl rfl rfl rfl h)
  | (refine fun h=>aBW ?_;first|exact SL.alloc rfl rfl rfl h)
  | (refine fun h=>aBZ ?_;first|exact SL.store rfl rfl rfl rfl rfl (by first|assumption|exact fK rfl) h|exact yQ rfl rfl rfl rfl rfl (by first|assumption|rfl) (by rfl) h|exact uN rfl rfl rfl rfl rfl (by first|rfl|assumption) (by first|assumption|exact fK rfl) (by first|assumption|rfl) h)
  | exact fun h=>jG h
  | exact fun h=>pL h
  | exact fun h=>mZ h
  | exact fun h=>SW.block h
  | exact fun h=>aAO rfl h
  | exact fun h=>aAN rfl h
  | exact fun h=>aGi h
  | exact fun h=>SW.skip h
  | exact fun h=>aDV h):G:=hn h
structure Imp(X G:Prop):Prop where
 f:X→G
theorem Imp.r{X:Prop}:Imp X X:=⟨id⟩
theorem W.t{X Y G:Prop}(hn:Y→G)(k:Imp X Y):Imp X G:=⟨fun h=>hn (k.f h)⟩
theorem W.tl{Y S:Nat→Prop}(k:∀ b,Imp (Y b) (S b)):Imp (∀ b,Y b) (∀ b,S b):=⟨fun h b=>(k b).f (h b)⟩
theorem W.i{X G:Prop}(h:X)(hn:Imp X G:=by (repeat' (first|(apply W.t;· exact fun h=>W.g1 h)|(apply W.tl;intro b_)|fail));exact Imp.r):G:=hn.f h
theorem W.j{X G:Prop}(h:X)(hn:Imp X G:=by (repeat' (first|(apply W.t;· exact fun h=>W.gb h)|(apply W.tl;intro b_)|fail));exact Imp.r):G:=hn.f h
theorem W.k{X G:Prop}(h:X)(hn:Imp X G:=by (repeat' (first|(apply W.t;· exact fun h=>W.go h)|(apply W.tl;intro b_)|fail));exact Imp.r):G:=hn.f h
theorem W.o{X G:Prop}(h:X)(hn:Imp X G:=by (repeat' (first|(apply W.t;· exact fun h=>W.ow h)|(apply W.tl;intro b_)|fail));exact Imp.r):G:=hn.f h
section
variable {P:Program}{C:Ctx}{Q:Exit→Fr→Hp→Prop}{ρ:Fr}{H R:Hp}{L rest:List Oper}{o:Oper}{B:List Nat}{fuel:Nat}{listed:Array Bool}{d:Option Tmp}{d':Option Nat}{ty:TypeId}{pos:String}{af:Array Edge}{g:Option (Nat×Bool)}
theorem W.cq{f:FuncId}{xs:Array Operand}{ats:Array TypeId}{vs:List Value}{Hc rr K:Hp}{Pre:World→Prop}{v:Value} [bD P f](ht:Tri P f vs Hc Pre fun v' H'=>v'=v∧H'=K) [fA H Hc rr](hk:SL P C L Q rest (pt ρ d' v) (K++rr))(hx:evs ρ xs.toList=some vs:=by exact rfl)(hpre:∀ w,St C.K C.w0 H w→Pre w:=by exact fun _ _=>trivial)(hg:gd L ρ ⟨d,.call { callee:=.value (.func f),args:=xs,argTypes:=ats },ty,pos,af,g⟩=some true:=by exact rfl)(hd:dk C.n d=some d':=by exact rfl) :
  SL P C L Q (⟨d,.call { callee:=.value (.func f),args:=xs,argTypes:=ats },ty,pos,af,g⟩::rest) ρ H:=aF ht (fun _ _ h=>h.1▸h.2▸hk) hx hpre hg hd
theorem W.cw{f:FuncId}{xs:Array Operand}{ats:Array TypeId}{vs:List Value}{Hc rr K:Hp}{Pre:World→Prop}{v:Value}{X:Prop} [bD P f](ht:Tri P f vs Hc Pre fun v' H'=>v'=v∧H'=K) [fA H Hc rr](h:X)(hx:evs ρ xs.toList=some vs:=by exact rfl)(hpre:∀ w,St C.K C.w0 H w→Pre w:=by exact fun _ _=>trivial)(hg:gd L ρ ⟨d,.call { callee:=.value (.func f),args:=xs,argTypes:=ats },ty,pos,af,g⟩=some true:=by exact rfl)(hd:dk C.n d=some d':=by exact rfl)(hn:Imp X (SL P C L Q rest (pt ρ d' v) (K++rr)):=by (repeat' (first|(apply W.t;· exact fun h=>W.go h)|(apply W.tl;intro b_)|fail));exact Imp.r) :
  SL P C L Q (⟨d,.call { callee:=.value (.func f),args:=xs,argTypes:=ats },ty,pos,af,g⟩::rest) ρ H:=W.cq ht (hn.f h) hx hpre hg hd
theorem bA(i:Nat)(h:SL P C L (thn (aCW P C L Q B R fuel (listed.setIfInBounds i true)) Q) [o] ρ H)(hi:L[i]?=some o:=by exact rfl)(hok:(Region.ready .any L.toArray listed == [i]&&!B.contains i)=true:=by kernel_rfl):SS P C L Q B R (fuel+1) listed ρ H:=pT i h hi hok
theorem bO(i:Nat)(h:SL P C L (thn (aCW P C L Q B [] fuel (listed.setIfInBounds i true)) Q) [o] ρ H)(hi:L[i]?=some o:=by exact rfl)(hok:(Region.ready .any L.toArray listed == [i]&&B.contains i)=true:=by kernel_rfl):SS P C L Q B R (fuel+1) listed ρ H:=aLa i h hi hok
theorem SS.dn(h:Q .normal ρ H)(hr:(Region.ready .any L.toArray listed).isEmpty=true:=by kernel_rfl):SS P C L Q B R fuel listed ρ H:=SS.done h hr
theorem SW.l{X:Prop}{id:Nat}{l:List Oper}(B S:List Nat)(h:X)(hn:Imp X (SG P C l Q B S [] l.length (Array.replicate l.length false) ρ H):=by (repeat' (first|(apply W.t;· exact fun h=>SG.g h)|fail));exact Imp.r)(hm:P.follows .mixedOrders=true:=by kernel_rfl):SW P C (.region id l.toArray true) Q ρ H:=aMx B S (hn.f h) hm
theorem SL.l{X:Prop}(S:List Nat) [hk:aBT R H](h:X)(hn:Imp X (SG P C L Q B S R fuel listed ρ H):=by (repeat' (first|(apply W.t;· exact fun h=>SG.g h)|fail));exact Imp.r):SL P C L (thn (aCW P C L Q B R fuel listed) Q) [] ρ H:=bC S (hn.f h)
theorem SG.l{X:Prop}(S:List Nat)(h:X)(hn:Imp X (SG P C L Q B S R fuel listed ρ H):=by (repeat' (first|(apply W.t;· exact fun h=>SG.g h)|fail));exact Imp.r):SS P C L Q B R fuel listed ρ H:=hn.f h
end
theorem F.n{G:Prop}(h:G:=by refine Fin.to [] ?_;exact F.f1 ⟨rfl,rfl⟩):G:=h
end
end Go.Proofs.YtnhnpjokpelkbaaGreat
