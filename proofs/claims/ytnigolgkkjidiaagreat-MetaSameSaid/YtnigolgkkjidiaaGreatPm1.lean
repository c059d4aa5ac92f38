/- The walk's laws in short: what is plain is found by itself. A region that draws its order: what only reads is taken as early as it can be; what was read stays as it is till it must have been read. More of what is plain: bools, conversions, indexes, parts of slices, texts. Making and growing slices, copies. Tuples, bytes as texts, and constants that are bytes. Bytes that become texts, in regions that draw their order. Words of 32 and 64 bits: their operations, shifts and conversions. One law for all operations that only compute. A region that draws its order: what is taken, one by one, of a list. One law for every plain step of a walk. One law for every plain step of the older walks. -/
import Derived.Test.YtnigolgkkjidiaaGreatPm0
import Derived.KernelRfl
import Derived.Laws.BytesString
import Derived.Lib.SlBytesConst
set_option linter.unusedVariables false
set_option linter.unusedSimpArgs false
set_option linter.unusedSectionVars false
namespace Go.Proofs.YtnigolgkkjidiaaGreat
open Go
class NatI(i:Int)(k:outParam Nat):Prop where
 ok:i=(k:Int)
instance NatI.cast(k:Nat):NatI (k:Int) k:=⟨rfl⟩
instance:NatI 0 0:=⟨rfl⟩
instance:NatI 1 1:=⟨rfl⟩
instance:NatI 2 2:=⟨rfl⟩
instance:NatI 3 3:=⟨rfl⟩
instance:NatI 4 4:=⟨rfl⟩
instance:NatI 5 5:=⟨rfl⟩
instance:NatI 6 6:=⟨rfl⟩
instance:NatI 7 7:=⟨rfl⟩
instance:NatI 8 8:=⟨rfl⟩
instance:NatI 12 12:=⟨rfl⟩
instance:NatI 13 13:=⟨rfl⟩
instance:NatI 16 16:=⟨rfl⟩
instance:NatI 32 32:=⟨rfl⟩
instance:NatI 64 64:=⟨rfl⟩
instance:NatI 70 70:=⟨rfl⟩
instance:NatI 256 256:=⟨rfl⟩
instance NatI.add(a b:Int)(x y:Nat) [h1:NatI a x] [h2:NatI b y]:NatI (a+b) (x+y):=⟨by rw [h1.ok,h2.ok];rfl⟩
instance NatI.mul(a b:Int)(x y:Nat) [h1:NatI a x] [h2:NatI b y]:NatI (a*b) (x*y):=⟨by rw [h1.ok,h2.ok];rfl⟩
instance NatI.div(a b:Int)(x y:Nat) [h1:NatI a x] [h2:NatI b y]:NatI (a/b) (x/y):=⟨by rw [h1.ok,h2.ok];rfl⟩
instance NatI.mod(a b:Int)(x y:Nat) [h1:NatI a x] [h2:NatI b y]:NatI (a%b) (x%y):=⟨by rw [h1.ok,h2.ok];rfl⟩
instance NatI.cadd(x y:Nat):NatI ((x+y:Nat):Int) (x+y):=⟨rfl⟩
class AdN(j k n:Nat)(r:outParam Nat):Prop where
 ok:j+k*n=r
instance AdN.all(j k n:Nat):AdN j k n (j+k*n):=⟨rfl⟩
instance(priority:=1010) AdN.one (j k:Nat):AdN j k 1 (j+k):=⟨by omega⟩
instance(priority:=1020) AdN.zero (k n:Nat):AdN 0 k n (k*n):=⟨by omega⟩
instance(priority:=1030) AdN.zone (k:Nat):AdN 0 k 1 k:=⟨by omega⟩
class OfN(j off:Nat)(r:outParam Nat):Prop where
 ok:j+off=r
instance OfN.all(j off:Nat):OfN j off (j+off):=⟨rfl⟩
instance(priority:=1010) OfN.z (j:Nat):OfN j 0 j:=⟨rfl⟩
instance(priority:=1020) OfN.z2 (off:Nat):OfN 0 off off:=⟨by omega⟩
def cmpP:BinOp→Int→Int→Prop
 | .lss,m,n=>m<n
 | .leq,m,n=>m≤n
 | .gtr,m,n=>n<m
 | .geq,m,n=>n≤m
 | .eql,m,n=>m=n
 | .neq,m,n=>m≠n
 | _,_,_=>False
instance(b:BinOp)(m n:Int):Decidable (cmpP b m n):=
 match b with
 | .lss=>inferInstanceAs (Decidable (m<n))
 | .leq=>inferInstanceAs (Decidable (m≤n))
 | .gtr=>inferInstanceAs (Decidable (n<m))
 | .geq=>inferInstanceAs (Decidable (n≤m))
 | .eql=>inferInstanceAs (Decidable (m=n))
 | .neq=>inferInstanceAs (Decidable (m≠n))
 | .add|.sub|.mul|.quo|.rem|.and|.or|.xor|.shl|.shr|.andNot=>inferInstanceAs (Decidable False)
def isCmp:BinOp→Bool
 | .lss|.leq|.gtr|.geq|.eql|.neq=>true
 | _=>false
class UAr(b:BinOp)(k:IntKind)(m n:Int)(r:outParam Int):Prop where
 ok:∀ (P:Program) (w:World) (t:TypeId),(binOp b t (.int k m) (.int k n)).run P w=.ok (.int k r) w
section
variable {P:Program}{C:Ctx}{ρ:Fr}{H:Hp}{o:Oper}{t t':TypeId}{x y:Operand}{k:IntKind}{m n r:Int}
theorem p_cmp{b:BinOp}(ho:o.op=.binOp b t x y t')(hb:isCmp b=true)(hx:ev ρ x=some (.int k m))(hy:ev ρ y=some (.int k n)):Pu P C ρ H o (.bool (decide (cmpP b m n))):=by
 cases b <;> first|cases hb|skip
 ·exact p_eql ho hx hy
 ·exact p_neq ho hx hy
 ·exact p_lss ho hx hy
 ·exact p_leq ho hx hy
 ·exact p_gtr ho hx hy
 ·exact p_geq ho hx hy
theorem p_uar{b:BinOp} [h:UAr b k m n r](ho:o.op=.binOp b t x y t')(hx:ev ρ x=some (.int k m))(hy:ev ρ y=some (.int k n)):Pu P C ρ H o (.int k r):=fun a w hf _=>by
 unfold execOp;rw [ho];simp only [hf.eval hx,hf.eval hy,Sem.run_bind,eqGuard_int,Result.andThen_ok,h.ok,Sem.run_pure]
theorem p_quoP(ho:o.op=.binOp .quo t x y t')(hx:ev ρ x=some (.int .i64 m))(hy:ev ρ y=some (.int .i64 n))(h0:0≤m)(h1:m≤9223372036854775807)(hn:0<n):Pu P C ρ H o (.int .i64 (m/n)):=
 p_quo ho hx hy (by omega) (by
  rw [Int.tdiv_eq_ediv_of_nonneg h0]
  have h2:0≤m/n:=Int.ediv_nonneg h0 (by omega)
  have h3:m/n≤m:=Int.ediv_le_self n h0
  exact w64 (by omega))
theorem p_remP(ho:o.op=.binOp .rem t x y t')(hx:ev ρ x=some (.int k m))(hy:ev ρ y=some (.int k n))(h0:0≤m)(hn:0<n):Pu P C ρ H o (.int k (m%n)):=
 p_rem ho hx hy (by omega) (Int.tmod_eq_emod_of_nonneg h0)
end
section
variable {P:Program}{C:Ctx}{Q:Exit→Fr→Hp→Prop}{ρ:Fr}{H H':Hp}{L rest:List Oper}{d:Option Tmp}{ty:TypeId}{pos:String}{af:Array Edge}{g:Option (Nat×Bool)}{t t' e n len cap b i j off c:Nat}{d':Option Nat}{x y z:Operand}{v u:Value}{k kk:IntKind}{m q r:Int}{l l':List Value}{T:TypeId}
theorem W.mv(h:SL P C L Q rest (pt ρ d' v) H)(hx:ev ρ x=some v:=by exact rfl)(hg:gd L ρ ⟨d,.move x,ty,pos,af,g⟩=some true:=by exact rfl)(hd:dk C.n d=some d':=by exact rfl):SL P C L Q (⟨d,.move x,ty,pos,af,g⟩::rest) ρ H:=SL.pu (p_move rfl hx) hg hd h
theorem W.as(h:SL P C L Q rest (pt ρ d' v) H)(hx:ev ρ x=some v:=by exact rfl)(hg:gd L ρ ⟨d,.assign x,ty,pos,af,g⟩=some true:=by exact rfl)(hd:dk C.n d=some d':=by exact rfl):SL P C L Q (⟨d,.assign x,ty,pos,af,g⟩::rest) ρ H:=SL.pu (p_assign rfl hx) hg hd h
theorem W.nl{ad:Addr}(h:SL P C L Q rest (pt ρ d' (.pointer (some ad))) H)(hx:ev ρ x=some (.pointer (some ad)):=by exact rfl)(hg:gd L ρ ⟨d,.nilCheck x,ty,pos,af,g⟩=some true:=by exact rfl)(hd:dk C.n d=some d':=by exact rfl):SL P C L Q (⟨d,.nilCheck x,ty,pos,af,g⟩::rest) ρ H:=SL.pu (p_nil rfl hx) hg hd h
theorem W.fa [FieldTy P t i e off](h:SL P C L Q rest (pt ρ d' (.pointer (some ⟨b,c,none⟩))) H)(hx:ev ρ x=some (.pointer (some ⟨b,j,none⟩)):=by exact rfl)(ho:OfN j off c:=by infer_instance)(hg:gd L ρ ⟨d,.fieldAddr t x i,ty,pos,af,g⟩=some true:=by exact rfl)(hd:dk C.n d=some d':=by exact rfl):SL P C L Q (⟨d,.fieldAddr t x i,ty,pos,af,g⟩::rest) ρ H:=SL.pu (p_fieldAddr rfl hx ho.ok) hg hd h
theorem W.la [RowTy P t n](h:SL P C L Q rest (pt ρ d' (.agg l'.toArray)) H)(hx:ev ρ x=some (.pointer (some ⟨b,i,none⟩)):=by exact rfl)(i0:At H b (cl l T):=by infer_instance)(hv:(l.drop i).take n=l':=by first|assumption|exact rfl)(hn:l'.length=n:=by first|assumption|exact rfl)(hg:gd L ρ ⟨d,.load t x,ty,pos,af,g⟩=some true:=by exact rfl)(hd:dk C.n d=some d':=by exact rfl):SL P C L Q (⟨d,.load t x,ty,pos,af,g⟩::rest) ρ H:=SL.pu (p_load_a rfl hx hv hn) hg hd h
theorem W.mf{f:Go.Fn}{xs ys:Array Operand}{vs us:List Value}(h:SL P C L Q rest (pt ρ d' (.func f vs.toArray us.toArray)) H)(hx:evs ρ xs.toList=some vs:=by exact rfl)(hy:evs ρ ys.toList=some us:=by exact rfl)(hg:gd L ρ ⟨d,.makeFunc f xs ys,ty,pos,af,g⟩=some true:=by exact rfl)(hd:dk C.n d=some d':=by exact rfl):SL P C L Q (⟨d,.makeFunc f xs ys,ty,pos,af,g⟩::rest) ρ H:=SL.pu (p_makeFunc rfl hx hy) hg hd h
theorem W.bda{ps:Array (Nat×Operand)}{vs:List (Nat×Value)}{zv rv:List Value} [ArrTy P t len e n] [ZeroTy P t zv](h:SL P C L Q rest (pt ρ d' (.agg rv.toArray)) H)(hp:evp ρ ps.toList=some vs:=by exact rfl)(hr:bfill (fun i=>some (i*n,n)) zv vs=some rv:=by first|assumption|exact rfl)(hg:gd L ρ ⟨d,.build t ps,ty,pos,af,g⟩=some true:=by exact rfl)(hd:dk C.n d=some d':=by exact rfl):SL P C L Q (⟨d,.build t ps,ty,pos,af,g⟩::rest) ρ H:=SL.pu (p_build_arr rfl hp hr) hg hd h
theorem W.sk(h:SL P C L Q rest (pt ρ d' undef) H){op:Go.Op}{gg:Nat×Bool}(hg:gd L ρ ⟨d,op,ty,pos,af,some gg⟩=some false:=by exact rfl)(hd:dk C.n d=some d':=by exact rfl):SL P C L Q (⟨d,op,ty,pos,af,some gg⟩::rest) ρ H:=SL.sk hg hd h
theorem W.bx(h:∀ b,SL P C L Q rest (pt ρ d' (.pointer (some ⟨b,0,none⟩))) ((b,cl [v] t)::H))(hx:ev ρ x=some v:=by exact rfl)(i0:One v:=by infer_instance)(hg:gd L ρ ⟨d,.box t x,ty,pos,af,g⟩=some true:=by exact rfl)(hd:dk C.n d=some d':=by exact rfl):SL P C L Q (⟨d,.box t x,ty,pos,af,g⟩::rest) ρ H:=SL.box rfl hg hd hx h
theorem W.bxa(h:∀ b,SL P C L Q rest (pt ρ d' (.pointer (some ⟨b,0,none⟩))) ((b,cl l t)::H))(hx:ev ρ x=some (.agg l.toArray):=by exact rfl)(hg:gd L ρ ⟨d,.box t x,ty,pos,af,g⟩=some true:=by exact rfl)(hd:dk C.n d=some d':=by exact rfl):SL P C L Q (⟨d,.box t x,ty,pos,af,g⟩::rest) ρ H:=SL.box_a rfl hg hd hx h
theorem W.al{zv:List Value} [ZeroTy P t zv](h:∀ b,SL P C L Q rest (pt ρ d' (.pointer (some ⟨b,0,none⟩))) ((b,cl zv t)::H))(hg:gd L ρ ⟨d,.alloc t,ty,pos,af,g⟩=some true:=by exact rfl)(hd:dk C.n d=some d':=by exact rfl):SL P C L Q (⟨d,.alloc t,ty,pos,af,g⟩::rest) ρ H:=SL.alloc rfl hg hd h
theorem W.st [OneTy P t](h:SL P C L Q rest (pt ρ d' undef) H')(hx:ev ρ x=some (.pointer (some ⟨b,i,none⟩)):=by exact rfl)(hy:ev ρ y=some v:=by exact rfl)(i0:One v:=by infer_instance)(i34:At H b (cl l T):=by infer_instance)(i79:Upd H b (cl (l.set i v) T) H':=by infer_instance)(hi:i<l.length:=by first|assumption|exact Nat.le_of_ble_eq_true rfl)(hg:gd L ρ ⟨d,.store t x y,ty,pos,af,g⟩=some true:=by exact rfl)(hd:dk C.n d=some d':=by exact rfl):SL P C L Q (⟨d,.store t x y,ty,pos,af,g⟩::rest) ρ H:=SL.store rfl hg hd hx hy hi h
theorem W.sw [RowTy P t n](h:SL P C L Q rest (pt ρ d' undef) H')(hx:ev ρ x=some (.pointer (some ⟨b,0,none⟩)):=by exact rfl)(hy:ev ρ y=some (.agg l'.toArray):=by exact rfl)(i0:OC l':=by infer_instance)(i34:At H b (cl l T):=by infer_instance)(i79:Upd H b (cl l' T) H':=by infer_instance)(hr:l'.length=n:=by first|assumption|exact rfl)(hz:l.length=n:=by first|assumption|exact rfl)(hg:gd L ρ ⟨d,.store t x y,ty,pos,af,g⟩=some true:=by exact rfl)(hd:dk C.n d=some d':=by exact rfl):SL P C L Q (⟨d,.store t x y,ty,pos,af,g⟩::rest) ρ H:=SL.store_w rfl hg hd hx hy hr hz h
theorem W.sa{rv:List Value} [RowTy P t n](h:SL P C L Q rest (pt ρ d' undef) H')(hx:ev ρ x=some (.pointer (some ⟨b,i,none⟩)):=by exact rfl)(hy:ev ρ y=some (.agg rv.toArray):=by exact rfl)(i0:OC rv:=by infer_instance)(i34:At H b (cl l T):=by infer_instance)(i79:Upd H b (cl (l.take i++rv++l.drop (i+n)) T) H':=by infer_instance)(hr:rv.length=n:=by first|assumption|exact rfl)(hi:i+n≤l.length:=by first|assumption|exact Nat.le_of_ble_eq_true rfl)(hg:gd L ρ ⟨d,.store t x y,ty,pos,af,g⟩=some true:=by exact rfl)(hd:dk C.n d=some d':=by exact rfl):SL P C L Q (⟨d,.store t x y,ty,pos,af,g⟩::rest) ρ H:=SL.store_a rfl hg hd hx hy hr hi rfl h
theorem W.call{f:FuncId}{xs:Array Operand}{ats:Array TypeId}{vs:List Value}{Hc rr:Hp}{Pre:World→Prop}{R:Value→Hp→Prop} [IsFn P f](ht:Tri P f vs Hc Pre R) [Part H Hc rr](hk:∀ v H',R v H'→SL P C L Q rest (pt ρ d' v) (H'++rr))(hx:evs ρ xs.toList=some vs:=by exact rfl)(hpre:∀ w,St C.K C.w0 H w→Pre w:=by exact fun _ _=>trivial)(hg:gd L ρ ⟨d,.call { callee:=.value (.func f),args:=xs,argTypes:=ats },ty,pos,af,g⟩=some true:=by exact rfl)(hd:dk C.n d=some d':=by exact rfl) :
  SL P C L Q (⟨d,.call { callee:=.value (.func f),args:=xs,argTypes:=ats },ty,pos,af,g⟩::rest) ρ H:=SL.call Hc rfl hg hd hx ht hpre hk
theorem W.callE{f:FuncId}{xs:Array Operand}{ats:Array TypeId}{vs vs':List Value}{Hc rr:Hp}{Pre:World→Prop}{R:Value→Hp→Prop} [IsFn P f](ht:Tri P f vs Hc Pre R) [Part H Hc rr](he:vs'=vs)(hk:∀ v H',R v H'→SL P C L Q rest (pt ρ d' v) (H'++rr))(hx:evs ρ xs.toList=some vs':=by exact rfl)(hpre:∀ w,St C.K C.w0 H w→Pre w:=by exact fun _ _=>trivial)(hg:gd L ρ ⟨d,.call { callee:=.value (.func f),args:=xs,argTypes:=ats },ty,pos,af,g⟩=some true:=by exact rfl)(hd:dk C.n d=some d':=by exact rfl) :
  SL P C L Q (⟨d,.call { callee:=.value (.func f),args:=xs,argTypes:=ats },ty,pos,af,g⟩::rest) ρ H:=W.call ht hk (he▸hx) hpre hg hd
end
section
variable {P:Program}{C:Ctx}{ρ:Fr}{H:Hp}{fn:Func}{R:Value→Hp→Prop}{e:Exit}{t u:Nat}{v v2:Value}
theorem F.f0(hR:R (.tuple #[]) H)(he:e=.ret∨e=.normal:=by first|exact .inl rfl|exact .inr rfl)(hrs:fn.results=#[]:=by exact rfl):Fin P C fn R e ρ H:=Fin.s0 he hrs hR
theorem F.f1(hR:R v H)(he:e=.ret∨e=.normal:=by first|exact .inl rfl|exact .inr rfl)(hrs:fn.results=#[.tmp t]:=by exact rfl)(ht:lk ρ t=some v:=by exact rfl):Fin P C fn R e ρ H:=Fin.s1 he hrs ht hR
theorem F.f2(hR:R (.tuple #[v,v2]) H)(he:e=.ret∨e=.normal:=by first|exact .inl rfl|exact .inr rfl)(hrs:fn.results=#[.tmp t,.tmp u]:=by exact rfl)(ht:lk ρ t=some v:=by exact rfl)(hu:lk ρ u=some v2:=by exact rfl):Fin P C fn R e ρ H:=Fin.s2 he hrs ht hu hR
end
theorem SW.cond_d{P:Program}{C:Ctx}{Q:Exit→Fr→Hp→Prop}{ρ:Fr}{H:Hp}{c:Operand}{x y:Code}{p:Prop} [Decidable p](hc:ev ρ c=some (.bool (decide p)))(ht:p→SW P C x Q ρ H)(hf:¬ p→SW P C y Q ρ H):SW P C (.cond c x y) Q ρ H:=
 SW.cond_b hc (fun e=>ht (of_decide_eq_true e)) (fun e=>hf (of_decide_eq_false e))
def selF(ρ:Fr):List Nat→Option Fr
 | []=>some []
 | t::r=>match lk ρ t,selF ρ r with
  | some v,some s=>some ((t,v)::s)
  | _,_=>none
theorem selF.sub{ρ:Fr}:∀ {ts:List Nat} {r:Fr},selF ρ ts=some r→subF r ρ
 | [],r,h=>by simp [selF] at h;subst h;trivial
 | t::ts,r,h=>by
  unfold selF at h
  split at h
  ·rename_i v s hv hs
   simp at h;subst h
   exact⟨hv,selF.sub hs⟩
  ·cases h
theorem subF.append{ρ:Fr}:∀ {a b:Fr},subF a ρ→subF b ρ→subF (a++b) ρ
 | [],b,_,h=>h
 | (k,v)::a,b,⟨h1,h2⟩,h=>⟨h1,subF.append h2 h⟩
section
variable {P:Program}{C:Ctx}{Q:Exit→Fr→Hp→Prop}{ρ:Fr}{H:Hp}{α:Type}
def HandF(F:α→Fr)(ρk:Fr)(G:α→Hp)(s:Hp)(M:α→Nat)(I:α→Prop)(a:α):Fr→Hp→Prop:=HandN (fun x=>F x++ρk) (fun x=>G x++s) M I a
theorem HandF.mk{F:α→Fr}{ρk:Fr}{G:α→Hp}{s s':Hp}{M:α→Nat}{I:α→Prop}{a:α}(a':α)(hi:I a')(hM:M a'<M a:=by (first|omega|(dsimp only;omega))) [hp:Part H (G a'++s) s'](hr:subF (F a'++ρk) ρ:=by (repeat' first|exact trivial|refine And.intro rfl ?_)):HandF F ρk G s M I a ρ H:=⟨a',s',hM,hr,hp.perm,hi⟩
theorem SW.loopF{c:Code}(ts:List Nat)(F:α→Fr)(G:α→Hp)(M:α→Nat)(I:α→Prop)(a0:α){s:Hp}{ρk:Fr} [hp:Part H (G a0) s](h0:I a0)
  (round:∀ a,I a→SW P C c (thn (HandF F ρk G s M I a) Q) (F a++ρk) (G a++s)) (hk:selF ρ ts=some ρk:=by exact rfl) (hr:subF (F a0) ρ:=by (repeat' first|exact trivial|refine And.intro rfl ?_)):SW P C (.loop c) Q ρ H:=
 SW.loopN (fun x=>F x++ρk) (fun x=>G x++s) M I a0 (s:=[]) (hr.append (selF.sub hk)) ⟨by rw [List.append_nil];exact hp.perm⟩ h0 round
end
section
variable {P:Program}{C:Ctx}{Q:Exit→Fr→Hp→Prop}{ρ:Fr}{H:Hp}{α:Type}
theorem SW.loopG{c:Code}(ts bs:List Nat)(F:α→Fr)(G:α→Hp)(M:α→Nat)(I:α→Prop)(a0:α){R s:Hp}{ρk:Fr} [hp:Sel H bs R s](h0:I a0)
  (round:∀ a,I a→SW P C c (thn (HandF F ρk G s M I a) Q) (F a++ρk) (G a++s)) (hG:R=G a0:=by exact rfl) (hk:selF ρ ts=some ρk:=by exact rfl) (hr:subF (F a0) ρ:=by (repeat' first|exact trivial|refine And.intro rfl ?_)):SW P C (.loop c) Q ρ H:=
 SW.loopF (hp:=⟨hG▸hp.perm⟩) ts F G M I a0 h0 round hk hr
end
section
variable {P:Program}{C:Ctx}{Q:Exit→Fr→Hp→Prop}{ρ:Fr}{H:Hp}{α:Type}
def CutF(F:α→Fr)(ρk:Fr)(G:α→Hp)(s:Hp)(I:α→Prop)(ρ:Fr)(H:Hp):Prop:=∃ a r,I a∧subF (F a++ρk) ρ∧H.Perm ((G a++s)++r)
theorem CutF.mk{F:α→Fr}{ρk:Fr}{G:α→Hp}{s r:Hp}{I:α→Prop}(a:α)(hi:I a) [hp:Part H (G a++s) r](hr:subF (F a++ρk) ρ:=by (repeat' first|exact trivial|refine And.intro rfl ?_)):CutF F ρk G s I ρ H:=⟨a,r,hi,hr,hp.perm⟩
theorem SW.cutH{x y:Code}(ts:List Nat)(G0:Hp)(F:α→Fr)(G:α→Hp)(I:α→Prop){ρk:Fr}{s:Hp} [hp:Part H G0 s](h1:SW P C x (thn (CutF F ρk G s I) Q) ρ H)(h2:∀ a,I a→SW P C y Q (F a++ρk) (G a++s))(hk:selF ρ ts=some ρk:=by exact rfl):SW P C x (thn (SW P C y Q) Q) ρ H:=
 SW.mono h1 fun e ρ' H' hq=>by
  cases e <;> first
   | exact hq
   | (obtain⟨a,r,hi,hr,hp⟩:=hq;exact SW.weaken hr ⟨hp⟩ (h2 a hi))
theorem SW.cut{x y:Code}(ts bs:List Nat)(F:α→Fr)(G:α→Hp)(I:α→Prop){ρk:Fr}{R s:Hp} [hp:Sel H bs R s](h1:SW P C x (thn (CutF F ρk G s I) Q) ρ H)(h2:∀ a,I a→SW P C y Q (F a++ρk) (G a++s))(hk:selF ρ ts=some ρk:=by exact rfl):SW P C x (thn (SW P C y Q) Q) ρ H:=
 SW.cutH (hp:=⟨hp.perm⟩) ts R F G I h1 h2 hk
end
end Go.Proofs.YtnigolgkkjidiaaGreat
namespace Go.Proofs.YtnigolgkkjidiaaGreat
open Go
def Rk(C:Ctx)(R:Hp)(w:World):Prop:=St C.K C.w0 [] w∧∀ x∈R,w.heap[x.1]?=some x.2
theorem Rk.of{C:Ctx}{R H:Hp}{w:World}(h:St C.K C.w0 H w)(hr:∀ x∈R,x∈H):Rk C R w:=⟨St.drop (Hc:=[]) (r:=H) h,fun x hx=>h.own x.1 x.2 (hr x hx)⟩
theorem Rk.sub{C:Ctx}{R R':Hp}{w:World}(hs:∀ x∈R,x∈R')(h:Rk C R' w):Rk C R w:=⟨h.1,fun x hx=>h.2 x (hs x hx)⟩
def nxt(B:List Nat)(R:Hp)(i:Nat):Hp:=bif B.contains i then [] else R
theorem nxt_t{B:List Nat}{R:Hp}{i:Nat}(h:B.contains i=true):nxt B R i=[]:=by unfold nxt;rw [h];rfl
theorem nxt_f{B:List Nat}{R:Hp}{i:Nat}(h:B.contains i=false):nxt B R i=R:=by unfold nxt;rw [h];rfl
theorem nxt_sub{B:List Nat}{R R':Hp}(i:Nat)(hs:∀ x∈R,x∈R'):∀ x∈nxt B R i,x∈nxt B R' i:=by
 cases h:B.contains i
 ·rw [nxt_f h,nxt_f h];exact hs
 ·rw [nxt_t h];simp
def AnyS(P:Program)(C:Ctx)(ops:Array Oper)(Q:Exit→Act→World→Prop)(B:List Nat):Hp→Nat→Array Bool→Act→World→Prop
 | _,0,listed,a,w=>Region.ready .any ops listed=[]∧Q .normal a w
 | R,f+1,listed,a,w=>(Region.ready .any ops listed=[]→Q .normal a w) ∧
  ∀ i∈Region.ready .any ops listed,wpOp P ops Q i (fun a' w'=>Rk C (nxt B R i) w'∧AnyS P C ops Q B (nxt B R i) f (listed.setIfInBounds i true) a' w') a w
section
variable {P:Program}{C:Ctx}{ops:Array Oper}{Q:Exit→Act→World→Prop}{B:List Nat}
theorem AnyS.any:∀ (f:Nat) (R:Hp) (listed:Array Bool) (a:Act) (w:World),AnyS P C ops Q B R f listed a w→wpAny P .any ops Q f listed a w
 | 0,_,_,_,_,h=>h
 | f+1,_,_,_,_,h=>⟨h.1,fun i hi=>wpOp_mono (fun a' w' h'=>AnyS.any f _ _ a' w' h'.2) (h.2 i hi)⟩
theorem AnyS.weaken:∀ (f:Nat) (R R':Hp) (listed:Array Bool) (a:Act) (w:World),(∀ x∈R,x∈R')→AnyS P C ops Q B R' f listed a w→AnyS P C ops Q B R f listed a w
 | 0,_,_,_,_,_,_,h=>h
 | f+1,_,_,_,_,_,hs,h=>⟨h.1,fun i hi=>wpOp_mono (fun a' w' h'=>⟨Rk.sub (nxt_sub i hs) h'.1,AnyS.weaken f _ _ _ a' w' (nxt_sub i hs) h'.2⟩) (h.2 i hi)⟩
def chainB(ops:Array Oper)(listed:Array Bool)(i:Nat)(Ws:List Nat):Bool:=
 Ws.all fun j=>!listed.getD j true&&match ops[j]? with
  | some o=>o.after.any fun e=>Region.binds .any e&&(Nat.beq e.on i||Ws.contains e.on)
  | none=>false
theorem chain_ready{listed:Array Bool}{i j:Nat}{Ws:List Nat}(h1:∀ k∈Ws,∃ o,ops[k]?=some o∧∃ e∈o.after,Region.binds .any e=true∧(e.on=i∨e.on∈Ws))(h2:∀ k∈Ws,listed.getD k false=false)(hi:listed.getD i false=false)
  (hj:j∈Region.ready .any ops listed):j∉Ws:=fun hm=>by
 obtain⟨_,o,ho,hall⟩:=mem_ready.1 hj
 obtain⟨o2,ho2,e,he,hb,hor⟩:=h1 j hm
 rw [ho] at ho2
 cases ho2
 have:=hall e he hb
 rcases hor with h|h
 ·rw [h,hi] at this;cases this
 ·rw [h2 _ h] at this;cases this
theorem AnyS.first{i:Nat}{oi:Oper}{v:Value}{Ws:List Nat}{R:Hp}(hi:ops[i]?=some oi)(hsel:∀ (j:Nat) (o:Oper) cs b,ops[j]?=some o→o.op≠.select cs b)
  (h1:∀ k∈Ws,∃ o,ops[k]?=some o∧∃ e∈o.after,Region.binds .any e=true∧(e.on=i∨e.on∈Ws)) (hiB:B.contains i=false) (hQ:∀ c a w,Q (.panic c) (a.put oi.dst v) w→Q (.panic c) a w) :
  ∀ (f:Nat) (listed:Array Bool) (a:Act) (w:World),
   (∀ j oj,ops[j]?=some oj→j≠i→listed.getD j true=false→(∀ e∈oj.after,Region.binds .any e=true→e.on≠i)→oi.apart ops oj=true) →
   (∀ k∈Ws,listed.getD k true=false)→(∀ t,B.contains t=true→listed.getD t true=true∨t∈Ws) →
   i∈Region.ready .any ops listed→YieldsIf P ops (Rk C R) oi v a→Rk C R w →
   AnyS P C ops Q B R f (listed.setIfInBounds i true) (a.put oi.dst v) w→AnyS P C ops Q B R (f+1) listed a w:=by
 intro f
 induction f with
 | zero=>
  intro listed a w _ _ _ hr hy hS h
  refine⟨fun h0=>absurd hr (by rw [h0];exact List.not_mem_nil),fun j hj=>?_⟩
  rcases Decidable.em (j=i) with rfl|hne
  ·exact hy.wpOp hi hS (by rw [nxt_f hiB];exact⟨hS,h⟩)
  ·have:=ready_mono hj hne
   rw [h.1] at this
   exact absurd this List.not_mem_nil
 | succ f ih=>
  intro listed a w hfree hW hB hr hy hS h
  have hui:=(mem_ready.1 hr).1
  refine⟨fun h0=>absurd hr (by rw [h0];exact List.not_mem_nil),fun j hj=>?_⟩
  rcases Decidable.em (j=i) with rfl|hne
  ·exact hy.wpOp hi hS (by rw [nxt_f hiB];exact⟨hS,h⟩)
  ·obtain⟨huj,oj,hoj,hpre⟩:=mem_ready.1 hj
   have hif:listed.getD i false=false:=getD_both hui
   have hjW:j∉Ws:=chain_ready h1 (fun k hk=>getD_both (hW k hk)) hif hj
   have hjB:B.contains j=false:=by
    cases hb:B.contains j with
    | false=>rfl
    | true=>
     rcases hB j hb with h|h
     ·rw [huj] at h;cases h
     ·exact absurd h hjW
   have hno:∀ e∈oj.after,Region.binds .any e=true→e.on≠i:=fun e he hb heq=>by
    have:=hpre e he hb
    rw [heq,hif] at this
    cases this
   have h1:=wpOp_putIf hoj (hfree j oj hoj hne huj hno) (fun cs b=>hsel i oi cs b hi) (fun cs b=>hsel j oj cs b hoj) hQ hy (h.2 j (ready_mono hj hne))
   refine wpOp_mono (fun a' w' ⟨hy',hS',hrest⟩=>?_) h1
   rw [nxt_f hjB] at hS' hrest ⊢
   refine⟨hS',ih _ a' w' (fun k ok hk hki hun hn=>hfree k ok hk hki ?_ hn) (fun k hk=>?_) (fun t ht=>?_) (ready_mono hr (Ne.symm hne)) hy' hS' (by rw [Array.setIfInBounds_comm _ _ hne];exact hrest)⟩
   ·rcases Decidable.em (j=k) with rfl|hjk
    ·exact huj
    ·rwa [getD_set_ne true hjk] at hun
   ·have hjk:j≠k:=fun e=>hjW (e▸hk)
    rw [getD_set_ne true hjk];exact hW k hk
   ·rcases Decidable.em (j=t) with rfl|hjt
    ·rw [hjB] at ht;cases ht
    ·rw [getD_set_ne true hjt];exact hB t ht
theorem AnyS.firstW{i:Nat}{oi:Oper}{v:Value}(hi:ops[i]?=some oi)(hsel:∀ (j:Nat) (o:Oper) cs b,ops[j]?=some o→o.op≠.select cs b)
  (hiB:B.contains i=false) (hQ:∀ c a w,Q (.panic c) (a.put oi.dst v) w→Q (.panic c) a w) :
  ∀ (f:Nat) (R:Hp) (listed:Array Bool) (a:Act) (w:World),
   (∀ j oj,ops[j]?=some oj→j≠i→listed.getD j true=false→(∀ e∈oj.after,Region.binds .any e=true→e.on≠i)→oi.apart ops oj=true) →
   i∈Region.ready .any ops listed→YieldsIf P ops (Rk C []) oi v a→Rk C R w →
   AnyS P C ops Q B R f (listed.setIfInBounds i true) (a.put oi.dst v) w→AnyS P C ops Q B R (f+1) listed a w:=by
 intro f
 induction f with
 | zero=>
  intro R listed a w _ hr hy hS h
  refine⟨fun h0=>absurd hr (by rw [h0];exact List.not_mem_nil),fun j hj=>?_⟩
  rcases Decidable.em (j=i) with rfl|hne
  ·exact hy.wpOp hi ⟨hS.1,by simp⟩ (by rw [nxt_f hiB];exact⟨hS,h⟩)
  ·have:=ready_mono hj hne
   rw [h.1] at this
   exact absurd this List.not_mem_nil
 | succ f ih=>
  intro R listed a w hfree hr hy hS h
  have hui:=(mem_ready.1 hr).1
  refine⟨fun h0=>absurd hr (by rw [h0];exact List.not_mem_nil),fun j hj=>?_⟩
  rcases Decidable.em (j=i) with rfl|hne
  ·exact hy.wpOp hi ⟨hS.1,by simp⟩ (by rw [nxt_f hiB];exact⟨hS,h⟩)
  ·obtain⟨huj,oj,hoj,hpre⟩:=mem_ready.1 hj
   have hif:listed.getD i false=false:=getD_both hui
   have hno:∀ e∈oj.after,Region.binds .any e=true→e.on≠i:=fun e he hb heq=>by
    have:=hpre e he hb
    rw [heq,hif] at this
    cases this
   have h1:=wpOp_putIf hoj (hfree j oj hoj hne huj hno) (fun cs b=>hsel i oi cs b hi) (fun cs b=>hsel j oj cs b hoj) hQ hy (h.2 j (ready_mono hj hne))
   refine wpOp_mono (fun a' w' ⟨hy',hS',hrest⟩=>?_) h1
   refine⟨hS',ih _ _ a' w' (fun k ok hk hki hun hn=>hfree k ok hk hki ?_ hn) (ready_mono hr (Ne.symm hne)) hy' hS' (by rw [Array.setIfInBounds_comm _ _ hne];exact hrest)⟩
   rcases Decidable.em (j=k) with rfl|hjk
   ·exact huj
   ·rwa [getD_set_ne true hjk] at hun
end
def SS(P:Program)(C:Ctx)(L:List Oper)(Q:Exit→Fr→Hp→Prop)(B:List Nat)(R:Hp)(fuel:Nat)(listed:Array Bool)(ρ:Fr)(H:Hp):Prop:=
 ∀ a w,Fits C.ds C.n ρ a→St C.K C.w0 H w→(∀ x∈R,x∈H)→AnyS P C L.toArray (lift C Q) B R fuel listed a w
class Keep(R H:Hp):Prop where
 ok:∀ x∈R,x∈H
instance Keep.nil(H:Hp):Keep [] H:=⟨by simp⟩
instance Keep.cons(H R:Hp)(b:Nat)(o:Obj) [h1:At H b o] [h2:Keep R H]:Keep ((b,o)::R) H:=⟨fun x hx=>by
 rcases List.mem_cons.1 hx with rfl|hx
 ·exact h1.mem
 ·exact h2.ok x hx⟩
class Ins(R:Hp)(b:Nat)(o:Obj)(R':outParam Hp):Prop where
 ok:(b,o)∈R'∧(∀ x∈R,x∈R')∧∀ x∈R',x=(b,o)∨x∈R
instance Ins.new(R:Hp)(b:Nat)(o:Obj):Ins R b o ((b,o)::R):=⟨by simp,fun x hx=>List.mem_cons_of_mem _ hx,fun x hx=>List.mem_cons.1 hx⟩
instance(priority:=1100) Ins.old (R:Hp) (b:Nat) (o:Obj) [h:At R b o]:Ins R b o R:=⟨h.mem,fun x hx=>hx,fun x hx=>.inr hx⟩
section
variable {P:Program}{C:Ctx}{Q:Exit→Fr→Hp→Prop}{ρ:Fr}{H H':Hp}{L l rest:List Oper}{o:Oper}{B:List Nat}{R R':Hp}{fuel:Nat}{listed:Array Bool}
theorem SW.regionS{id:Nat}(B:List Nat)(h:SS P C l Q B [] l.length (Array.replicate l.length false) ρ H)(hm:P.follows .mixedOrders=true):SW P C (.region id l.toArray true) Q ρ H:=fun a w hf hs=>
 wp_region_any hm (AnyS.any _ _ _ _ _ (by
  have:=h a _ hf (hs.drawn (w.drawn+1)) (by simp)
  rw [List.size_toArray]
  exact this))
def canS(L:List Oper)(B:List Nat)(listed:Array Bool)(i:Nat):Bool:=
 Region.noSelect L.toArray&&Region.free .any L.toArray listed i&&(Region.ready .any L.toArray listed).contains i&&!B.contains i
def canL(L:List Oper)(B:List Nat)(listed:Array Bool)(i:Nat)(Ws:List Nat):Bool:=
 canS L B listed i&&chainB L.toArray listed i Ws&&B.all fun t=>listed.getD t true||Ws.contains t
theorem SS.putW{v:Value}(i:Nat)(hi:L[i]?=some o)(hok:canS L B listed i=true)(hQ:∀ c ρ H,Q (.panic c) ρ H→False)
  (hy:∀ a,Fits C.ds C.n ρ a→YieldsIf P L.toArray (Rk C []) o v a) {d:Option Nat} (hd:dk C.n o.dst=some d)
  (hk:SS P C L Q B R fuel (listed.setIfInBounds i true) (pt ρ d v) H):SS P C L Q B R (fuel+1) listed ρ H:=fun a w hf hs hr=>by
 simp only [canS,Bool.and_eq_true,Bool.not_eq_true'] at hok
 obtain⟨⟨⟨h1,h2⟩,h3⟩,h4⟩:=hok
 have hi':L.toArray[i]?=some o:=by simpa using hi
 exact AnyS.firstW hi' (Region.noSelect_spec h1) h4 (fun c a w ⟨ρ,H,_,_,h⟩=>(hQ c ρ H h).elim) fuel R listed a w (Region.free_spec hi' h2) (by simpa using h3) (hy a hf) (Rk.of hs hr) (hk _ w (hf.put hd v) hs hr)
theorem SS.putL{v:Value}(i:Nat)(Ws:List Nat)(hi:L[i]?=some o)(hok:canL L B listed i Ws=true)(hQ:∀ c ρ H,Q (.panic c) ρ H→False)
  (hRR:∀ x∈R,x∈R') (hR:∀ x∈R',x∈R∨x∈H) (hy:∀ a,Fits C.ds C.n ρ a→YieldsIf P L.toArray (Rk C R') o v a) {d:Option Nat} (hd:dk C.n o.dst=some d)
  (hk:SS P C L Q B R' fuel (listed.setIfInBounds i true) (pt ρ d v) H):SS P C L Q B R (fuel+1) listed ρ H:=fun a w hf hs hr=>by
 simp only [canL,canS,Bool.and_eq_true,Bool.not_eq_true'] at hok
 obtain⟨⟨⟨⟨⟨h1,h2⟩,h3⟩,h4⟩,h5⟩,h6⟩:=hok
 have hi':L.toArray[i]?=some o:=by simpa using hi
 have hr':∀ x∈R',x∈H:=fun x hx=>(hR x hx).elim (hr x) id
 have h5':∀ k∈Ws,listed.getD k true=false∧∃ o,L.toArray[k]?=some o∧∃ e∈o.after,Region.binds .any e=true∧(e.on=i∨e.on∈Ws):=fun k hk=>by
  have:=List.all_eq_true.1 h5 k hk
  simp only [Bool.and_eq_true,Bool.not_eq_true'] at this
  refine⟨this.1,?_⟩
  have h7:=this.2
  split at h7
  ·rename_i o2 ho2
   obtain⟨e,he,hb⟩:=Array.any_eq_true'.1 h7
   simp only [Bool.and_eq_true,Bool.or_eq_true] at hb
   exact⟨o2,ho2,e,he,hb.1,hb.2.imp Nat.eq_of_beq_eq_true (fun h=>by simpa using h)⟩
  ·cases h7
 refine AnyS.weaken _ R R' _ _ _ hRR (AnyS.first hi' (Region.noSelect_spec h1) (fun k hk=>(h5' k hk).2) h4 (fun c a w ⟨ρ,H,_,_,h⟩=>(hQ c ρ H h).elim) fuel listed a w (Region.free_spec hi' h2) (fun k hk=>(h5' k hk).1) (fun t ht=>?_) (by simpa using h3) (hy a hf) (Rk.of hs hr') (hk _ w (hf.put hd v) hs hr'))
 have:=List.all_eq_true.1 h6 t (by simpa using ht)
 simpa using this
theorem SS.done(h:Q .normal ρ H)(hr:(Region.ready .any L.toArray listed).isEmpty=true):SS P C L Q B R fuel listed ρ H:=fun a w hf hs _=>by
 have hr':Region.ready .any L.toArray listed=[]:=by simpa using hr
 have hq:lift C Q .normal a w:=⟨ρ,H,hf,hs,h⟩
 cases fuel with
 | zero=>exact⟨hr',hq⟩
 | succ f=>exact⟨fun _=>hq,by rw [hr'];simp⟩
def BehS(P:Program)(C:Ctx)(L:List Oper)(Q:Exit→Fr→Hp→Prop)(B:List Nat)(R:Hp)(fuel:Nat)(listed:Array Bool)(ρ':Fr)(H':Hp):Prop:=(∀ x∈R,x∈H')∧SS P C L Q B R fuel listed ρ' H'
theorem SL.nilB [hk:Keep R H](h:SS P C L Q B R fuel listed ρ H):SL P C L (thn (BehS P C L Q B R fuel listed) Q) [] ρ H:=SL.nil ⟨hk.ok,h⟩
theorem SS.each(is:List Nat)(hok:Region.ready .any L.toArray listed=is)(hne:is≠[])
  (h:∀ i∈is,∃ o,L[i]?=some o∧SL P C L (thn (BehS P C L Q B (nxt B R i) fuel (listed.setIfInBounds i true)) Q) [o] ρ H):SS P C L Q B R (fuel+1) listed ρ H:=fun a w hf hs hr=>
 ⟨fun h0=>absurd (hok▸h0) hne,fun k hk=>by
  obtain⟨o,hi,h⟩:=h k (hok▸hk)
  exact wpOp_of_SL hi h hf hs fun ρ' H' a' w' ⟨hr',hsa⟩ hf' hs'=>⟨Rk.of hs' hr',hsa a' w' hf' hs' hr'⟩⟩
theorem SS.effK(i:Nat)(h:SL P C L (thn (BehS P C L Q B R fuel (listed.setIfInBounds i true)) Q) [o] ρ H)(hi:L[i]?=some o)(hok:(Region.ready .any L.toArray listed == [i]&&!B.contains i)=true):SS P C L Q B R (fuel+1) listed ρ H:=by
 simp only [Bool.and_eq_true,Bool.not_eq_true',beq_iff_eq] at hok
 refine SS.each [i] hok.1 (by simp) fun j hj=>?_
 rw [List.mem_singleton.1 hj,nxt_f hok.2]
 exact⟨o,hi,h⟩
theorem SS.effB(i:Nat)(h:SL P C L (thn (BehS P C L Q B [] fuel (listed.setIfInBounds i true)) Q) [o] ρ H)(hi:L[i]?=some o)(hok:(Region.ready .any L.toArray listed == [i]&&B.contains i)=true):SS P C L Q B R (fuel+1) listed ρ H:=by
 simp only [Bool.and_eq_true,beq_iff_eq] at hok
 refine SS.each [i] hok.1 (by simp) fun j hj=>?_
 rw [List.mem_singleton.1 hj,nxt_t hok.2]
 exact⟨o,hi,h⟩
theorem SS.twoK{o2:Oper}(i j:Nat)(h:SL P C L (thn (BehS P C L Q B R fuel (listed.setIfInBounds i true)) Q) [o] ρ H)(h2:SL P C L (thn (BehS P C L Q B R fuel (listed.setIfInBounds j true)) Q) [o2] ρ H)(hi:L[i]?=some o)(hj:L[j]?=some o2)(hok:(Region.ready .any L.toArray listed == [i,j]&&(!B.contains i&&!B.contains j))=true:=by kernel_rfl):SS P C L Q B R (fuel+1) listed ρ H:=by
 simp only [Bool.and_eq_true,Bool.not_eq_true',beq_iff_eq] at hok
 refine SS.each [i,j] hok.1 (by simp) fun k hk=>?_
 rcases List.mem_cons.1 hk with rfl|hk
 ·rw [nxt_f hok.2.1];exact⟨o,hi,h⟩
 ·rw [List.mem_singleton.1 hk,nxt_f hok.2.2];exact⟨o2,hj,h2⟩
theorem SS.tw{v:Value}(i:Nat)(hi:L[i]?=some o)(h:Pu P C ρ [] o v){d':Option Nat}(hk:SS P C L Q B R fuel (listed.setIfInBounds i true) (pt ρ d' v) H)(hok:canS L B listed i=true:=by kernel_rfl)(hg:gd L ρ o=some true:=by exact rfl)(hd:dk C.n o.dst=some d':=by exact rfl)(hQ:∀ c ρ H,Q (.panic c) ρ H→False:=by exact fun _ _ _ h=>Fin.np h):SS P C L Q B R (fuel+1) listed ρ H:=
 SS.putW i hi hok hQ (fun a hf=>.inl ⟨gd_wanted hf hg,fun w hr=>h a w hf hr.1⟩) hd hk
theorem SS.sR{v:Value}(i:Nat)(hi:L[i]?=some o){d':Option Nat}(hk:SS P C L Q B R fuel (listed.setIfInBounds i true) (pt ρ d' v) H)(h:Pu P C ρ [] o v:=by exact p_load_sR rfl rfl (by assumption) (by assumption) (by assumption))(hok:canS L B listed i=true:=by kernel_rfl)(hg:gd L ρ o=some true:=by exact rfl)(hd:dk C.n o.dst=some d':=by exact rfl)(hQ:∀ c ρ H,Q (.panic c) ρ H→False:=by exact fun _ _ _ h=>Fin.np h):SS P C L Q B R (fuel+1) listed ρ H:=SS.tw i hi h hk hok hg hd hQ
theorem SS.aR{v:Value}(i:Nat)(hi:L[i]?=some o){d':Option Nat}(hk:SS P C L Q B R fuel (listed.setIfInBounds i true) (pt ρ d' v) H)(h:Pu P C ρ [] o v:=by exact p_load_aR rfl rfl (by assumption) (by assumption) (by assumption) (by assumption))(hok:canS L B listed i=true:=by kernel_rfl)(hg:gd L ρ o=some true:=by exact rfl)(hd:dk C.n o.dst=some d':=by exact rfl)(hQ:∀ c ρ H,Q (.panic c) ρ H→False:=by exact fun _ _ _ h=>Fin.np h):SS P C L Q B R (fuel+1) listed ρ H:=SS.tw i hi h hk hok hg hd hQ
theorem SS.sk{d':Option Nat}(i:Nat)(hi:L[i]?=some o)(hk:SS P C L Q B R fuel (listed.setIfInBounds i true) (pt ρ d' undef) H)(hok:canS L B listed i=true:=by kernel_rfl)(hg:gd L ρ o=some false:=by exact rfl)(hd:dk C.n o.dst=some d':=by exact rfl)(hQ:∀ c ρ H,Q (.panic c) ρ H→False:=by exact fun _ _ _ h=>Fin.np h):SS P C L Q B R (fuel+1) listed ρ H:=
 SS.putW i hi hok hQ (fun a hf=>.inr ⟨gd_wanted hf hg,rfl⟩) hd hk
theorem SS.ls{t b j:Nat}{x:Operand}{lv:List Value}{T:TypeId}{v:Value}(i:Nat)(Ws:List Nat)(hi:L[i]?=some o){d':Option Nat}(hk:SS P C L Q B R' fuel (listed.setIfInBounds i true) (pt ρ d' v) H)(hok:canL L B listed i Ws=true:=by kernel_rfl)(ho:o.op=.load t x:=by exact rfl)(iT:ScalarTy P t:=by infer_instance)(hx:ev ρ x=some (.pointer (some ⟨b,j,none⟩)):=by exact rfl)(hat:At H b (cl lv T):=by infer_instance)(hin:Ins R b (cl lv T) R':=by infer_instance)(hv:lv[j]?=some v:=by first|exact rfl|assumption)(hg:gd L ρ o=some true:=by exact rfl)(hd:dk C.n o.dst=some d':=by exact rfl)(hQ:∀ c ρ H,Q (.panic c) ρ H→False:=by exact fun _ _ _ h=>Fin.np h):SS P C L Q B R (fuel+1) listed ρ H:=
 SS.putL i Ws hi hok hQ hin.ok.2.1 (fun x hx=>(hin.ok.2.2 x hx).elim (fun e=>.inr (e▸hat.mem)) .inl) (fun a hf=>.inl ⟨gd_wanted hf hg,fun w hr=>by
  have hb:=hr.2 _ hin.ok.1
  unfold execOp;rw [ho];simp [hf.eval hx,Instr.loadAt,Instr.sureAddr,run_load_s hb hv]⟩) hd hk
theorem SS.la{t n b j:Nat}{x:Operand}{lv r:List Value}{T:TypeId}(i:Nat)(Ws:List Nat)(hi:L[i]?=some o){d':Option Nat}(hk:SS P C L Q B R' fuel (listed.setIfInBounds i true) (pt ρ d' (.agg r.toArray)) H)(hok:canL L B listed i Ws=true:=by kernel_rfl)(ho:o.op=.load t x:=by exact rfl)(iT:RowTy P t n:=by infer_instance)(hx:ev ρ x=some (.pointer (some ⟨b,j,none⟩)):=by exact rfl)(hat:At H b (cl lv T):=by infer_instance)(hin:Ins R b (cl lv T) R':=by infer_instance)(hv:(lv.drop j).take n=r:=by first|assumption|exact rfl)(hn:r.length=n:=by first|assumption|exact rfl)(hg:gd L ρ o=some true:=by exact rfl)(hd:dk C.n o.dst=some d':=by exact rfl)(hQ:∀ c ρ H,Q (.panic c) ρ H→False:=by exact fun _ _ _ h=>Fin.np h):SS P C L Q B R (fuel+1) listed ρ H:=
 SS.putL i Ws hi hok hQ hin.ok.2.1 (fun x hx=>(hin.ok.2.2 x hx).elim (fun e=>.inr (e▸hat.mem)) .inl) (fun a hf=>.inl ⟨gd_wanted hf hg,fun w hr=>by
  have hb:=hr.2 _ hin.ok.1
  unfold execOp;rw [ho];simp [hf.eval hx,Instr.loadAt,Instr.sureAddr,run_load_a hb hv hn]⟩) hd hk
theorem SS.lw{t n b:Nat}{x:Operand}{lv:List Value}{T:TypeId}(i:Nat)(Ws:List Nat)(hi:L[i]?=some o){d':Option Nat}(hk:SS P C L Q B R' fuel (listed.setIfInBounds i true) (pt ρ d' (.agg lv.toArray)) H)(hok:canL L B listed i Ws=true:=by kernel_rfl)(ho:o.op=.load t x:=by exact rfl)(iT:RowTy P t n:=by infer_instance)(hx:ev ρ x=some (.pointer (some ⟨b,0,none⟩)):=by exact rfl)(hat:At H b (cl lv T):=by infer_instance)(hin:Ins R b (cl lv T) R':=by infer_instance)(hn:lv.length=n:=by first|assumption|exact rfl)(hg:gd L ρ o=some true:=by exact rfl)(hd:dk C.n o.dst=some d':=by exact rfl)(hQ:∀ c ρ H,Q (.panic c) ρ H→False:=by exact fun _ _ _ h=>Fin.np h):SS P C L Q B R (fuel+1) listed ρ H:=
 SS.la (r:=lv) i Ws hi hk hok ho iT hx hat hin (by rw [List.drop_zero,List.take_of_length_le (by omega)]) hn hg hd hQ
end
end Go.Proofs.YtnigolgkkjidiaaGreat
namespace Go.Proofs.YtnigolgkkjidiaaGreat
open Go
class Cv(k:IntKind)(m:Int)(r:outParam Int):Prop where
 ok:k.wrap m=r
section
variable {P:Program}{C:Ctx}{ρ:Fr}{H:Hp}{o:Oper}{t t' e n len cap b j i c:Nat}{x y z:Operand}{k kk:IntKind}{m q r:Int}{p:Option Addr}
theorem eqGuard_bool(op:BinOp)(w:World)(a c:Bool):(eqGuard op t x y (.bool a) (.bool c)).run P w=.ok () w:=by
 cases op <;> simp [eqGuard]
theorem run_eq_bool{t:TypeId} [h:BoolTy P t](a c:Bool)(w:World):(Op.equal t (.bool a) (.bool c)).run P w=.ok (a == c) w:=by
 unfold Op.equal Op.maxDepth Op.equalIn;simp [run_underlying h.ok]
theorem p_eqb{a c:Bool} [BoolTy P t](ho:o.op=.binOp .eql t x y t')(hx:ev ρ x=some (.bool a))(hy:ev ρ y=some (.bool c)):Pu P C ρ H o (.bool (a == c)):=fun ac w hf _=>by
 unfold execOp;rw [ho];simp [hf.eval hx,hf.eval hy,eqGuard_bool,binOp,run_eq_bool]
theorem p_neb{a c:Bool} [BoolTy P t](ho:o.op=.binOp .neq t x y t')(hx:ev ρ x=some (.bool a))(hy:ev ρ y=some (.bool c)):Pu P C ρ H o (.bool (a != c)):=fun ac w hf _=>by
 unfold execOp;rw [ho];simp [hf.eval hx,hf.eval hy,eqGuard_bool,binOp,run_eq_bool,bne]
theorem p_cv [h1:IntTy P t k] [h2:IntTy P t' kk] [hc:Cv kk m r](ho:o.op=.convert t t' x)(hx:ev ρ x=some (.int k m)):Pu P C ρ H o (.int kk r):=
 p_conv ho hx ⟨_,h1.ok⟩ h2.ok hc.ok
theorem p_cvi [h1:IntTy P t k] [h2:IntTy P t' .i64](ho:o.op=.convert t t' x)(hx:ev ρ x=some (.int k m))(hm : -9223372036854775808≤m∧m≤9223372036854775807):Pu P C ρ H o (.int .i64 m):=
 p_conv ho hx ⟨_,h1.ok⟩ h2.ok (w64 hm)
theorem p_ix [SliceTy P t e n] [hi:NatI m i] [ha:AdN j i n c](ho:o.op=.indexAddr t x y)(hx:ev ρ x=some (.slice (some ⟨b,j,none⟩) len cap))(hy:ev ρ y=some (.int k m))(h1:i<len):Pu P C ρ H o (.pointer (some ⟨b,c,none⟩)):=
 p_indexAddr ho hx hy (by rw [hi.ok];omega) (by rw [hi.ok];omega) (by rw [hi.ok,Int.toNat_natCast];exact ha.ok)
theorem p_ixa [ArrTy P t len e n] [hi:NatI m i] [ha:AdN j i n c](ho:o.op=.indexAddr t x y)(hx:ev ρ x=some (.pointer (some ⟨b,j,none⟩)))(hy:ev ρ y=some (.int k m))(h1:i<len):Pu P C ρ H o (.pointer (some ⟨b,c,none⟩)):=
 p_indexAddr_arr ho hx hy (by rw [hi.ok];omega) (by rw [hi.ok];omega) (by rw [hi.ok,Int.toNat_natCast];exact ha.ok)
theorem sadr_lt{b j cap l n c:Nat} [ha:AdN j l n c](h:l<cap):sadr (some ⟨b,j,none⟩) cap l n=some ⟨b,c,none⟩:=by
 unfold sadr
 rw [if_neg (by omega)]
 simp only [Option.map_some,add_mid,ha.ok]
theorem sadr_0(a:Option Addr)(cap n:Nat)(h:∀ x,a=some x→x.spot=none):sadr a cap 0 n=a:=by
 unfold sadr
 split
 ·rfl
 ·cases a with
  | none=>rfl
  | some x=>
   obtain⟨b,o,s⟩:=x
   have:=h _ rfl
   simp only at this
   subst this
   simp [add_mid]
theorem p_sl01{h:Nat} [SliceTy P t e n] [hi:NatI m h](ho:o.op=.slice t x none (some y) none)(hx:ev ρ x=some (.slice (some ⟨b,j,none⟩) len cap))(hy:ev ρ y=some (.int k m))(hh:h≤cap):Pu P C ρ H o (.slice (some ⟨b,j,none⟩) h cap):=by
 have:=p_slice (P:=P) (C:=C) (H:=H) (vl:=none) (vh:=none) ho hx (l:=0) (h:=h) (.inl ⟨rfl,rfl⟩) (.inr ⟨y,k,m,rfl,hy,hi.ok⟩) (Nat.zero_le _) hh
 rwa [sadr_0 _ cap n (by rintro x hx;cases hx;rfl)] at this
theorem p_sl10{l:Nat} [SliceTy P t e n] [hi:NatI m l] [AdN j l n c](ho:o.op=.slice t x (some y) none none)(hx:ev ρ x=some (.slice (some ⟨b,j,none⟩) len cap))(hy:ev ρ y=some (.int k m))(hh:l≤len)(hc:l<cap)(hlc:len≤cap):Pu P C ρ H o (.slice (some ⟨b,c,none⟩) (len-l) (cap-l)):=by
 have:=p_slice (P:=P) (C:=C) (H:=H) (vl:=none) (vh:=none) ho hx (l:=l) (h:=len) (.inr ⟨y,k,m,rfl,hy,hi.ok⟩) (.inl ⟨rfl,rfl⟩) hh hlc
 rwa [sadr_lt hc] at this
theorem p_sl11{l h:Nat} [SliceTy P t e n] [hi:NatI m l] [hi2:NatI q h] [AdN j l n c](ho:o.op=.slice t x (some y) (some z) none)(hx:ev ρ x=some (.slice (some ⟨b,j,none⟩) len cap))(hy:ev ρ y=some (.int k m))(hz:ev ρ z=some (.int kk q))(hh:l≤h∧h≤cap)(hc:l<cap):Pu P C ρ H o (.slice (some ⟨b,c,none⟩) (h-l) (cap-l)):=by
 have:=p_slice (P:=P) (C:=C) (H:=H) (vl:=none) (vh:=none) ho hx (l:=l) (h:=h) (.inr ⟨y,k,m,rfl,hy,hi.ok⟩) (.inr ⟨z,kk,q,rfl,hz,hi2.ok⟩) hh.1 hh.2
 rwa [sadr_lt hc] at this
theorem eqGuard_string(op:BinOp)(w:World)(a c:ByteArray):(eqGuard op t x y (.string a) (.string c)).run P w=.ok () w:=by
 cases op <;> simp [eqGuard]
theorem p_eqst{a c:ByteArray}(ho:o.op=.binOp .eql t x y t')(hx:ev ρ x=some (.string a))(hy:ev ρ y=some (.string c)):Pu P C ρ H o (.bool (a.toList == c.toList)):=fun ac w hf _=>by
 unfold execOp;rw [ho];simp [hf.eval hx,hf.eval hy,eqGuard_string,binOp,Op.stringOp]
theorem p_nest{a c:ByteArray}(ho:o.op=.binOp .neq t x y t')(hx:ev ρ x=some (.string a))(hy:ev ρ y=some (.string c)):Pu P C ρ H o (.bool !(a.toList == c.toList)):=fun ac w hf _=>by
 unfold execOp;rw [ho];simp [hf.eval hx,hf.eval hy,eqGuard_string,binOp,Op.stringOp]
end
section
variable {P:Program}{C:Ctx}{Q:Exit→Fr→Hp→Prop}{ρ:Fr}{H H':Hp}{L rest:List Oper}{d:Option Tmp}{ty:TypeId}{pos:String}{af:Array Edge}{g:Option (Nat×Bool)}{t t' e n len cap b i j off c l h:Nat}{d':Option Nat}{x y z:Operand}{v u:Value}{k kk:IntKind}{m q r:Int}{p:Option Addr}
end
end Go.Proofs.YtnigolgkkjidiaaGreat
namespace Go.Proofs.YtnigolgkkjidiaaGreat
open Go
section
variable {P:Program}{C:Ctx}{Q:Exit→Fr→Hp→Prop}{ρ:Fr}{H H':Hp}{L rest:List Oper}{d:Option Tmp}{ty:TypeId}{pos:String}{af:Array Edge}{g:Option (Nat×Bool)}{t t' t2 e n len cap b i j off c l h bytes:Nat}{d':Option Nat}{x y z:Operand}{v u sv:Value}{k kk:IntKind}{m q r:Int}{p:Option Addr}
theorem W.ma{zv:List Value} [SliceTy P t e n] [BytesTy P e bytes] [ZeroTy P e zv](hk:∀ b,SL P C L Q rest (pt ρ d' (.slice (some ⟨b,0,none⟩) l c)) ((b,cl (zs zv c) e)::H))(hx:ev ρ x=some (.int k m):=by exact rfl)(hy:ev ρ y=some (.int kk q):=by exact rfl)(hi:NatI m l:=by infer_instance)(hj:NatI q c:=by infer_instance)(hzn:zv.length=n:=by exact rfl)(hn:0<n:=by decide)(hlc:l≤c:=by omega)(hb:bytes*c≤281474976710656:=by omega)(hb1:1≤bytes:=by decide)(hg:gd L ρ ⟨d,.makeSlice t x y,ty,pos,af,g⟩=some true:=by exact rfl)(hd:dk C.n d=some d':=by exact rfl):SL P C L Q (⟨d,.makeSlice t x y,ty,pos,af,g⟩::rest) ρ H:=
 SL.make rfl hg hd hx hy hi.ok hj.ok hzn hn hlc hb hb1 hk
theorem W.ap{bytes mm:Nat}{xs ys zv:List Value}{Hs rr:Hp} [ht:SliceTy P t e n] [BytesTy P e bytes] [ZeroTy P e zv] [NInt P t2](hv:Sl e n v xs Hs) [hp:Part H Hs rr](hsrc:∀ w,St C.K C.w0 H w→SrcOf P w sv n mm ys)(hk:∀ v' Hs',Sl e n v' (xs++ys) Hs'→SL P C L Q rest (pt ρ d' v') (Hs'++rr))(hx:ev ρ x=some v:=by exact rfl)(hy:ev ρ y=some sv:=by exact rfl)(hys:ys.length=mm*n:=by first|assumption|(simp;done)|omega)(hoc:OC ys:=by infer_instance)(hzn:zv.length=n:=by exact rfl)(hn:0<n:=by decide)(hb1:1≤bytes:=by decide)(hbytes:(xs.length+ys.length)*bytes≤140737488355328*n:=by omega)(hg:gd L ρ ⟨d,.call { callee:=.builtin .append,args:=#[x,y],argTypes:=#[t,t2] },ty,pos,af,g⟩=some true:=by exact rfl)(hd:dk C.n d=some d':=by exact rfl) :
  SL P C L Q (⟨d,.call { callee:=.builtin .append,args:=#[x,y],argTypes:=#[t,t2] },ty,pos,af,g⟩::rest) ρ H:=SL.append Hs rfl hg hd hx hy hv hsrc hys hzn hn hb1 hbytes hk
theorem W.bs0{zv:List Value} [SliceTy P t e n] [ZeroTy P e zv](hk:∀ b,SL P C L Q rest (pt ρ d' (.slice (some ⟨b,0,none⟩) 0 0)) ((b,cl [] e)::H))(hzn:zv.length=n:=by exact rfl)(hn:0<n:=by decide)(hg:gd L ρ ⟨d,.buildSlice t 0 #[],ty,pos,af,g⟩=some true:=by exact rfl)(hd:dk C.n d=some d':=by exact rfl):SL P C L Q (⟨d,.buildSlice t 0 #[],ty,pos,af,g⟩::rest) ρ H:=
 SL.buildSlice (r:=[]) (vs:=[]) rfl hg hd rfl hzn hn rfl (by omega) hk
theorem W.bsl{ln:Nat}{ps:Array (Nat×Operand)}{vs:List (Nat×Value)}{zv rv:List Value} [SliceTy P t e n] [ZeroTy P e zv](hk:∀ b,SL P C L Q rest (pt ρ d' (.slice (some ⟨b,0,none⟩) ln ln)) ((b,cl rv e)::H))(hp:evp ρ ps.toList=some vs:=by exact rfl)(hr:bfill (fun i=>some (i*n,n)) (zs zv ln) vs=some rv:=by first|assumption|exact rfl)(hzn:zv.length=n:=by exact rfl)(hn:0<n:=by decide)(hsm:ln*n≤16777216:=by decide)(hg:gd L ρ ⟨d,.buildSlice t ln ps,ty,pos,af,g⟩=some true:=by exact rfl)(hd:dk C.n d=some d':=by exact rfl):SL P C L Q (⟨d,.buildSlice t ln ps,ty,pos,af,g⟩::rest) ρ H:=
 SL.buildSlice rfl hg hd hp hzn hn hr hsm hk
theorem W.cy{mm:Nat}{lv ys:List Value}{T:TypeId} [SliceTy P t e n](hsrc:∀ w,St C.K C.w0 H w→SrcOf P w sv n mm ys)(hk:SL P C L Q rest (pt ρ d' (.int .i64 mm)) H')(hx:ev ρ x=some (.slice (some ⟨b,j,none⟩) len cap):=by exact rfl)(hy:ev ρ y=some sv:=by exact rfl)(hat:At H b (cl lv T):=by infer_instance)(hup:Upd H b (cl (lv.take j++ys++lv.drop (j+ys.length)) T) H':=by infer_instance)(hm:mm≤len:=by omega)(hoc:OC ys:=by infer_instance)(hfit:j+ys.length≤lv.length:=by first|assumption|omega)(hg:gd L ρ ⟨d,.call { callee:=.builtin .copy,args:=#[x,y],argTypes:=#[t,t2] },ty,pos,af,g⟩=some true:=by exact rfl)(hd:dk C.n d=some d':=by exact rfl):SL P C L Q (⟨d,.call { callee:=.builtin .copy,args:=#[x,y],argTypes:=#[t,t2] },ty,pos,af,g⟩::rest) ρ H:=by
 have e:Nat.min mm len=mm:=Nat.min_eq_left hm
 refine SL.copy (m:=mm) (l:=lv) (T:=T) (l':=lv.take j++ys++lv.drop (j+ys.length)) rfl hg hd hx hy (fun w hs=>?_) hfit rfl (by rw [e];exact hk)
 rw [e];exact hsrc w hs w rfl
end
theorem SrcOf.own{P:Program}{K:List Nat}{w0 w:World}{H:Hp}{b o n m c:Nat}{l ys:List Value}{T:TypeId} [ha:At H b (cl l T)](hs:St K w0 H w)(hy:(l.drop o).take (m*n)=ys)(hl:ys.length=m*n):SrcOf P w (.slice (some ⟨b,o,none⟩) m c) n m ys:=SrcOf.block hs.at hy hl
theorem Rd.get{K:List Nat}{w:World}{n:Nat}{v:Value}{ys:List Value}(h:Rd K w n v ys):∃ a len cap,v=.slice a len cap∧ys.length=len*n∧len≤cap∧(0<len→∃ b o l T fz,a=some ⟨b,o,none⟩∧w.heap[b]?=some (.cells (List.toArray l) T fz)∧b∉K∧(l.drop o).take (len*n)=ys):=by
 obtain⟨a,len,cap,rfl,hl,hc,hb⟩:=h
 exact⟨a,len,cap,rfl,hl,hc,fun h0=>hb.resolve_left (by omega)⟩
theorem take_get{l ys:List Value}{o m k:Nat}{v:Value}(h:(l.drop o).take m=ys)(hk:ys[k]?=some v):l[o+k]?=some v:=by
 subst h
 rw [List.getElem?_take] at hk
 split at hk
 ·rwa [List.getElem?_drop] at hk
 ·cases hk
theorem Fin.to{P:Program}{C:Ctx}{fn:Func}{R:Value→Hp→Prop}{e:Exit}{ρ:Fr}{H s:Hp}(H':Hp) [hp:Part H H' s](h:Fin P C fn R e ρ H'):Fin P C fn R e ρ H:=by
 have hq:=hp.perm
 cases e <;> first
  | exact h
  | (obtain⟨v,Hc,s2,h1,h2,h3⟩:=h;exact⟨v,Hc,s2++s,by rw [← List.append_assoc];exact hq.trans (h1.append_right s),h2,fun a w hf hs=>h3 a w hf (hs.perm hq).drop⟩)
theorem set_same{α:Type}{l:List α}{k:Nat}{u:α}(h:l[k]?=some u):l.set k u=l:=by
 apply List.ext_getElem?
 intro i
 rw [List.getElem?_set]
 split
 ·rename_i e;subst e
  rw [if_pos (List.getElem?_eq_some_iff.1 h).1,h]
 ·rfl
end Go.Proofs.YtnigolgkkjidiaaGreat
namespace Go.Proofs.YtnigolgkkjidiaaGreat
open Go
def u8(b:UInt8):Value:=.int .u8 (b.toNat:Int)
def strV(bs:List UInt8):ByteArray:=⟨bs.toArray⟩
theorem strV_eq(a b:List UInt8):((strV a).toList == (strV b).toList)=decide (a=b):=by
 rw [ByteArray.toList_eq,ByteArray.toList_eq]
 by_cases h:a=b <;> simp [strV,h]
theorem foldl_bytes:∀ (bs:List UInt8) (s:ByteArray),(bs.map fun b=>(b.toNat:Int)).foldl (fun r n=>r.push (UInt8.ofNat n.toNat)) s=⟨(s.data.toList++bs).toArray⟩
 | [],s=>by obtain⟨⟨l⟩⟩:=s;simp
 | b::bs,s=>by
  simp only [List.map_cons,List.foldl_cons,Int.toNat_natCast]
  rw [foldl_bytes bs,UInt8.ofNat_toNat]
  congr 1
  obtain⟨⟨l⟩⟩:=s
  simp [ByteArray.push]
section
variable {P:Program}{C:Ctx}{ρ:Fr}{H:Hp}{o:Oper}{t t' e n len cap b j i c:Nat}{x y z:Operand}{k kk:IntKind}{m q r:Int}{p:Option Addr}{v:Value}
theorem p_ext{vs:List Value}(ho:o.op=.extract x i)(hx:ev ρ x=some (.tuple vs.toArray))(hv:vs[i]?=some v):Pu P C ρ H o v:=fun a w hf _=>by
 unfold execOp;rw [ho];simp [hf.eval hx,Instr.extract,hv]
theorem run_loadCells_of{w:World}{P:Program}{a:Option Addr}{len cap m:Nat}{ys:List Value}(hs:SrcOf P w (.slice a len cap) 1 m ys):m=len∧(a=none∧ys=[]∨∃ ad,a=some ad∧(loadCells ad len).run P w=.ok ys.toArray w):=by
 obtain⟨h1,h2⟩:=hs w rfl
 have hm:m=len:=by
  simp [Builtin.lenOf] at h1
  exact h1.symm
 subst hm
 refine⟨rfl,?_⟩
 cases a with
 | none=>left;simp [Builtin.firstCells] at h2;exact⟨rfl,by simpa using h2.symm⟩
 | some ad=>right;refine⟨ad,rfl,?_⟩;simpa [Builtin.firstCells] using h2
theorem p_cvst{a:Option Addr}{bs:List UInt8} [h1:SliceTy P t e n] [h2:IntTy P e .u8] [h3:StrTy P t'](ho:o.op=.convert t t' x)(hx:ev ρ x=some (.slice a len cap))(hsrc:∀ w,St C.K C.w0 H w→SrcOf P w (.slice a len cap) 1 m.toNat (bs.map fun b=>.int .u8 (b.toNat:Int))):Pu P C ρ H o (.string (strV bs)):=fun ac w hf hs=>by
 have key:=run_loadCells_of (hsrc w hs)
 unfold execOp;rw [ho]
 have hc:=run_convert_bytes_string (P:=P) w t t' e a len cap h1.ok h2.ok h3.ok
 have hb:(Conv.bytesToString (.slice a len cap)).run P w=.ok (.string (strV bs)) w:=by
  rcases key.2 with ⟨rfl,h⟩|⟨ad,rfl,h⟩
  ·have:bs=[]:=by simpa using h
   subst this
   simp [Conv.bytesToString];rfl
  ·have:=run_bytesToString (P:=P) w ad len cap (bs.map fun b=>(b.toNat:Int)) (by rw [h];simp)
   rw [this,foldl_bytes];rfl
 rw [hb] at hc
 simp [hf.eval hx,hc]
end
section
variable {P:Program}{C:Ctx}{Q:Exit→Fr→Hp→Prop}{ρ:Fr}{H H':Hp}{L rest:List Oper}{d d2:Option Tmp}{ty ty2:TypeId}{pos pos2:String}{af af2:Array Edge}{g g2:Option (Nat×Bool)}{t t' e n len cap b i j off c:Nat}{d' d2':Option Nat}{x y z:Operand}{v u:Value}{k kk:IntKind}{m q r:Int}{l l':List Value}{T:TypeId}
theorem W.ex{vs:List Value}(h:SL P C L Q rest (pt ρ d' v) H)(hx:ev ρ x=some (.tuple vs.toArray):=by exact rfl)(hv:vs[i]?=some v:=by exact rfl)(hg:gd L ρ ⟨d,.extract x i,ty,pos,af,g⟩=some true:=by exact rfl)(hd:dk C.n d=some d':=by exact rfl):SL P C L Q (⟨d,.extract x i,ty,pos,af,g⟩::rest) ρ H:=SL.pu (p_ext rfl hx hv) hg hd h
theorem W.cst{a:Option Addr}{mm:Nat}{bs:List UInt8} [SliceTy P t e n] [IntTy P e .u8] [StrTy P t'](hsrc:∀ w,St C.K C.w0 H w→SrcOf P w (.slice a len cap) 1 mm (bs.map fun b=>.int .u8 (b.toNat:Int)))(h:SL P C L Q rest (pt ρ d' (.string (strV bs))) H)(hx:ev ρ x=some (.slice a len cap):=by exact rfl)(hg:gd L ρ ⟨d,.convert t t' x,ty,pos,af,g⟩=some true:=by exact rfl)(hd:dk C.n d=some d':=by exact rfl):SL P C L Q (⟨d,.convert t t' x,ty,pos,af,g⟩::rest) ρ H:=
 SL.pu (p_cvst (m:=(mm:Int)) rfl hx (by simpa using hsrc)) hg hd h
theorem W.est{a c:ByteArray}(hk:SL P C L Q rest (pt ρ d' (.bool (a.toList == c.toList))) H)(hx:ev ρ x=some (.string a):=by exact rfl)(hy:ev ρ y=some (.string c):=by exact rfl)(hg:gd L ρ ⟨d,.binOp .eql t x y t',ty,pos,af,g⟩=some true:=by exact rfl)(hd:dk C.n d=some d':=by exact rfl):SL P C L Q (⟨d,.binOp .eql t x y t',ty,pos,af,g⟩::rest) ρ H:=SL.pu (p_eqst rfl hx hy) hg hd hk
theorem W.nst{a c:ByteArray}(hk:SL P C L Q rest (pt ρ d' (.bool !(a.toList == c.toList))) H)(hx:ev ρ x=some (.string a):=by exact rfl)(hy:ev ρ y=some (.string c):=by exact rfl)(hg:gd L ρ ⟨d,.binOp .neq t x y t',ty,pos,af,g⟩=some true:=by exact rfl)(hd:dk C.n d=some d':=by exact rfl):SL P C L Q (⟨d,.binOp .neq t x y t',ty,pos,af,g⟩::rest) ρ H:=SL.pu (p_nest rfl hx hy) hg hd hk
theorem run_mark{w:World}{b o n c:Nat}{l:List Value}{T:TypeId} [ht:SliceTy P t e 1] [he:IntTy P e .u8](hb:w.heap[b]?=some (cl l T)) :
  (convert t t (.slice (some ⟨b,o,none⟩) n c)).run P w=.ok (.slice (some ⟨b,o,none⟩) n c) (w.freeze ⟨b,l.length,none⟩ 1):=by
 have hsh:w.shape? b=some (T,l.length):=by unfold World.shape?;rw [hb];simp
 simp [convert,run_underlying ht.ok,run_underlying he.ok,markStringish,hsh]
theorem freeze_heap(w:World)(b k i:Nat)(l:List Value)(T:TypeId)(hb:w.heap[b]?=some (cl l T)):(w.freeze ⟨b,k,none⟩ 1).heap[i]?=if i=b then some (.cells l.toArray T (k,k+1)) else w.heap[i]?:=by
 unfold World.freeze
 rw [if_neg (by decide)]
 show (w.heap.modify b _)[i]?=_
 rw [Array.getElem?_modify]
 by_cases h:b=i
 ·subst h;simp [hb]
 ·simp [h,Ne.symm h]
theorem W.mk [ht:SliceTy P t e 1] [he:IntTy P e .u8](hk:SL P C L Q rest (pt ρ d' (.slice (some ⟨b,j,none⟩) n c)) H')(hx:ev ρ x=some (.slice (some ⟨b,j,none⟩) n c):=by exact rfl)(hat:At H b (cl l T):=by infer_instance)(hup:Upd H b (.cells l.toArray T (l.length,l.length+1)) H':=by infer_instance)(hg:gd L ρ ⟨d,.convert t t x,ty,pos,af,g⟩=some true:=by exact rfl)(hd:dk C.n d=some d':=by exact rfl):SL P C L Q (⟨d,.convert t t x,ty,pos,af,g⟩::rest) ρ H:=
 SL.eff hg hd fun a w hf hs=>⟨_,w.freeze ⟨b,l.length,none⟩ 1,H',.inl (by unfold execOp;simp [hf.eval hx,run_mark (P:=P) (t:=t) hs.at]),
  hs.set (b:=b) (o':=.cells l.toArray T (l.length,l.length+1)) (by unfold World.freeze;simp) (by rw [freeze_heap w b _ b l T hs.at,if_pos rfl]) (fun k hk=>by rw [freeze_heap w b _ k l T hs.at,if_neg hk]) rfl rfl rfl,hk⟩
theorem Rd.at{K:List Nat}{w0 w:World}{H:Hp}{b o n len cap:Nat}{l ys:List Value}{T:TypeId}{fz:Nat×Nat}(bs:List Nat){Hc r:Hp}(hs:St K w0 H w) [hp:Sel H bs Hc r] [ha:At r b (.cells l.toArray T fz)](hy:(l.drop o).take (len*n)=ys)(hl:ys.length=len*n)(hc:len≤cap):Rd bs w n (.slice (some ⟨b,o,none⟩) len cap) ys:=by
 have hs2:=hs.perm hp.perm
 have hm:=ha.mem
 refine⟨_,len,cap,rfl,hl,hc,.inr ⟨b,o,l,T,fz,rfl,hs2.own b _ (List.mem_append_right _ hm),fun hb=>?_,hy⟩⟩
 have hn:=hs2.nodup
 rw [List.map_append] at hn
 rw [← hp.keys] at hb
 exact (List.nodup_append.1 hn).2.2 b hb b (List.mem_map.2 ⟨_,hm,rfl⟩) rfl
end
theorem F.c0{P:Program}{C:Ctx}{ρ:Fr}{H:Hp}{fn:Func}{R:Value→Hp→Prop}{e:Exit}{t ty n b:Nat}{l:List Value}{T:TypeId}(l2:List Value)(hR:R (.agg l2.toArray) [])(he:e=.ret∨e=.normal:=by first|exact .inl rfl|exact .inr rfl)(hrs:fn.results=#[.cell t ty]:=by exact rfl)(ht:lk ρ t=some (.pointer (some ⟨b,0,none⟩)):=by exact rfl)(hat:At H b (cl l T):=by infer_instance)(hl:l=l2:=by first|assumption|exact rfl)(iR:RowTy P ty n:=by infer_instance)(hn:l2.length=n:=by first|assumption|exact rfl):Fin P C fn R e ρ H:=by
 subst hl
 exact Fin.c1 (Hc:=[]) he hrs ht hn hR
end Go.Proofs.YtnigolgkkjidiaaGreat
namespace Go.Proofs.YtnigolgkkjidiaaGreat
open Go
instance Keep.app(H A R r:Hp) [h1:Part H A r] [h2:Keep R H]:Keep (A++R) H:=⟨fun x hx=>by
 rcases List.mem_append.1 hx with hx|hx
 ·exact h1.perm.mem_iff.2 (List.mem_append_left _ hx)
 ·exact h2.ok x hx⟩
abbrev cbs(bs:List UInt8):List Value:=bs.map fun b=>.int .u8 (b.toNat:Int)
section
variable {P:Program}{C:Ctx}{ρ:Fr}{H:Hp}{o:Oper}{t t' e n len cap b j i c:Nat}{x y z:Operand}
theorem p_nestf{a c:ByteArray}(ho:o.op=.binOp .neq t x y t')(hx:ev ρ x=some (.string a))(hy:ev ρ y=some (.string c))(h:a=c):Pu P C ρ H o (.bool false):=by
 have:=p_nest (P:=P) (C:=C) (H:=H) ho hx hy;subst h;simpa using this
theorem p_eqstt{a c:ByteArray}(ho:o.op=.binOp .eql t x y t')(hx:ev ρ x=some (.string a))(hy:ev ρ y=some (.string c))(h:a=c):Pu P C ρ H o (.bool true):=by
 have:=p_eqst (P:=P) (C:=C) (H:=H) ho hx hy;subst h;simpa using this
theorem p_eqbt{a c:Bool} [BoolTy P t](ho:o.op=.binOp .eql t x y t')(hx:ev ρ x=some (.bool a))(hy:ev ρ y=some (.bool c))(h:a=c):Pu P C ρ H o (.bool true):=by
 have:=p_eqb (P:=P) (C:=C) (H:=H) ho hx hy;subst h;simpa using this
theorem run_cvst{w:World}{a:Option Addr}{m:Nat}{bs:List UInt8} [h1:SliceTy P t e n] [h2:IntTy P e .u8] [h3:StrTy P t'](hs:SrcOf P w (.slice a len cap) 1 m (cbs bs)):(convert t t' (.slice a len cap)).run P w=.ok (.string (strV bs)) w:=by
 have key:=run_loadCells_of hs
 have hc:=run_convert_bytes_string (P:=P) w t t' e a len cap h1.ok h2.ok h3.ok
 rw [hc]
 rcases key.2 with ⟨rfl,h⟩|⟨ad,rfl,h⟩
 ·have:bs=[]:=by simpa using h
  subst this
  simp [Conv.bytesToString];rfl
 ·have:=run_bytesToString (P:=P) w ad len cap (bs.map fun b=>(b.toNat:Int)) (by rw [h];simp)
  rw [this,foldl_bytes];rfl
end
section
variable {P:Program}{C:Ctx}{Q:Exit→Fr→Hp→Prop}{ρ:Fr}{H H':Hp}{L l rest:List Oper}{o:Oper}{B:List Nat}{R R':Hp}{fuel:Nat}{listed:Array Bool}
theorem SS.cstS{t t' e n:Nat}{x:Operand}{v:Value}{bs:List UInt8}{Hs rr:Hp}(hv:Sl e 1 v (cbs bs) Hs) [hp:Part H Hs rr](i:Nat)(Ws:List Nat)(hi:L[i]?=some o){d':Option Nat}(hk:SS P C L Q B (Hs++R) fuel (listed.setIfInBounds i true) (pt ρ d' (.string (strV bs))) H)(hok:canL L B listed i Ws=true:=by kernel_rfl)(ho:o.op=.convert t t' x:=by exact rfl)(h1:SliceTy P t e n:=by infer_instance)(h2:IntTy P e .u8:=by infer_instance)(h3:StrTy P t':=by infer_instance)(hx:ev ρ x=some v:=by exact rfl)(hg:gd L ρ o=some true:=by exact rfl)(hd:dk C.n o.dst=some d':=by exact rfl)(hQ:∀ c ρ H,Q (.panic c) ρ H→False:=by exact fun _ _ _ h=>Fin.np h):SS P C L Q B R (fuel+1) listed ρ H:=
 SS.putL (R':=Hs++R) i Ws hi hok hQ (fun x hx=>List.mem_append_right _ hx) (fun x hx=>(List.mem_append.1 hx).elim (fun h=>.inr (hp.perm.mem_iff.2 (List.mem_append_left _ h))) .inl) (fun a hf=>.inl ⟨gd_wanted hf hg,fun w hr=>by
  unfold execOp;rw [ho]
  rcases hv with ⟨rfl,hb,rfl⟩|⟨b,len,cap,junk,rfl,hl,hj,hlc,rfl⟩
  ·have:bs=[]:=by simpa using hb
   subst this
   simp [hf.eval hx,run_cvst (P:=P) (t:=t) (t':=t') (e:=e) (n:=n) (m:=0) (bs:=[]) (SrcOf.empty w none 0 1)]
  ·have hb:w.heap[b]?=some (cl (cbs bs++junk) e):=hr.2 (b,cl (cbs bs++junk) e) (by simp)
   have hs:SrcOf P w (.slice (some ⟨b,0,none⟩) len cap) 1 len (cbs bs):=SrcOf.block hb (by rw [List.drop_zero,← hl,List.take_left'];rfl) hl
   simp [hf.eval hx,run_cvst (P:=P) (t:=t) (t':=t') (e:=e) (n:=n) hs]⟩) hd hk
end
section
variable {P:Program}{C:Ctx}{Q:Exit→Fr→Hp→Prop}{ρ:Fr}{H H':Hp}{L rest:List Oper}{d d2:Option Tmp}{ty ty2:TypeId}{pos pos2:String}{af af2:Array Edge}{g g2:Option (Nat×Bool)}{t t' e n:Nat}{d':Option Nat}{x:Operand}{v:Value}
end
section
variable {P:Program}{C:Ctx}{Q:Exit→Fr→Hp→Prop}{ρ:Fr}{H H':Hp}{L rest:List Oper}{d:Option Tmp}{ty:TypeId}{pos:String}{af:Array Edge}{g:Option (Nat×Bool)}{t t' e n:Nat}{d':Option Nat}{x y:Operand}
end
theorem Rd.atH{K:List Nat}{w0 w:World}{H Hc r:Hp}{b o n len cap:Nat}{l ys:List Value}{T:TypeId}{fz:Nat×Nat}(hs:St K w0 H w)(hp:Part H (Hc++[(b,.cells l.toArray T fz)]) r)(hy:(l.drop o).take (len*n)=ys)(hl:ys.length=len*n)(hc:len≤cap):Rd (Hc.map Prod.fst) w n (.slice (some ⟨b,o,none⟩) len cap) ys:=by
 have hs2:=hs.perm hp.perm
 refine⟨_,len,cap,rfl,hl,hc,.inr ⟨b,o,l,T,fz,rfl,hs2.own b _ (by simp),fun hb=>?_,hy⟩⟩
 have hn:=hs2.nodup
 simp only [List.map_append,List.append_assoc] at hn
 exact (List.nodup_append.1 hn).2.2 b hb b (by simp) rfl
end Go.Proofs.YtnigolgkkjidiaaGreat
namespace Go.Proofs.YtnigolgkkjidiaaGreat
open Go
instance(k:IntKind)(n:Int):OC (vl (.int k n)):=inferInstanceAs (OC [.int k n])
instance(a:Option Addr)(l c:Nat):OC (vl (.slice a l c)):=inferInstanceAs (OC [.slice a l c])
instance(l:List Value) [h:OC l]:OC (vl (.agg l.toArray)):=⟨fun v hv=>h.ok v (by simpa [vl] using hv)⟩
theorem wrap32(n:Int):IntKind.u32.wrap n=n%4294967296:=rfl
theorem wrap8(n:Int):IntKind.u8.wrap n=n%256:=rfl
theorem wrapu64(n:Int):IntKind.u64.wrap n=n%18446744073709551616:=rfl
class U32(i:Int)(a:outParam UInt32):Prop where
 ok:i=(a.toNat:Int)
class U64(i:Int)(a:outParam UInt64):Prop where
 ok:i=(a.toNat:Int)
class U8(i:Int)(a:outParam UInt8):Prop where
 ok:i=(a.toNat:Int)
instance(a:UInt32):U32 (a.toNat:Int) a:=⟨rfl⟩
instance(a:UInt64):U64 (a.toNat:Int) a:=⟨rfl⟩
instance(a:UInt8):U8 (a.toNat:Int) a:=⟨rfl⟩
instance:U8 1 1:=⟨rfl⟩
instance:U32 0 0:=⟨rfl⟩
instance:U32 256 256:=⟨rfl⟩
instance:U32 65536 65536:=⟨rfl⟩
instance:U32 16777216 16777216:=⟨rfl⟩
instance:U64 0 0:=⟨rfl⟩
instance:U64 1 1:=⟨rfl⟩
instance:U64 8 8:=⟨rfl⟩
instance:U64 256 256:=⟨rfl⟩
instance:U64 4294967295 4294967295:=⟨rfl⟩
theorem ofInt32(a:UInt32):BitVec.ofInt IntKind.u32.bits (a.toNat:Int)=a.toBitVec:=by
 show BitVec.ofInt 32 _=_
 apply BitVec.eq_of_toNat_eq
 rw [BitVec.toNat_ofInt]
 have:=a.toNat_lt
 show ((a.toNat:Int)%4294967296).toNat=a.toNat
 omega
theorem ofInt64(a:UInt64):BitVec.ofInt IntKind.u64.bits (a.toNat:Int)=a.toBitVec:=by
 show BitVec.ofInt 64 _=_
 apply BitVec.eq_of_toNat_eq
 rw [BitVec.toNat_ofInt]
 have:=a.toNat_lt
 show ((a.toNat:Int)%18446744073709551616).toNat=a.toNat
 omega
theorem nat32(v:BitVec 32):IntKind.u32.wrap ((v.toNat:Nat):Int)=((UInt32.ofBitVec v).toNat:Int):=by
 rw [wrap32]
 have:v.toNat<4294967296:=v.isLt
 show _=((v.toNat:Nat):Int)
 omega
theorem nat64(v:BitVec 64):IntKind.u64.wrap ((v.toNat:Nat):Int)=((UInt64.ofBitVec v).toNat:Int):=by
 rw [wrapu64]
 have:v.toNat<18446744073709551616:=v.isLt
 show _=((v.toNat:Nat):Int)
 omega
section
variable {m n:Int}
instance{a b:UInt32} [h1:U32 m a] [h2:U32 n b]:UAr .add .u32 m n ((a+b).toNat:Int):=⟨fun P w t=>by
 rw [h1.ok,h2.ok]
 have h:IntKind.u32.wrap ((a.toNat:Int)+b.toNat)=((a+b).toNat:Int):=by
  rw [wrap32,UInt32.toNat_add];simp
 simp [binOp,Op.intArith,h]⟩
instance{a b:UInt32} [h1:U32 m a] [h2:U32 n b]:UAr .mul .u32 m n ((a*b).toNat:Int):=⟨fun P w t=>by
 rw [h1.ok,h2.ok]
 have h:IntKind.u32.wrap ((a.toNat:Int)*b.toNat)=((a*b).toNat:Int):=by
  rw [wrap32,UInt32.toNat_mul];simp
 simp [binOp,Op.intArith,h]⟩
instance{a b:UInt32} [h1:U32 m a] [h2:U32 n b]:UAr .and .u32 m n ((a &&& b).toNat:Int):=⟨fun P w t=>by
 rw [h1.ok,h2.ok]
 simp only [binOp,Op.intBits,ne_eq,not_true_eq_false,if_false,Sem.run_pure,ofInt32];exact congrArg (fun z=>Result.ok (Value.int .u32 z) w) (nat32 _)⟩
instance{a b:UInt32} [h1:U32 m a] [h2:U32 n b]:UAr .or .u32 m n ((a ||| b).toNat:Int):=⟨fun P w t=>by
 rw [h1.ok,h2.ok]
 simp only [binOp,Op.intBits,ne_eq,not_true_eq_false,if_false,Sem.run_pure,ofInt32];exact congrArg (fun z=>Result.ok (Value.int .u32 z) w) (nat32 _)⟩
instance{a b:UInt32} [h1:U32 m a] [h2:U32 n b]:UAr .xor .u32 m n ((a ^^^ b).toNat:Int):=⟨fun P w t=>by
 rw [h1.ok,h2.ok]
 simp only [binOp,Op.intBits,ne_eq,not_true_eq_false,if_false,Sem.run_pure,ofInt32];exact congrArg (fun z=>Result.ok (Value.int .u32 z) w) (nat32 _)⟩
instance{a b:UInt64} [h1:U64 m a] [h2:U64 n b]:UAr .add .u64 m n ((a+b).toNat:Int):=⟨fun P w t=>by
 rw [h1.ok,h2.ok]
 have h:IntKind.u64.wrap ((a.toNat:Int)+b.toNat)=((a+b).toNat:Int):=by
  rw [wrapu64,UInt64.toNat_add];simp
 simp [binOp,Op.intArith,h]⟩
instance{a b:UInt64} [h1:U64 m a] [h2:U64 n b]:UAr .mul .u64 m n ((a*b).toNat:Int):=⟨fun P w t=>by
 rw [h1.ok,h2.ok]
 have h:IntKind.u64.wrap ((a.toNat:Int)*b.toNat)=((a*b).toNat:Int):=by
  rw [wrapu64,UInt64.toNat_mul];simp
 simp [binOp,Op.intArith,h]⟩
instance{a b:UInt64} [h1:U64 m a] [h2:U64 n b]:UAr .and .u64 m n ((a &&& b).toNat:Int):=⟨fun P w t=>by
 rw [h1.ok,h2.ok]
 simp only [binOp,Op.intBits,ne_eq,not_true_eq_false,if_false,Sem.run_pure,ofInt64];exact congrArg (fun z=>Result.ok (Value.int .u64 z) w) (nat64 _)⟩
instance{a b:UInt64} [h1:U64 m a] [h2:U64 n b]:UAr .or .u64 m n ((a ||| b).toNat:Int):=⟨fun P w t=>by
 rw [h1.ok,h2.ok]
 simp only [binOp,Op.intBits,ne_eq,not_true_eq_false,if_false,Sem.run_pure,ofInt64];exact congrArg (fun z=>Result.ok (Value.int .u64 z) w) (nat64 _)⟩
class UShl(k:IntKind)(m n:Int)(r:outParam Int):Prop where
 ok:0≤n∧k.wrap (m*2^(min n.toNat k.bits))=r
class UShr(k:IntKind)(m n:Int)(r:outParam Int):Prop where
 ok:0≤n∧m.fdiv (2^(min n.toNat k.bits))=r
class Lt32(n:Int)(k:outParam UInt32):Prop where
 ok:n=(k.toNat:Int)
 lt:k.toNat<32
class Lt64(n:Int)(k:outParam UInt64):Prop where
 ok:n=(k.toNat:Int)
 lt:k.toNat<64
instance:Lt32 3 3:=⟨rfl,by decide⟩
instance:Lt32 8 8:=⟨rfl,by decide⟩
instance:Lt32 10 10:=⟨rfl,by decide⟩
instance:Lt32 16 16:=⟨rfl,by decide⟩
instance:Lt32 24 24:=⟨rfl,by decide⟩
instance:Lt64 1 1:=⟨rfl,by decide⟩
instance:Lt64 32 32:=⟨rfl,by decide⟩
instance{a k:UInt32} [h1:U32 m a] [h2:Lt32 n k]:UShl .u32 m n ((a <<< k).toNat:Int):=⟨by
 rw [h1.ok,h2.ok]
 have hk:=h2.lt
 refine⟨by omega,?_⟩
 rw [wrap32,Int.toNat_natCast,Nat.min_eq_left (by show k.toNat≤32;omega),UInt32.toNat_shiftLeft,Nat.mod_eq_of_lt hk,Nat.shiftLeft_eq]
 simp⟩
instance{a k:UInt32} [h1:U32 m a] [h2:Lt32 n k]:UShr .u32 m n ((a >>> k).toNat:Int):=⟨by
 rw [h1.ok,h2.ok]
 have hk:=h2.lt
 refine⟨by omega,?_⟩
 rw [Int.toNat_natCast,Nat.min_eq_left (by show k.toNat≤32;omega),UInt32.toNat_shiftRight,Nat.mod_eq_of_lt hk,Nat.shiftRight_eq_div_pow,Int.fdiv_eq_ediv_of_nonneg _ (by exact_mod_cast Nat.zero_le _)]
 simp⟩
instance{a k:UInt64} [h1:U64 m a] [h2:Lt64 n k]:UShl .u64 m n ((a <<< k).toNat:Int):=⟨by
 rw [h1.ok,h2.ok]
 have hk:=h2.lt
 refine⟨by omega,?_⟩
 rw [wrapu64,Int.toNat_natCast,Nat.min_eq_left (by show k.toNat≤64;omega),UInt64.toNat_shiftLeft,Nat.mod_eq_of_lt hk,Nat.shiftLeft_eq]
 simp⟩
instance{a k:UInt64} [h1:U64 m a] [h2:Lt64 n k]:UShr .u64 m n ((a >>> k).toNat:Int):=⟨by
 rw [h1.ok,h2.ok]
 have hk:=h2.lt
 refine⟨by omega,?_⟩
 rw [Int.toNat_natCast,Nat.min_eq_left (by show k.toNat≤64;omega),UInt64.toNat_shiftRight,Nat.mod_eq_of_lt hk,Nat.shiftRight_eq_div_pow,Int.fdiv_eq_ediv_of_nonneg _ (by exact_mod_cast Nat.zero_le _)]
 simp⟩
instance{a:UInt64} [h1:U64 m a]:Cv .u32 m (a.toUInt32.toNat:Int):=⟨by
 rw [h1.ok,wrap32,UInt64.toNat_toUInt32];simp⟩
instance{a:UInt64} [h1:U64 m a]:Cv .u8 m (a.toUInt8.toNat:Int):=⟨by
 rw [h1.ok,wrap8,UInt64.toNat_toUInt8];simp⟩
instance{a:UInt32} [h1:U32 m a]:Cv .u8 m (a.toUInt8.toNat:Int):=⟨by
 rw [h1.ok,wrap8,UInt32.toNat_toUInt8];simp⟩
instance{a:UInt32} [h1:U32 m a]:Cv .u64 m (a.toUInt64.toNat:Int):=⟨by
 rw [h1.ok,wrapu64,UInt32.toNat_toUInt64];have:=a.toNat_lt;omega⟩
instance{a:UInt8} [h1:U8 m a]:Cv .u32 m (a.toUInt32.toNat:Int):=⟨by
 rw [h1.ok,wrap32,UInt8.toNat_toUInt32];have:=a.toNat_lt;omega⟩
instance(priority:=low)(n:Nat):Cv .u64 (n:Int) ((UInt64.ofNat n).toNat:Int):=⟨by
 rw [wrapu64,UInt64.toNat_ofNat'];omega⟩
instance{a:UInt8} [h1:U8 m a]:Cv .u64 m (a.toUInt64.toNat:Int):=⟨by
 rw [h1.ok,wrapu64,UInt8.toNat_toUInt64];have:=a.toNat_lt;omega⟩
end
section
variable {P:Program}{C:Ctx}{Q:Exit→Fr→Hp→Prop}{ρ:Fr}{H:Hp}{L rest:List Oper}{d:Option Tmp}{ty:TypeId}{pos:String}{af:Array Edge}{g:Option (Nat×Bool)}{t t':Nat}{d':Option Nat}{x y:Operand}{k kk:IntKind}{m q r:Int}
theorem p_bnot{o:Oper}{a:UInt32} [h:U32 m a](ho:o.op=.unOp .xor t x)(hx:ev ρ x=some (.int .u32 m)):Pu P C ρ H o (.int .u32 ((~~~a).toNat:Int)):=fun ac w hf _=>by
 have hm:=h.ok
 subst hm
 have e:∀ z:BitVec 32,z=BitVec.allOnes 32→IntKind.u32.wrap (((z ^^^ a.toBitVec).toNat:Nat):Int)=((~~~a).toNat:Int):=fun z hz=>by
  subst hz
  refine (nat32 _).trans ?_
  congr 1
 have e2:(Op.unary .xor (.int .u32 (a.toNat:Int)))=Op.intBits .xor .u32 (IntKind.u32.max) (a.toNat:Int):=rfl
 unfold execOp;rw [ho];simp only [hf.eval hx,Sem.run_bind,e2,Op.intBits,ne_eq,not_true_eq_false,if_false,Sem.run_pure,Result.andThen_ok,ofInt32]
 exact congrArg (fun z=>Result.ok (Next.value (Value.int .u32 z)) w) (e _ rfl)
class IsAdd(P:Program)(f:FuncId):Prop where
 ok : ∃ fn, P.funcs[f]? = some fn ∧ (fn.name == "runtime.NumGoroutine") = false ∧ fn.body.isNone = true ∧ Extern.findNext fn = none ∧ Extern.find fn = some add64Entry
theorem W.add64{f:FuncId}{a b:UInt64}{ats:Array TypeId}{y:Operand} [hF:IsAdd P f](h:SL P C L Q rest (pt ρ d' (.tuple #[.int .u64 ((a+b).toNat:Int),.int .u64 (((a.toNat+b.toNat)/18446744073709551616:Nat):Int)])) H)
  (hx:ev ρ x=some (.int .u64 m):=by exact rfl) (i0:U64 m a:=by infer_instance) (hy:ev ρ y=some (.int .u64 q):=by exact rfl) (i1:U64 q b:=by infer_instance)
  (hg:gd L ρ ⟨d,.call { callee:=.value (.func f),args:=#[x,y,.const (.int .u64 0)],argTypes:=ats },ty,pos,af,g⟩=some true:=by exact rfl) (hd:dk C.n d=some d':=by exact rfl) :
  SL P C L Q (⟨d,.call { callee:=.value (.func f),args:=#[x,y,.const (.int .u64 0)],argTypes:=ats },ty,pos,af,g⟩::rest) ρ H:=
 SL.pu (fun ac w hf _=>by
  obtain⟨fn,h1,h2,h3,h4,h5⟩:=hF.ok
  have e:=run_callFunc_extern (P:=P) h1 h2 h3 h4 h5 #[.int .u64 m,.int .u64 q,.int .u64 0] w
  have hm:=i0.ok
  have hq:=i1.ok
  subst hm hq
  rw [run_add64 _ _ _ (by omega) (by omega) (by omega) (by omega)] at e
  have hc:ac.eval (.const (.int .u64 0))=.int .u64 0:=rfl
  have hv:ac.eval (.func f)=.func (.func f) #[] #[]:=rfl
  unfold execOp
  simp only [resolve,Deferred.ofValue,hf.eval hx,hf.eval hy,hc,hv,List.map_toArray,List.map_cons,List.map_nil,Sem.run_bind,Sem.run_pure,Result.andThen_ok,invoke]
  rw [show (#[]++#[Value.int .u64 (a.toNat:Int),Value.int .u64 (b.toNat:Int),Value.int .u64 0]++#[]:Array Value)=#[Value.int .u64 (a.toNat:Int),Value.int .u64 (b.toNat:Int),Value.int .u64 0] from rfl,e]
  have e3:((a.toNat:Int)+b.toNat+0)%18446744073709551616=((a+b).toNat:Int):=by rw [UInt64.toNat_add];omega
  have e4:((a.toNat:Int)+b.toNat+0)/18446744073709551616=(((a.toNat+b.toNat)/18446744073709551616:Nat):Int):=by omega
  rw [e3,e4]
  rfl) hg hd h
end
end Go.Proofs.YtnigolgkkjidiaaGreat
namespace Go.Proofs.YtnigolgkkjidiaaGreat
open Go
section
variable {P:Program}{C:Ctx}{ρ:Fr}{H:Hp}{o:Oper}{t t' e n len cap b j i c:Nat}{d':Option Nat}{x y z:Operand}{k kk:IntKind}{m q r:Int}{l:List Value}{T:TypeId}{v:Value}
theorem p_load_w [RowTy P t n] [At H b (cl l T)](ho:o.op=.load t x)(hx:ev ρ x=some (.pointer (some ⟨b,0,none⟩)))(hn:l.length=n):Pu P C ρ H o (.agg l.toArray):=
 p_load_a ho hx (by rw [List.drop_zero,List.take_of_length_le (by omega)]) hn
theorem p_ai [ArrTy P t len e 1] [ScalarTy P e] [i0:NatI m i](ho:o.op=.index t x y)(hx:ev ρ x=some (.agg l.toArray))(hy:ev ρ y=some (.int kk m))(hi:i<len)(hv:l[i]?=some v):Pu P C ρ H o v:=
 p_index ho hx hy (by have:=i0.ok;omega) (by have:=i0.ok;omega) (by rw [i0.ok,Int.toNat_natCast,Nat.mul_one];exact hv)
theorem p_shrU [i0:UShr k m q r](ho:o.op=.binOp .shr t x y t')(hx:ev ρ x=some (.int k m))(hy:ev ρ y=some (.int kk q)):Pu P C ρ H o (.int k r):=p_shr ho hx hy i0.ok.1 i0.ok.2
theorem p_shlU [i0:UShl k m q r](ho:o.op=.binOp .shl t x y t')(hx:ev ρ x=some (.int k m))(hy:ev ρ y=some (.int kk q)):Pu P C ρ H o (.int k r):=p_shl ho hx hy i0.ok.1 i0.ok.2
theorem p_addI(ho:o.op=.binOp .add t x y t')(hx:ev ρ x=some (.int .i64 m))(hy:ev ρ y=some (.int .i64 q))(hr : -9223372036854775808≤m+q∧m+q≤9223372036854775807):Pu P C ρ H o (.int .i64 (m+q)):=p_add ho hx hy (w64 hr)
theorem p_subI(ho:o.op=.binOp .sub t x y t')(hx:ev ρ x=some (.int .i64 m))(hy:ev ρ y=some (.int .i64 q))(hr : -9223372036854775808≤m-q∧m-q≤9223372036854775807):Pu P C ρ H o (.int .i64 (m-q)):=p_sub ho hx hy (w64 hr)
theorem p_mulI(ho:o.op=.binOp .mul t x y t')(hx:ev ρ x=some (.int .i64 m))(hy:ev ρ y=some (.int .i64 q))(hr : -9223372036854775808≤m*q∧m*q≤9223372036854775807):Pu P C ρ H o (.int .i64 (m*q)):=p_mul ho hx hy (w64 hr)
theorem p_neg(ho:o.op=.unOp .neg t x)(hx:ev ρ x=some (.int .i64 m))(hr : -9223372036854775807≤m∧m≤9223372036854775807):Pu P C ρ H o (.int .i64 (-m)):=fun ac w hf _=>by
 unfold execOp;rw [ho];simp [hf.eval hx,Op.unary,Op.intArith,w64 (n := -m) (by omega)]
theorem p_sar [ArrTy P t len e n](ho:o.op=.slice t x none none none)(hx:ev ρ x=some (.pointer (some ⟨b,j,none⟩))):Pu P C ρ H o (.slice (some ⟨b,j,none⟩) len len):=by
 have:=p_slice_arr (P:=P) (C:=C) (ρ:=ρ) (H:=H) (o:=o) (l:=0) (h:=len) ho hx (.inl ⟨rfl,rfl⟩) (.inl ⟨rfl,rfl⟩) (Nat.zero_le _) (Nat.le_refl _)
 simpa using this
theorem p_s10e{l:Nat} [SliceTy P t e n] [hi:NatI m l](ho:o.op=.slice t x (some y) none none)(hx:ev ρ x=some (.slice (some ⟨b,j,none⟩) len len))(hy:ev ρ y=some (.int k m))(hh:l=len):Pu P C ρ H o (.slice (some ⟨b,j,none⟩) 0 0):=by
 subst hh
 have:=p_slice (P:=P) (C:=C) (ρ:=ρ) (H:=H) (o:=o) (vl:=none) (vh:=none) ho hx (l:=l) (h:=l) (.inr ⟨y,k,m,rfl,hy,hi.ok⟩) (.inl ⟨rfl,rfl⟩) (Nat.le_refl _) (Nat.le_refl _)
 simpa [sadr] using this
end
section
variable {P:Program}{C:Ctx}{Q:Exit→Fr→Hp→Prop}{ρ:Fr}{H:Hp}{L rest:List Oper}{d:Option Tmp}{ty:TypeId}{pos:String}{af:Array Edge}{g:Option (Nat×Bool)}{d':Option Nat}{v:Value}
theorem W.zl {t:TypeId} {x:Operand} (h:SL P C L Q rest (pt ρ d' v) H) (hg:gd L ρ ⟨d,.load t x,ty,pos,af,g⟩=some true:=by exact rfl) (hp:Pu P C ρ H ⟨d,.load t x,ty,pos,af,g⟩ v:=by first
  | exact p_load_s rfl rfl (by first|exact rfl|assumption)
  | exact p_load_w rfl rfl (by first|assumption|exact rfl)
  | exact p_load_a rfl rfl (by first|assumption|exact rfl) (by first|assumption|exact rfl)
  | exact p_load_sR rfl rfl (by assumption) (by assumption) (by first|exact rfl|assumption)
  | exact p_load_aR rfl rfl (by assumption) (by assumption) (by first|assumption|exact rfl) (by first|assumption|exact rfl)
  ) (hd:dk C.n d=some d':=by exact rfl):SL P C L Q (⟨d,.load t x,ty,pos,af,g⟩::rest) ρ H:=SL.pu hp hg hd h
theorem W.zb {t t':TypeId} {x y:Operand} {bo:BinOp} (h:SL P C L Q rest (pt ρ d' v) H) (hg:gd L ρ ⟨d,.binOp bo t x y t',ty,pos,af,g⟩=some true:=by exact rfl) (hb:isCmp bo=true:=by exact rfl) (hp:Pu P C ρ H ⟨d,.binOp bo t x y t',ty,pos,af,g⟩ v:=by first
  | exact Pu.t (p_cmp rfl rfl rfl rfl) (by dsimp only [cmpP];first|done|omega)
  | exact Pu.f (p_cmp rfl rfl rfl rfl) (by dsimp only [cmpP];first|done|omega)
  | exact p_eqnil rfl rfl rfl
  | exact p_nenil rfl rfl rfl
  | exact p_eqslnil rfl rfl rfl
  | exact p_neslnil rfl rfl rfl
  | exact p_eqb rfl rfl rfl
  | exact p_neb rfl rfl rfl
  | exact p_eqstt rfl rfl rfl rfl
  | exact p_eqst rfl rfl rfl
  | exact p_nest rfl rfl rfl
  ) (hd:dk C.n d=some d':=by exact rfl):SL P C L Q (⟨d,.binOp bo t x y t',ty,pos,af,g⟩::rest) ρ H:=SL.pu hp hg hd h
theorem W.za {t t':TypeId} {x y:Operand} {bo:BinOp} (h:SL P C L Q rest (pt ρ d' v) H) (hg:gd L ρ ⟨d,.binOp bo t x y t',ty,pos,af,g⟩=some true:=by exact rfl) (hb:isCmp bo=false:=by exact rfl) (hp:Pu P C ρ H ⟨d,.binOp bo t x y t',ty,pos,af,g⟩ v:=by first
  | exact p_addI rfl rfl rfl (by omega)
  | exact p_subI rfl rfl rfl (by omega)
  | exact p_mulI rfl rfl rfl (by omega)
  | exact p_quoP rfl rfl rfl (by omega) (by omega) (by omega)
  | exact p_remP rfl rfl rfl (by omega) (by omega)
  | exact p_shlU rfl rfl rfl
  | exact p_shrU rfl rfl rfl
  | exact p_uar rfl rfl rfl
  ) (hd:dk C.n d=some d':=by exact rfl):SL P C L Q (⟨d,.binOp bo t x y t',ty,pos,af,g⟩::rest) ρ H:=SL.pu hp hg hd h
theorem W.zc {bn:Go.Builtin} {xs:Array Operand} {ats:Array TypeId} (h:SL P C L Q rest (pt ρ d' v) H) (hg:gd L ρ ⟨d,.call { callee:=.builtin bn,args:=xs,argTypes:=ats },ty,pos,af,g⟩=some true:=by exact rfl) (hp:Pu P C ρ H ⟨d,.call { callee:=.builtin bn,args:=xs,argTypes:=ats },ty,pos,af,g⟩ v:=by first
  | exact p_len_slice rfl rfl
  | exact p_min rfl rfl rfl rfl
  | exact p_max rfl rfl rfl rfl
  | exact p_len_arr rfl rfl
  | exact p_len_str rfl rfl
  | exact p_cap_slice rfl rfl
  ) (hd:dk C.n d=some d':=by exact rfl):SL P C L Q (⟨d,.call { callee:=.builtin bn,args:=xs,argTypes:=ats },ty,pos,af,g⟩::rest) ρ H:=SL.pu hp hg hd h
theorem W.zs {t:TypeId} {x:Operand} {lo hi:Option Operand} (h:SL P C L Q rest (pt ρ d' v) H) (hg:gd L ρ ⟨d,.slice t x lo hi none,ty,pos,af,g⟩=some true:=by exact rfl) (hp:Pu P C ρ H ⟨d,.slice t x lo hi none,ty,pos,af,g⟩ v:=by first
  | exact p_sl01 rfl rfl rfl (by omega)
  | exact p_sl10 rfl rfl rfl (by omega) (by omega) (by omega)
  | exact p_sl11 rfl rfl rfl rfl (by omega) (by omega)
  | exact p_s10e rfl rfl rfl (by omega)
  | exact p_sar rfl rfl
  ) (hd:dk C.n d=some d':=by exact rfl):SL P C L Q (⟨d,.slice t x lo hi none,ty,pos,af,g⟩::rest) ρ H:=SL.pu hp hg hd h
theorem W.zd {t:TypeId} {ps:Array (Nat×Operand)} (h:SL P C L Q rest (pt ρ d' v) H) (hg:gd L ρ ⟨d,.build t ps,ty,pos,af,g⟩=some true:=by exact rfl) (hp:Pu P C ρ H ⟨d,.build t ps,ty,pos,af,g⟩ v:=by first
  | exact p_build rfl rfl (by first|assumption|exact rfl)
  | exact p_build_arr rfl rfl (by first|assumption|exact rfl)
  ) (hd:dk C.n d=some d':=by exact rfl):SL P C L Q (⟨d,.build t ps,ty,pos,af,g⟩::rest) ρ H:=SL.pu hp hg hd h
theorem W.zf {t i:Nat} {x:Operand} (h:SL P C L Q rest (pt ρ d' v) H) (hg:gd L ρ ⟨d,.field t x i,ty,pos,af,g⟩=some true:=by exact rfl) (hp:Pu P C ρ H ⟨d,.field t x i,ty,pos,af,g⟩ v:=by first
  | exact p_field rfl rfl (by first|exact rfl|assumption)
  | exact p_field_a rfl rfl (by first|assumption|exact rfl)
  ) (hd:dk C.n d=some d':=by exact rfl):SL P C L Q (⟨d,.field t x i,ty,pos,af,g⟩::rest) ρ H:=SL.pu hp hg hd h
theorem W.zv {t t':TypeId} {x:Operand} (h:SL P C L Q rest (pt ρ d' v) H) (hg:gd L ρ ⟨d,.convert t t' x,ty,pos,af,g⟩=some true:=by exact rfl) (hp:Pu P C ρ H ⟨d,.convert t t' x,ty,pos,af,g⟩ v:=by first
  | exact p_cvi rfl rfl (by omega)
  | exact p_cv rfl rfl
  ) (hd:dk C.n d=some d':=by exact rfl):SL P C L Q (⟨d,.convert t t' x,ty,pos,af,g⟩::rest) ρ H:=SL.pu hp hg hd h
theorem W.zu {t:TypeId} {x:Operand} {uo:UnOp} (h:SL P C L Q rest (pt ρ d' v) H) (hg:gd L ρ ⟨d,.unOp uo t x,ty,pos,af,g⟩=some true:=by exact rfl) (hp:Pu P C ρ H ⟨d,.unOp uo t x,ty,pos,af,g⟩ v:=by first
  | exact p_not rfl rfl
  | exact p_neg rfl rfl (by omega)
  | exact p_bnot rfl rfl
  ) (hd:dk C.n d=some d':=by exact rfl):SL P C L Q (⟨d,.unOp uo t x,ty,pos,af,g⟩::rest) ρ H:=SL.pu hp hg hd h
theorem W.zp {x y z:Operand} (h:SL P C L Q rest (pt ρ d' v) H) (hg:gd L ρ ⟨d,.pick x y z,ty,pos,af,g⟩=some true:=by exact rfl) (hp:Pu P C ρ H ⟨d,.pick x y z,ty,pos,af,g⟩ v:=by first
  | exact p_pick_t rfl rfl rfl
  | exact p_pick_f rfl rfl rfl
  ) (hd:dk C.n d=some d':=by exact rfl):SL P C L Q (⟨d,.pick x y z,ty,pos,af,g⟩::rest) ρ H:=SL.pu hp hg hd h
theorem W.zi {t:TypeId} {x y:Operand} (h:SL P C L Q rest (pt ρ d' v) H) (hg:gd L ρ ⟨d,.indexAddr t x y,ty,pos,af,g⟩=some true:=by exact rfl) (hp:Pu P C ρ H ⟨d,.indexAddr t x y,ty,pos,af,g⟩ v:=by first
  | exact p_ix rfl rfl rfl (by omega)
  | exact p_ixa rfl rfl rfl (by omega)
  ) (hd:dk C.n d=some d':=by exact rfl):SL P C L Q (⟨d,.indexAddr t x y,ty,pos,af,g⟩::rest) ρ H:=SL.pu hp hg hd h
theorem W.zx {t:TypeId} {x y:Operand} (h:SL P C L Q rest (pt ρ d' v) H) (hg:gd L ρ ⟨d,.index t x y,ty,pos,af,g⟩=some true:=by exact rfl) (hp:Pu P C ρ H ⟨d,.index t x y,ty,pos,af,g⟩ v:=by first
  | exact p_ai rfl rfl rfl (by omega) (by first|exact rfl|assumption)
  ) (hd:dk C.n d=some d':=by exact rfl):SL P C L Q (⟨d,.index t x y,ty,pos,af,g⟩::rest) ρ H:=SL.pu hp hg hd h
end
end Go.Proofs.YtnigolgkkjidiaaGreat
namespace Go.Proofs.YtnigolgkkjidiaaGreat
open Go
def clo(L:List Oper)(listed:Array Bool)(i:Nat):List Nat:=
 (List.range L.length).foldl (fun acc j=>bif (!listed.getD j true&&match L[j]? with|some o=>o.after.any fun e=>Region.binds .any e&&(Nat.beq e.on i||acc.contains e.on)|none=>false) then acc++[j] else acc) []
def StepS(P:Program)(C:Ctx)(L:List Oper)(B:List Nat)(R R' H:Hp)(i:Nat)(listed:Array Bool)(ρ:Fr)(o:Oper)(v:Value):Prop:=
 (canS L B listed i=true∧R'=R∧∀ a,Fits C.ds C.n ρ a→YieldsIf P L.toArray (Rk C []) o v a) ∨
 (canL L B listed i (clo L listed i)=true∧(∀ x∈R,x∈R')∧(∀ x∈R',x∈R∨x∈H)∧∀ a,Fits C.ds C.n ρ a→YieldsIf P L.toArray (Rk C R') o v a)
abbrev SG(P:Program)(C:Ctx)(L:List Oper)(Q:Exit→Fr→Hp→Prop)(B:List Nat)(S:List Nat)(R:Hp)(fuel:Nat)(listed:Array Bool)(ρ:Fr)(H:Hp):Prop:=SS P C L Q B R fuel listed ρ H
section
variable {P:Program}{C:Ctx}{Q:Exit→Fr→Hp→Prop}{ρ:Fr}{H:Hp}{L:List Oper}{o:Oper}{B:List Nat}{R R':Hp}{fuel i:Nat}{listed:Array Bool}{v:Value}
theorem StepS.t(h:Pu P C ρ [] o v)(hg:gd L ρ o=some true)(hok:canS L B listed i=true):StepS P C L B R R H i listed ρ o v:=
 .inl ⟨hok,rfl,fun a hf=>.inl ⟨gd_wanted hf hg,fun w hr=>h a w hf hr.1⟩⟩
theorem StepS.k(hg:gd L ρ o=some false)(hok:canS L B listed i=true):StepS P C L B R R H i listed ρ o undef:=
 .inl ⟨hok,rfl,fun a hf=>.inr ⟨gd_wanted hf hg,rfl⟩⟩
theorem StepS.ls{t b j:Nat}{x:Operand}{lv:List Value}{T:TypeId}(hok:canL L B listed i (clo L listed i)=true)(ho:o.op=.load t x)(iT:ScalarTy P t)(hx:ev ρ x=some (.pointer (some ⟨b,j,none⟩)))(hat:At H b (cl lv T))(hin:Ins R b (cl lv T) R')(hv:lv[j]?=some v)(hg:gd L ρ o=some true):StepS P C L B R R' H i listed ρ o v:=
 .inr ⟨hok,hin.ok.2.1,fun x hx=>(hin.ok.2.2 x hx).elim (fun e=>.inr (e▸hat.mem)) .inl,fun a hf=>.inl ⟨gd_wanted hf hg,fun w hr=>by
  have hb:=hr.2 _ hin.ok.1
  unfold execOp;rw [ho];simp [hf.eval hx,Instr.loadAt,Instr.sureAddr,run_load_s hb hv]⟩⟩
theorem StepS.la{t n b j:Nat}{x:Operand}{lv r:List Value}{T:TypeId}(hok:canL L B listed i (clo L listed i)=true)(ho:o.op=.load t x)(iT:RowTy P t n)(hx:ev ρ x=some (.pointer (some ⟨b,j,none⟩)))(hat:At H b (cl lv T))(hin:Ins R b (cl lv T) R')(hv:(lv.drop j).take n=r)(hn:r.length=n)(hg:gd L ρ o=some true):StepS P C L B R R' H i listed ρ o (.agg r.toArray):=
 .inr ⟨hok,hin.ok.2.1,fun x hx=>(hin.ok.2.2 x hx).elim (fun e=>.inr (e▸hat.mem)) .inl,fun a hf=>.inl ⟨gd_wanted hf hg,fun w hr=>by
  have hb:=hr.2 _ hin.ok.1
  unfold execOp;rw [ho];simp [hf.eval hx,Instr.loadAt,Instr.sureAddr,run_load_a hb hv hn]⟩⟩
theorem StepS.lw{t n b:Nat}{x:Operand}{lv:List Value}{T:TypeId}(hok:canL L B listed i (clo L listed i)=true)(ho:o.op=.load t x)(iT:RowTy P t n)(hx:ev ρ x=some (.pointer (some ⟨b,0,none⟩)))(hat:At H b (cl lv T))(hin:Ins R b (cl lv T) R')(hn:lv.length=n)(hg:gd L ρ o=some true):StepS P C L B R R' H i listed ρ o (.agg lv.toArray):=
 StepS.la hok ho iT hx hat hin (by rw [List.drop_zero,List.take_of_length_le (by omega)]) hn hg
theorem SG.on(S:List Nat)(h:SG P C L Q B S R fuel listed ρ H):SS P C L Q B R fuel listed ρ H:=h
theorem SG.s {S:List Nat} {d':Option Nat} (hk:SG P C L Q B S R' fuel (listed.setIfInBounds i true) (pt ρ d' v) H) (hi:L[i]?=some o:=by exact rfl) (h:StepS P C L B R R' H i listed ρ o v:=by first
  | exact StepS.k rfl (by kernel_rfl)
  | exact StepS.t (by first
    | exact p_move rfl rfl|exact p_assign rfl rfl|exact p_nil rfl rfl|exact p_fieldAddr rfl rfl OfN.ok
    | exact Pu.t (p_cmp rfl rfl rfl rfl) (by dsimp only [cmpP];first|done|omega)|exact Pu.f (p_cmp rfl rfl rfl rfl) (by dsimp only [cmpP];first|done|omega)
    | exact p_eqnil rfl rfl rfl|exact p_nenil rfl rfl rfl|exact p_eqslnil rfl rfl rfl|exact p_neslnil rfl rfl rfl
    | exact p_add rfl rfl rfl (w64 (by omega))|exact p_sub rfl rfl rfl (w64 (by omega))|exact p_mul rfl rfl rfl (w64 (by omega))|exact p_quoP rfl rfl rfl (by omega) (by omega) (by omega)|exact p_remP rfl rfl rfl (by omega) (by omega)|exact p_shlU rfl rfl rfl|exact p_shrU rfl rfl rfl|exact p_uar rfl rfl rfl
    | exact p_pick_t rfl rfl rfl|exact p_pick_f rfl rfl rfl|exact p_not rfl rfl|exact p_ext rfl rfl rfl|exact p_makeFunc rfl rfl rfl|exact p_cv rfl rfl
    | exact p_field rfl rfl (by first|rfl|assumption)|exact p_field_a rfl rfl (by first|assumption|rfl)
    | exact p_build rfl rfl (by first|assumption|rfl)|exact p_build_arr rfl rfl (by first|assumption|rfl)
    | exact p_ix rfl rfl rfl (by omega)|exact p_ixa rfl rfl rfl (by omega)
    | exact p_len_slice rfl rfl|exact p_len_arr rfl rfl|exact p_len_str rfl rfl|exact p_cap_slice rfl rfl|exact p_min rfl rfl rfl rfl|exact p_max rfl rfl rfl rfl) rfl (by kernel_rfl)
  | exact StepS.ls (by kernel_rfl) rfl inferInstance rfl inferInstance inferInstance (by first|exact rfl|assumption) rfl
  | exact StepS.t (p_load_sR rfl rfl (by assumption) (by assumption) (by assumption)) rfl (by kernel_rfl)
  | exact StepS.lw (by kernel_rfl) rfl inferInstance rfl inferInstance inferInstance (by first|assumption|exact rfl) rfl
  | exact StepS.la (by kernel_rfl) rfl inferInstance rfl inferInstance inferInstance (by first|assumption|exact rfl) (by first|assumption|exact rfl) rfl
  | exact StepS.t (p_load_aR rfl rfl (by assumption) (by assumption) (by assumption) (by assumption)) rfl (by kernel_rfl))
  (hd:dk C.n o.dst=some d':=by exact rfl) (hQ:∀ c ρ H,Q (.panic c) ρ H→False:=by exact fun _ _ _ h=>Fin.np h):SG P C L Q B (i::S) R (fuel+1) listed ρ H:=by
 rcases h with ⟨hok,rfl,hy⟩|⟨hok,hRR,hR,hy⟩
 ·exact SS.putW i hi hok hQ hy hd hk
 ·exact SS.putL i _ hi hok hQ hRR hR hy hd hk
theorem SG.d{k:Nat}(h:Q .normal ρ H)(hk:L[k]?=none:=by exact rfl)(hr:(Region.ready .any L.toArray listed).isEmpty=true:=by kernel_rfl):SG P C L Q B [k] R fuel listed ρ H:=SS.done h hr
theorem SG.g{X G:Prop}(h:X)(hn:X→G:=by first|exact fun h=>SG.s h|exact fun h=>SG.d h):G:=hn h
theorem SW.rg{id:Nat}{l:List Oper}(B S:List Nat)(h:SG P C l Q B S [] l.length (Array.replicate l.length false) ρ H)(hm:P.follows .mixedOrders=true:=by kernel_rfl):SW P C (.region id l.toArray true) Q ρ H:=SW.regionS B h hm
theorem SL.nilG(S:List Nat) [hk:Keep R H](h:SG P C L Q B S R fuel listed ρ H):SL P C L (thn (BehS P C L Q B R fuel listed) Q) [] ρ H:=SL.nilB h
end
end Go.Proofs.YtnigolgkkjidiaaGreat
namespace Go.Proofs.YtnigolgkkjidiaaGreat
open Go
attribute [local irreducible] SW SL SQ SH SA SS Pu Fin CutF HandF
theorem W.g1 {X G:Prop} (h:X) (hn:X→G:=by first
  | exact fun h=>W.mv h|exact fun h=>W.zl h|exact fun h=>W.fa h|exact fun h=>W.nl h|exact fun h=>W.as h|exact fun h=>W.zb h|exact fun h=>W.za h|exact fun h=>W.zi h|exact fun h=>W.zc h|exact fun h=>W.zp h
  | exact fun h=>W.st h|exact fun h=>SL.nilB h|exact fun h=>SL.nil h|exact fun h=>W.al h|exact fun h=>W.bx h|exact fun h=>W.bxa h|exact fun h=>W.sw h|exact fun h=>W.sa h|exact fun h=>W.sk h|exact fun h=>W.bs0 h|exact fun h=>W.ma h|exact fun h=>W.bsl h
  | exact fun h=>W.zu h|exact fun h=>W.zf h|exact fun h=>W.zd h|exact fun h=>W.zs h|exact fun h=>W.zv h|exact fun h=>W.zx h|exact fun h=>W.ex h|exact fun h=>W.mf h|exact fun h=>W.mk h):G:=hn h
theorem W.gb {X G:Prop} (h:X) (hn:X→G:=by first
  | exact fun h=>W.g1 h|exact fun h=>SW.seq h|exact fun h=>SW.region h|exact fun h=>SW.cond_t rfl h|exact fun h=>SW.cond_f rfl h|exact fun h=>SW.exit h|exact fun h=>SW.ret h|exact fun h=>SW.skip h):G:=hn h
theorem W.go {X G:Prop} (h:X) (hn:X→G:=by first
  | exact fun h=>W.gb h|exact fun h=>SW.block h):G:=hn h
section
variable {P:Program}{C:Ctx}{Q:Exit→Fr→Hp→Prop}{ρ:Fr}{H:Hp}{L:List Oper}{o:Oper}{B:List Nat}{R:Hp}{fuel:Nat}{listed:Array Bool}
theorem SS.T {v:Value} (i:Nat) (hi:L[i]?=some o) {d':Option Nat} (hk:SS P C L Q B R fuel (listed.setIfInBounds i true) (pt ρ d' v) H) (h:Pu P C ρ [] o v:=by first
  | exact p_move rfl rfl|exact p_assign rfl rfl|exact p_nil rfl rfl|exact p_fieldAddr rfl rfl OfN.ok
  | exact Pu.t (p_cmp rfl rfl rfl rfl) (by dsimp only [cmpP];first|done|omega)|exact Pu.f (p_cmp rfl rfl rfl rfl) (by dsimp only [cmpP];first|done|omega)
  | exact p_eqnil rfl rfl rfl|exact p_nenil rfl rfl rfl|exact p_eqslnil rfl rfl rfl|exact p_neslnil rfl rfl rfl
  | exact p_add rfl rfl rfl (w64 (by omega))|exact p_sub rfl rfl rfl (w64 (by omega))|exact p_mul rfl rfl rfl (w64 (by omega))|exact p_quoP rfl rfl rfl (by omega) (by omega) (by omega)|exact p_remP rfl rfl rfl (by omega) (by omega)|exact p_shlU rfl rfl rfl|exact p_shrU rfl rfl rfl|exact p_uar rfl rfl rfl
  | exact p_pick_t rfl rfl rfl|exact p_pick_f rfl rfl rfl|exact p_not rfl rfl|exact p_ext rfl rfl rfl|exact p_makeFunc rfl rfl rfl|exact p_cv rfl rfl
  | exact p_field rfl rfl (by first|rfl|assumption)|exact p_field_a rfl rfl (by first|assumption|rfl)
  | exact p_build rfl rfl (by first|assumption|rfl)|exact p_build_arr rfl rfl (by first|assumption|rfl)
  | exact p_ix rfl rfl rfl (by omega)|exact p_ixa rfl rfl rfl (by omega)
  | exact p_len_slice rfl rfl|exact p_len_arr rfl rfl|exact p_len_str rfl rfl|exact p_cap_slice rfl rfl|exact p_min rfl rfl rfl rfl|exact p_max rfl rfl rfl rfl)
  (hok:canS L B listed i=true:=by kernel_rfl) (hg:gd L ρ o=some true:=by exact rfl) (hd:dk C.n o.dst=some d':=by exact rfl) (hQ:∀ c ρ H,Q (.panic c) ρ H→False:=by exact fun _ _ _ h=>Fin.np h):SS P C L Q B R (fuel+1) listed ρ H:=SS.tw i hi h hk hok hg hd hQ
end
end Go.Proofs.YtnigolgkkjidiaaGreat
namespace Go.Proofs.YtnigolgkkjidiaaGreat
open Go
attribute [local irreducible] SW SL SQ SH SA SS Pu Fin CutF HandF
theorem W.ow {X G:Prop} (h:X) (hn:X→G:=by first
  | (refine fun h=>SL.isGd ?_;first|exact SL.sk rfl rfl h)
  | (refine fun h=>SL.isMove ?_;first|exact SL.pu (p_move rfl rfl) rfl rfl h)
  | (refine fun h=>SL.isAssign ?_;first|exact SL.pu (p_assign rfl rfl) rfl rfl h)
  | (refine fun h=>SL.isNil ?_;first|exact SL.pu (p_nil rfl rfl) rfl rfl h)
  | (refine fun h=>SL.isFldA ?_;first|exact SL.pu (p_fieldAddr rfl rfl rfl) rfl rfl h)
  | (refine fun h=>SL.isLoad ?_;first|exact SL.pu (p_load_s rfl rfl rfl) rfl rfl h|exact SL.pu (p_load_s rfl rfl (by assumption)) rfl rfl h|exact SL.pu (p_load_a rfl rfl rfl rfl) rfl rfl h|exact SL.pu (p_load_a rfl rfl (by assumption) (by assumption)) rfl rfl h)
  | (refine fun h=>SL.isCallB ?_;first|exact SL.pu (p_len_slice rfl rfl) rfl rfl h|exact SL.pu (p_len_str rfl rfl) rfl rfl h|exact SL.pu (p_len_arr rfl rfl) rfl rfl h|exact SL.pu (p_cap_slice rfl rfl) rfl rfl h|exact SL.pu (p_max rfl rfl rfl rfl) rfl rfl h|exact SL.pu (p_min rfl rfl rfl rfl) rfl rfl h)
  | (refine fun h=>SL.isPick ?_;first|exact SL.pu (p_pick_t rfl rfl rfl) rfl rfl h|exact SL.pu (p_pick_f rfl rfl rfl) rfl rfl h)
  | (refine fun h=>SL.isMkFn ?_;first|exact SL.pu (p_makeFunc rfl rfl rfl) rfl rfl h)
  | (refine fun h=>SL.isUn ?_;first|exact SL.pu (p_not rfl rfl) rfl rfl h)
  | (refine fun h=>SL.isBuild ?_;first|exact SL.pu (p_build rfl rfl (by rfl)) rfl rfl h|exact SL.pu (p_build_arr rfl rfl (by rfl)) rfl rfl h)
  | (refine fun h=>SL.isFld ?_;first|exact SL.pu (p_field rfl rfl rfl) rfl rfl h|exact SL.pu (p_field rfl rfl (by assumption)) rfl rfl h|exact SL.pu (p_field_a rfl rfl rfl) rfl rfl h)
  | (refine fun h=>SL.b_add ?_;first|exact SL.pu (p_add rfl rfl rfl (w64 (by omega))) rfl rfl h)
  | (refine fun h=>SL.b_sub ?_;first|exact SL.pu (p_sub rfl rfl rfl (w64 (by omega))) rfl rfl h)
  | (refine fun h=>SL.b_mul ?_;first|exact SL.pu (p_mul rfl rfl rfl (w64 (by omega))) rfl rfl h)
  | (refine fun h=>SL.b_quo ?_;first|exact SL.pu (p_quo rfl rfl rfl (by decide) (w64 (by omega))) rfl rfl h)
  | (refine fun h=>SL.b_rem ?_;first|exact SL.pu (p_rem rfl rfl rfl (by decide) rfl) rfl rfl h)
  | (refine fun h=>SL.b_lss ?_;first|exact SL.pu (Pu.t (p_lss rfl rfl rfl) (by omega)) rfl rfl h|exact SL.pu (Pu.f (p_lss rfl rfl rfl) (by omega)) rfl rfl h)
  | (refine fun h=>SL.b_leq ?_;first|exact SL.pu (Pu.t (p_leq rfl rfl rfl) (by omega)) rfl rfl h|exact SL.pu (Pu.f (p_leq rfl rfl rfl) (by omega)) rfl rfl h)
  | (refine fun h=>SL.b_gtr ?_;first|exact SL.pu (Pu.t (p_gtr rfl rfl rfl) (by omega)) rfl rfl h|exact SL.pu (Pu.f (p_gtr rfl rfl rfl) (by omega)) rfl rfl h)
  | (refine fun h=>SL.b_geq ?_;first|exact SL.pu (Pu.t (p_geq rfl rfl rfl) (by omega)) rfl rfl h|exact SL.pu (Pu.f (p_geq rfl rfl rfl) (by omega)) rfl rfl h)
  | (refine fun h=>SL.b_eql ?_;first|exact SL.pu (p_eqnil rfl rfl rfl) rfl rfl h|exact SL.pu (p_eqslnil rfl rfl rfl) rfl rfl h|exact SL.pu (Pu.t (p_eql rfl rfl rfl) (by omega)) rfl rfl h|exact SL.pu (Pu.f (p_eql rfl rfl rfl) (by omega)) rfl rfl h)
  | (refine fun h=>SL.b_neq ?_;first|exact SL.pu (p_nenil rfl rfl rfl) rfl rfl h|exact SL.pu (p_neslnil rfl rfl rfl) rfl rfl h|exact SL.pu (Pu.t (p_neq rfl rfl rfl) (by omega)) rfl rfl h|exact SL.pu (Pu.f (p_neq rfl rfl rfl) (by omega)) rfl rfl h)
  | (refine fun h=>SL.isBox ?_;first|exact SL.box rfl rfl rfl rfl h|exact SL.box_a rfl rfl rfl rfl h)
  | (refine fun h=>SL.isAlloc ?_;first|exact SL.alloc rfl rfl rfl h)
  | (refine fun h=>SL.isStore ?_;first|exact SL.store rfl rfl rfl rfl rfl (by first|assumption|exact Nat.le_of_ble_eq_true rfl) h|exact SL.store_w rfl rfl rfl rfl rfl (by first|assumption|rfl) (by rfl) h|exact SL.store_a rfl rfl rfl rfl rfl (by first|rfl|assumption) (by first|assumption|exact Nat.le_of_ble_eq_true rfl) (by first|assumption|rfl) h)
  | exact fun h=>SL.nil h
  | exact fun h=>SW.seq h
  | exact fun h=>SW.region h
  | exact fun h=>SW.block h
  | exact fun h=>SW.cond_t rfl h
  | exact fun h=>SW.cond_f rfl h
  | exact fun h=>SW.ret h
  | exact fun h=>SW.skip h
  | exact fun h=>SW.exit h):G:=hn h
end Go.Proofs.YtnigolgkkjidiaaGreat
namespace Go.Proofs.YtnigolgkkjidiaaGreat
open Go
instance:U8 27 27:=⟨rfl⟩
instance:U8 99 99:=⟨rfl⟩
theorem ofInt8(a:UInt8):BitVec.ofInt IntKind.u8.bits (a.toNat:Int)=a.toBitVec:=by
 show BitVec.ofInt 8 _=_
 apply BitVec.eq_of_toNat_eq
 rw [BitVec.toNat_ofInt]
 have:=a.toNat_lt
 show ((a.toNat:Int)%256).toNat=a.toNat
 omega
theorem nat8(v:BitVec 8):IntKind.u8.wrap ((v.toNat:Nat):Int)=((UInt8.ofBitVec v).toNat:Int):=by
 rw [wrap8]
 have:v.toNat<256:=v.isLt
 show _=((v.toNat:Nat):Int)
 omega
class Lt8(n:Int)(k:outParam UInt8):Prop where
 ok:n=(k.toNat:Int)
 lt:k.toNat<8
instance:Lt8 1 1:=⟨rfl,by decide⟩
instance:Lt8 7 7:=⟨rfl,by decide⟩
section
variable {m n:Int}
instance{a b:UInt8} [h1:U8 m a] [h2:U8 n b]:UAr .mul .u8 m n ((a*b).toNat:Int):=⟨fun P w t=>by
 rw [h1.ok,h2.ok]
 have h:IntKind.u8.wrap ((a.toNat:Int)*b.toNat)=((a*b).toNat:Int):=by
  rw [wrap8,UInt8.toNat_mul];simp
 simp [binOp,Op.intArith,h]⟩
instance{a b:UInt8} [h1:U8 m a] [h2:U8 n b]:UAr .and .u8 m n ((a &&& b).toNat:Int):=⟨fun P w t=>by
 rw [h1.ok,h2.ok]
 simp only [binOp,Op.intBits,ne_eq,not_true_eq_false,if_false,Sem.run_pure,ofInt8];exact congrArg (fun z=>Result.ok (Value.int .u8 z) w) (nat8 _)⟩
instance{a b:UInt8} [h1:U8 m a] [h2:U8 n b]:UAr .or .u8 m n ((a ||| b).toNat:Int):=⟨fun P w t=>by
 rw [h1.ok,h2.ok]
 simp only [binOp,Op.intBits,ne_eq,not_true_eq_false,if_false,Sem.run_pure,ofInt8];exact congrArg (fun z=>Result.ok (Value.int .u8 z) w) (nat8 _)⟩
instance{a b:UInt8} [h1:U8 m a] [h2:U8 n b]:UAr .xor .u8 m n ((a ^^^ b).toNat:Int):=⟨fun P w t=>by
 rw [h1.ok,h2.ok]
 simp only [binOp,Op.intBits,ne_eq,not_true_eq_false,if_false,Sem.run_pure,ofInt8];exact congrArg (fun z=>Result.ok (Value.int .u8 z) w) (nat8 _)⟩
instance{a k:UInt8} [h1:U8 m a] [h2:Lt8 n k]:UShl .u8 m n ((a <<< k).toNat:Int):=⟨by
 rw [h1.ok,h2.ok]
 have hk:=h2.lt
 refine⟨by omega,?_⟩
 rw [wrap8,Int.toNat_natCast,Nat.min_eq_left (by show k.toNat≤8;omega),UInt8.toNat_shiftLeft,Nat.mod_eq_of_lt hk,Nat.shiftLeft_eq]
 simp⟩
instance{a k:UInt8} [h1:U8 m a] [h2:Lt8 n k]:UShr .u8 m n ((a >>> k).toNat:Int):=⟨by
 rw [h1.ok,h2.ok]
 have hk:=h2.lt
 refine⟨by omega,?_⟩
 rw [Int.toNat_natCast,Nat.min_eq_left (by show k.toNat≤8;omega),UInt8.toNat_shiftRight,Nat.mod_eq_of_lt hk,Nat.shiftRight_eq_div_pow,Int.fdiv_eq_ediv_of_nonneg _ (by exact_mod_cast Nat.zero_le _)]
 simp⟩
end
namespace Gf
def twice(a:UInt8):UInt8:=(a <<< (1:UInt8)) ^^^ ((27:UInt8)*(a >>> (7:UInt8)))
def mulS(s:UInt8×UInt8×UInt8):UInt8×UInt8×UInt8:=(s.1 ^^^ s.2.1*(s.2.2 &&& 1),twice s.2.1,s.2.2 >>> 1)
def mulN(a b:UInt8):Nat→UInt8×UInt8×UInt8
 | 0=>(0,a,b)
 | n+1=>mulS (mulN a b n)
def mul(a b:UInt8):UInt8:=(mulN a b 8).1
def powF:Nat→UInt8→UInt8→Nat→UInt8
 | 0,o,_,_=>o
 | f+1,o,a,n=>if n=0 then o else powF f (if n%2=1 then mul o a else o) (mul a a) (n/2)
def pow(a:UInt8)(n:Nat):UInt8:=powF n 1 a n
def inv(a:UInt8):UInt8:=pow a 254
def rot(i k:UInt8)(r:UInt8):UInt8:=i <<< k ||| i >>> r
def aff(i:UInt8):UInt8:=i ^^^ rot i 1 7 ^^^ rot i 2 6 ^^^ rot i 3 5 ^^^ rot i 4 4 ^^^ 99
def subB(k:Nat):UInt8:=aff (inv (UInt8.ofNat k))
def subL:List UInt8:=(List.range 256).map subB
def backN:Nat→List UInt8
 | 0=>List.replicate 256 0
 | n+1=>(backN n).set (subB n).toNat (UInt8.ofNat n)
theorem backN_len(n:Nat):(backN n).length=256:=by
 induction n with
 | zero=>exact List.length_replicate
 | succ n ih=>unfold backN;rw [List.length_set,ih]
theorem powF_done(f g:Nat)(o a:UInt8):∀ n,n≤f→n≤g→powF f o a n=powF g o a n:=by
 induction f generalizing g o a with
 | zero=>intro n h1 h2;have:n=0:=(by omega);subst this;cases g <;> simp [powF]
 | succ f ih=>
  intro n h1 h2
  cases g with
  | zero=>have:n=0:=(by omega);subst this;simp [powF]
  | succ g=>
   unfold powF
   by_cases h:n=0
   ·rw [if_pos h,if_pos h]
   ·rw [if_neg h,if_neg h]
    exact ih g _ _ (n/2) (by omega) (by omega)
theorem powF_step(o a:UInt8){n:Nat}(h:0<n):powF n o a n=powF (n/2) (if n%2=1 then mul o a else o) (mul a a) (n/2):=by
 obtain⟨k,rfl⟩:∃ k,n=k+1:=⟨n-1,by omega⟩
 conv=>lhs;unfold powF
 rw [if_neg (by omega)]
 exact powF_done _ _ _ _ _ (by omega) (Nat.le_refl _)
end Gf
end Go.Proofs.YtnigolgkkjidiaaGreat
