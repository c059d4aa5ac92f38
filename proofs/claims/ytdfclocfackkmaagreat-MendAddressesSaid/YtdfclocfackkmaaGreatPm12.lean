/- A range over a function: the loop's record, its rounds, and the mark among the deferred calls, over frames and blocks as lists. It speaks of no program. -/
import Derived.RangeFuncRecord
import Derived.TacticsIn
import Derived.OrdersIn
import Derived.Test.YtdfclocfackkmaaGreatPm3
set_option linter.unusedVariables false
set_option linter.unusedSimpArgs false
set_option linter.unusedSectionVars false
set_option maxHeartbeats 1000000
namespace Go.Proofs.YtdfclocfackkmaaGreat
open Go
def RF(r:Option Nat):Fence:={ Fence.wide with round:=r }
theorem RF.no(r:Option Nat)(n:Nat):(RF r).depth.isSome=true->1<=n:=fun h=>by simp [RF,Fence.wide] at h
abbrev mk1(D:Nat):List Deferred:=[{ target:=.collected D,args:=#[] }]
def SX(F:Fence)(P:Program)(C:Ctx)(c:Code)(Z:Exit->Act->World->Prop)(A:Fr)(H:Hp):Prop:=∀ a w,jS C.ds C.n A a->St C.K C.w0 H w->c.wpIn F 0 P Z a w
abbrev SR(F:Fence)(P:Program)(C:Ctx)(c:Code)(Q:Exit->Fr->Hp->Prop)(A:Fr)(H:Hp):Prop:=SX F P C c (rU C Q) A H
def SJ(F:Fence)(P:Program)(C:Ctx)(L:List Oper)(Q:Exit->Fr->Hp->Prop)(l:List Oper)(A:Fr)(H:Hp):Prop:=
 ∀ a w,jS C.ds C.n A a->St C.K C.w0 H w->wpListIn F 0 P L.toArray (rU C Q) l a w
def yE(o:Oper):Bool:=match o.op with|.defer _=>false|_=>true
theorem aKz{o:Oper}(h:yE o=true):∀ c,o.op≠.defer c:=fun c e=>by simp [yE,e] at h
section
variable {P:Program}{C:Ctx}{Q:Exit->Fr->Hp->Prop}{Z:Exit->Act->World->Prop}{A:Fr}{H H':Hp}{L l rest:List Oper}{o:Oper}{r:Option Nat}
theorem Fin.no{fn:Func}{R:Value->Hp->Prop}(h:Fin P C fn R .outgrown A H):False:=h
theorem aNu{t e n b j len cap m:Nat}{x:Operand} [ht:kP P t m e n](ho:o.op=.sliceToArrayPointer t x)(hx:ev A x=some (.slice (some ⟨b,j,none⟩) len cap))(h1:m<=len):Pu P C A H o (.pointer (some ⟨b,j,none⟩)):=fun ac w hf _=>by
 unfold execOp;rw [ho]
 simp [hf.eval hx,Instr.arrayAt,run_underlying ht.ok,Nat.not_lt.2 h1]
theorem aFB{f:FuncId}{args:Array Value}{w:World}{R:Ending->World->Prop}(h:Calls P f args w R):CallsIn (RF r) 0 P f args w R:=(callsIn_wide (n:=0)).2 h
theorem aMS{row:String}{args:Array Value}{w:World}{R:Value->World->Prop}(h:Rows P row args w R):RowsIn (RF r) 0 P row args w R:=fun c cs _=>
 let ⟨v,w',hr,s⟩:=h c cs;⟨v,w',hr,stepsIn_wide.2 s⟩
theorem aEF(hnd:yE o=true)(hQ:¬ LetsOut Z){a:Act}{w:World}{K K':Act->World->Prop}(hm:∀ a w,K a w->K' a w) (h:o.wp P a w K Z\/(o.asks P a w/\LetsOut Z)):o.wpIn (RF r) 0 P a w K' Z:=by
 replace h:=h.resolve_right fun h=>hQ h.2;refine⟨fun _ _=>trivial,?_⟩;have e:o.semAt (RF r).round a.eval=execOp a.eval o:=by
  cases hr:(RF r).round with
  | none=>rfl
  | some l=>exact Oper.semAt_some l a.eval o (aKz hnd)
 rw [e];unfold Oper.wp at h;generalize (execOp a.eval o).run P w=res at h |-;cases res with
 | ok n w'=>
  cases n <;> simp only [Oper.upon] at h <;> simp only [Oper.uponIn]
  case value u=>exact hm _ _ h
  case skip=>exact hm _ _ h
  case defer d=>exact hm _ _ h
  case enter f args=>exact⟨RF.no r 0,aFB (Calls.mono h fun e w'' he=>by cases e <;> first|exact hm _ _ he|exact he)⟩
  case row row args=>exact⟨RF.no r 0,aMS (Rows.mono h fun _ _ he=>hm _ _ he)⟩
 | halt x w'=>
  cases x <;> simp only [Oper.upon] at h <;> simp only [Oper.uponIn]
  exact h
theorem sL{ops:Array Oper}(hQ:¬ LetsOut Z):∀ (l:List Oper),l.all yE=true->∀ a w,wpList P ops Z l a w->wpListIn (RF r) 0 P ops Z l a w
 | [],_,a,w,h=>h
 | o::l,hd,a,w,h=>by
  simp only [List.all_cons,bR] at hd;unfold wpList at h;unfold wpListIn;split at h
  ·rename_i hw;rw [if_pos hw];exact aEF hd.1 hQ (sL hQ l hd.2) h
  rename_i hw;rw [if_neg hw];exact⟨fun _ _=>trivial,sL hQ l hd.2 _ _ h⟩
theorem uY{ops:Array Oper}(hQ:¬ LetsOut Z)(hd:∀ (i:Nat) o,ops[i]?=some o->yE o=true):∀ (f:Nat) (listed:Array Bool) (a:Act) (w:World),wpAny P .any ops Z f listed a w->wpAnyIn (RF r) 0 P .any ops Z f listed a w
 | 0,_,_,_,h=>h
 | f+1,listed,a,w,h=>⟨h.1,fun i hi=>by
  have h2:=h.2 i hi;unfold wpOp at h2;unfold wpOpIn;split at h2
  ·rename_i ho;simp only [ho];exact uY hQ hd f _ _ _ h2
  rename_i o ho;simp only [ho];split at h2
  ·rename_i hw;rw [if_pos hw];exact aEF (hd _ _ ho) hQ (uY hQ hd f _) h2
  rename_i hw;rw [if_neg hw];exact⟨fun _ _=>trivial,uY hQ hd f _ _ _ h2⟩⟩
theorem wF(hQ:∀ A H,¬ Q .outgrown A H):¬ LetsOut (rU C Q):=fun⟨a,w,A,H,_,_,h⟩=>hQ A H h
theorem SR.block{id:Nat}{c:Code}{F:Fence}(h:SR F P C c (blk id Q) A H):SR F P C (.block id c) Q A H:=fun a w hf hs=>
 wpIn_block (wpIn_mono (h a w hf hs) fun e a w ⟨A,H,hf,hs,hq⟩=>by
  cases e with
  | exit id'=>
   simp only [Exit.inBlock]
   by_cases hid:id'=id
   ·subst hid
    rw [if_pos rfl]
    have:Nat.beq id' id'=true:=zQ id'
    simp only [blk,this,cond_true] at hq
    exact⟨A,H,hf,hs,hq⟩
   ·rw [if_neg hid]
    simp only [blk,vF hid,cond_false] at hq
    exact⟨A,H,hf,hs,hq⟩
  | _=>exact⟨A,H,hf,hs,hq⟩)
theorem SX.block{id:Nat}{c:Code}{F:Fence}(h:SX F P C c (Exit.inBlock id Z) A H):SX F P C (.block id c) Z A H:=fun a w hf hs=>wpIn_block (h a w hf hs)
theorem aID{id:Nat}(h:SL P C l Q l A H)(hd:l.all yE=true:=by kernel_rfl)(hQ:∀ A H,¬ Q .outgrown A H:=by first|exact fun _ _ h=>Fin.no h|exact fun _ _ h=>h):SR (RF r) P C (.region id l.toArray false) Q A H:=fun a w hf hs=>
 wpIn_region_lit (sL (wF hQ) l hd a w (h a w hf hs))
theorem aGG{F:Fence}{id:Nat}(h:SJ F P C l Q l A H):SR F P C (.region id l.toArray false) Q A H:=fun a w hf hs=>wpIn_region_lit (h a w hf hs)
theorem aGH{id:Nat}(B:List Nat)(h:SS P C l Q B [] l.length (Array.replicate l.length false) A H)(hm:P.follows .mixedOrders=true)(hd:l.all yE=true:=by kernel_rfl)(hQ:∀ A H,¬ Q .outgrown A H:=by first|exact fun _ _ h=>Fin.no h|exact fun _ _ h=>h) :
  SR (RF r) P C (.region id l.toArray true) Q A H:=fun a w hf hs=>
 wpIn_region_any hm (uY (wF hQ) (fun i o ho=>sU.1 hd o (aP (by simpa using ho))) _ _ _ _ (sP.any _ _ _ _ _ (by
  have:=h a _ hf (hs.drawn (w.drawn+1)) (by simp)
  rw [rX]
  exact this)))
theorem aPz{c:Code}(h:SW P C c Q A H)(hZ:∀ e a w,rU C Q e a w->Z e a w):SX (RF none) P C c Z A H:=fun a w hf hs=>
 wpIn_mono ((wpIn_wide (n:=0)).2 (h a w hf hs)) hZ
theorem aNT{c:Code}(h:SR (RF none) P C c Q A H):SW P C c Q A H:=fun a w hf hs=>(wpIn_wide (n:=0)).1 (h a w hf hs)
theorem zW{x y:Code}{Q0:Exit->Fr->Hp->Prop}(hZ:∀ e a w,rU C Q0 e a w->Z e a w)(h:SW P C x (thn (SX (RF none) P C y Z) Q0) A H):SX (RF none) P C (.seq x y) Z A H:=fun a w hf hs=>
 wpIn_seq (wpIn_mono ((wpIn_wide (n:=0)).2 (h a w hf hs)) fun e a w ⟨A,H,hf,hs,hq⟩=>by
  cases e <;> first|exact hq a w hf hs|exact hZ _ _ _ ⟨A,H,hf,hs,hq⟩)
theorem SJ.all(h:SL P C L Q l A H)(hd:l.all yE=true:=by kernel_rfl)(hQ:∀ A H,¬ Q .outgrown A H:=by first|exact fun _ _ h=>Fin.no h|exact fun _ _ h=>h):SJ (RF r) P C L Q l A H:=fun a w hf hs=>sL (wF hQ) l hd a w (h a w hf hs)
theorem aPo{F:Fence}{n:Nat}{a:Act}{w:World}{K:Act->World->Prop}{Z':Exit->Act->World->Prop}(hp:∀ c a w,Z (.panic c) a w->Z' (.panic c) a w)(hQ:¬ LetsOut Z)(h:o.wpIn F n P a w K Z):o.wpIn F n P a w K Z':=by
 refine⟨h.1,?_⟩;have h3:=h.2;generalize (o.semAt F.round a.eval).run P w=res at h3 |-;cases res with
 | ok n w'=>
  cases n <;> simp only [Oper.uponIn] at h3 |-
  case value u=>exact h3
  case skip=>exact h3
  case defer d=>exact h3
  case enter f args=>exact⟨h3.1,h3.2.mono fun e w'' he=>by
   cases e with
   | returned u=>exact he
   | panicked c=>exact hp _ _ _ he
   | outgrown=>exact (hQ he).elim⟩
  case row row args=>exact h3
  case round l f tmps assign body=>exact⟨h3.1,h3.2.mono fun e w'' he=>by
   cases e with
   | returned u=>exact he
   | panicked c=>exact hp _ _ _ he
   | outgrown=>exact (hQ he).elim⟩
 | halt x w'=>
  cases x <;> simp only [Oper.uponIn] at h3 |-
  case panic u=>exact hp _ _ _ h3
theorem uZ(hQ:∀ A H,¬ Q .outgrown A H):∀ (pre:List Oper),pre.all yE=true->∀ a w,wpList P L.toArray (rU C (thn (SJ (RF r) P C L Q rest) Q)) pre a w->wpListIn (RF r) 0 P L.toArray (rU C Q) (pre++rest) a w
 | [],_,a,w,h=>by obtain⟨ρ',H',hf',hs',hq⟩:=h;exact hq a w hf' hs'
 | o::pre,hd,a,w,h=>by
  simp only [List.all_cons,bR] at hd;unfold wpList at h;show wpListIn (RF r) 0 P L.toArray (rU C Q) (o::(pre++rest)) a w;unfold wpListIn;split at h
  ·rename_i hw;rw [if_pos hw];exact aPo (fun c a w ⟨ρ',H',hf',hs',hq⟩=>⟨ρ',H',hf',hs',hq⟩) (wF hQ) (aEF (r:=r) hd.1 (wF (Q:=thn (SJ (RF r) P C L Q rest) Q) (C:=C) hQ) (uZ hQ pre hd.2) h)
  rename_i hw;rw [if_neg hw];exact⟨fun _ _=>trivial,uZ hQ pre hd.2 _ _ h⟩
theorem SJ.cut(k:Nat)(h:SL P C L (thn (SJ (RF r) P C L Q (l.drop k)) Q) (l.take k) A H)(hd:(l.take k).all yE=true:=by kernel_rfl)(hQ:∀ A H,¬ Q .outgrown A H:=by first|exact fun _ _ h=>Fin.no h|exact fun _ _ h=>h):SJ (RF r) P C L Q l A H:=fun a w hf hs=>by
 have:=uZ hQ (l.take k) hd a w (h a w hf hs)
 rwa [dF] at this
def Rnd(P:Program)(l:Nat)(us:LV)(Hc:Hp)(Pre:World->Prop)(R:Value->Hp->Prop):Prop:=
 ∀ w,Own Hc w->Pre w->∃ fn tmps assign body,(Instr.yield l us.toArray).run P w=.ok (.round l fn tmps assign body) w /\
  RoundIn (RF none) 0 P l fn tmps assign body w fun e w'=>∃ v H',e=.returned v/\St (Hc.map Prod.fst) w H' w'/\R v H'
theorem SJ.yield{k:Nat}{y:Operand}{xs:Array Operand}{ats:Array TypeId}{us:LV}(Hc:Hp){s:Hp}{Pre:World->Prop}{R:Value->Hp->Prop}(ho:o.op=.call { callee:=.value y,args:=xs,argTypes:=ats })(hg:gd L A o=some true){d:Option Nat}(hd:dk C.n o.dst=some d)
  (hy:ev A y=some (.func (.yield k) #[] #[])) (hx:evs A xs.toList=some us) [hp:eY H Hc s] (ht:Rnd P k us Hc Pre R) (hpre:∀ w,St C.K C.w0 H w->Pre w)
  (hk:∀ v H',R v H'->SJ (RF none) P C L Q rest (pt A d v) (H'++s)):SJ (RF none) P C L Q (o::rest) A H:=fun a w hf hs=>by
 unfold wpListIn
 rw [if_pos (gW hf hg)]
 refine⟨fun _ _=>trivial,?_⟩
 have hs2:=hs.perm hp.perm
 obtain⟨fn,tmps,assign,body,hy',hR⟩:=ht w hs2.drop.toOwn (hpre w hs)
 have he:(o.semAt (RF none).round a.eval).run P w=.ok (.round k fn tmps assign body) w:=by
  show (execOp a.eval o).run P w=_
  have h1:(xs.map a.eval)=us.toArray:=by have:=hf.evals hx;apply Array.ext';simpa using this
  unfold execOp;rw [ho]
  simp only [resolve,Deferred.ofValue,invoke,hf.eval hy,Sem.run_bind,Sem.run_pure,Result.andThen_ok,h1]
  simpa using hy'
 rw [he,Oper.uponIn_round]
 refine⟨RF.no none 0,hR.mono fun e w' ⟨v,H',he,hst,hR⟩=>?_⟩
 subst he
 exact hk v H' hR _ _ (hf.put hd v) (hs2.comp hst)
end
abbrev aJI(P:Program)(e:Exit)(A:Fr)(H:Hp):Prop:=match e with
 | .panic c=>Fin P ⟨0,[],default,[]⟩ default (fun _ _=>False) (.panic c) A H
 | .outgrown=>Fin P ⟨0,[],default,[]⟩ default (fun _ _=>False) .outgrown A H
 | _=>False
section
variable {P:Program}{R:Value->Hp->Prop}
def vU(P:Program)(l:Nat)(R:Value->Hp->Prop):Exit->Fr->Hp->Prop
 | .normal,_,H=>∃ r H1 s,H.Perm (((l,.loop r)::H1)++s)/\R (.bool true) ((l,.loop { r with state:=.ready,pending:=none })::H1)
 | .ret,_,H=>∃ r H1 s,H.Perm (((l,.loop r)::H1)++s)/\R (.bool false) ((l,.loop { r with state:=.done,pending:=some .ret })::H1)
 | .exit id,_,H=>∃ r H1 s,H.Perm (((l,.loop r)::H1)++s)/\R (.bool false) ((l,.loop { r with state:=.done,pending:=some (.exit id) })::H1)
 | e,A,H=>aJI P e A H
def aB5(P:Program)(C:Ctx)(l:Nat)(body:Code)(R:Value->Hp->Prop):Exit->Fr->Hp->Prop
 | .normal,A,H=>∃ r H1,H.Perm ((l,.loop r)::H1)/\r.state=.ready/\SR (RF (some l)) P C body (vU P l R) A ((l,.loop { r with state:=.busy })::H1)
 | .ret,_,_=>False
 | .exit _,_,_=>False
 | e,A,H=>aJI P e A H
theorem aB5.mk{C:Ctx}{l:Nat}{body:Code}{A:Fr}{H H1:Hp}{r:Loop}(hr:r.state=.ready) [hp:Out H l (.loop r) H1](h:SR (RF (some l)) P C body (vU P l R) A ((l,.loop { r with state:=.busy })::H1)):aB5 P C l body R .normal A H:=⟨r,H1,hp.perm,hr,h⟩
theorem vU.mkB{l id:Nat}{A:Fr}{H H2 s:Hp}{r:Loop}(H1:Hp) [hp:Out H l (.loop r) H2] [hp2:eY H2 H1 s](h:R (.bool true) ((l,.loop { r with state:=.ready,pending:=none })::H1)):blk id (vU P l R) .normal A H:=⟨r,H1,s,hp.perm.trans (hp2.perm.cons _),h⟩
theorem St.putObj{K:List Nat}{w0 w:World}{H1:Hp}{l:Nat}{o:Obj}(h:St K w0 ((l,o)::H1) w)(o':Obj):St K w0 ((l,o')::H1) (w.putObj l o'):=by have hlt:=h.lt (b:=l) (o:=o) (by simp);exact h.set (b:=l) (o':=o') (by simp) (World.putObj_heap_same hlt) (fun k hk=>World.putObj_heap_other hk) rfl rfl rfl
theorem Rnd.mk{l n p:Nat}{u:Value}{Hc:Hp}{Pre:World->Prop}{r:Loop} [ha:At Hc l (.loop r)]{A:Fr}(hps:r.params=#[p])(hf:jS [] n A { tmps:=r.tmps,defers:=[] })(hp:Nat.blt p n=true)
  (h:∀ w,Pre w->SR (RF (some l)) P ⟨n,Hc.map Prod.fst,w,[]⟩ r.assign (aB5 P ⟨n,Hc.map Prod.fst,w,[]⟩ l r.body R) (pt A (some p) u) Hc):Rnd P l [u] Hc Pre R:=fun w ho hpre=>by
 have hl:w.heap[l]?=some (.loop r):=ho.own l _ ha.mem
 have hY:(Instr.yield l [u].toArray).run P w=.ok (.round l r.fn (r.tmps.setIfInBounds p u) r.assign r.body) w:=by
  have:=run_yield (P:=P) (args:=[u].toArray) hl (by simp [hps])
  simpa [hps] using this
 have hf2:jS [] n (pt A (some p) u) { tmps:=r.tmps.setIfInBounds p u,defers:=[] }:=hf.put (x:=some p) (d:=some p) (by simp [dk,hp]) u
 have hb:=h w hpre _ w hf2 (St.start ho)
 refine⟨r.fn,_,r.assign,r.body,hY,roundIn_of_wpIn (F:=RF none) trivial ?_⟩
 refine wpIn_mono (Q:=rU ⟨n,Hc.map Prod.fst,w,[]⟩ (aB5 P ⟨n,Hc.map Prod.fst,w,[]⟩ l r.body R)) hb fun e a w1 ⟨ρ1,H,hf1,hs1,hq⟩=>?_
 cases e <;> try exact hq.elim
 obtain⟨r1,H1,hperm,hst,hbody⟩:=hq
 have hs2:=hs1.perm hperm
 have hl1:w1.heap[l]?=some (.loop r1):=hs2.own l _ (by simp)
 refine⟨_,run_beginRound hl1 hst,?_⟩
 refine wpIn_mono (hbody a _ hf1 (hs2.putObj _)) fun e a w3 ⟨ρ3,H3,hf3,hs3,hq3⟩=>?_
 cases e <;> try exact hq3.elim
 all_goals
  obtain⟨r3,H4,s4,hperm3,hR⟩:=hq3
  have hs4:=(hs3.perm hperm3).drop
  have hl3:w3.heap[l]?=some (.loop r3):=hs4.own l _ (by simp)
  exact⟨_,_,run_endRound _ hl3,_,_,rfl,hs4.putObj _,hR⟩
def zR(P:Program)(C:Ctx)(D:Nat)(A:Fr)(Z:Exit->Act->World->Prop)(H1:Hp):Option Code->Prop
 | none=>∀ a w,jS (mk1 D++C.ds) C.n A a->St C.K C.w0 H1 w->Z .normal a w
 | some c=>∀ a w,jS (mk1 D++C.ds) C.n A a->St C.K C.w0 H1 w->c.wpIn (RF none) 0 P Z a w
theorem Loop.back{r:Loop}(h1:r.state=.ready)(h2:r.pending=none):({ { r with state:=.busy } with state:=.ready,pending:=none }:Loop)=r:=by cases r;simp_all
theorem aJP{C:Ctx}{Z:Exit->Act->World->Prop}{A:Fr}{H:Hp}{g:Operand}{p gf:Nat}{assign body:Code}{caps:LV} [bC P gf]{Pre:Nat->Nat->World->Prop}{RR:Nat->Nat->Value->Hp->Prop}(hev:ev A g=some (.func (.func gf) #[] caps.toArray))
  (ht:∀ D l (rec:Loop),rec.state=.ready->rec.pending=none->rec.params=#[p]->rec.assign=assign->rec.body=body->jS [] C.n A { tmps:=rec.tmps,defers:=[] }->Tri P gf (.func (.yield l) #[] #[]::caps) ((l,.loop rec)::(D,.deferred (some []))::H) (Pre D l) (RR D l))
  (hpre:∀ D l o w,St C.K C.w0 ((l,o)::(D,.deferred (some []))::H) w->Pre D l w)
  (hk:∀ D l v H',RR D l v H'->∃ r H1,H'.Perm ((l,.loop r)::H1)/\r.state≠.busy/\zR P C D A Z H1 r.pending):SX (RF none) P C (.rangeFunc g #[p] assign body) Z A H:=fun a w hf hs=>by
 refine wpIn_rangeFunc fun fn _=>?_
 have h1:=(hs.alloc (.deferred (some []))).alloc (.loop { state:=.ready,pending:=none,fn:=fn,tmps:=a.tmps,params:=#[p],assign:=assign,body:=body,defers:=w.heap.size })
 rw [World.size_alloc] at h1
 obtain⟨W,hW⟩:∃ W,(w.alloc (.deferred (some []))).alloc (.loop { state:=.ready,pending:=none,fn:=fn,tmps:=a.tmps,params:=#[p],assign:=assign,body:=body,defers:=w.heap.size })=W:=⟨_,rfl⟩
 rw [hW] at h1
 have hev':=hf.eval hev
 refine⟨w.heap.size+1,mk1 w.heap.size,W,{ target:=.fn (.func gf) caps.toArray,args:=#[.func (.yield (w.heap.size+1)) #[] #[]] },W,gf,(Value.func (.yield (w.heap.size+1)) #[] #[]::caps).toArray,W,?_,?_,fun _ _=>trivial,?_,RF.no none 0,?_⟩
 ·rw [<-hW];exact run_enterLoop_outer fn a.tmps #[p] assign body
 ·simp only [resolve,rangeCall,hev',Deferred.ofValue]
  simp [Act.eval]
 ·simp only [invoke,qZ]
  simp
 ·refine aFB ((ht w.heap.size (w.heap.size+1) _ rfl rfl rfl rfl rfl ⟨rfl,hf.s,hf.t⟩ W h1.toOwn (hpre _ _ _ _ h1)).mono fun e w3 ⟨v,H',he,hst,hR⟩=>?_)
  subst he
  obtain⟨r,H1,hperm,hb,hend⟩:=hk _ _ v H' hR
  have h2:St C.K C.w0 H' w3:=by
   have:=St.comp (Hf:=[]) (by rw [aG];exact h1) hst
   rwa [aG] at this
  have h3:=h2.perm hperm
  have hl3:w3.heap[w.heap.size+1]?=some (.loop r):=h3.own _ _ (by simp)
  refine⟨_,_,run_endLoop hl3 hb,?_⟩
  have h4:=h3.putObj (.loop { r with state:=.exhausted })
  have h5:St C.K C.w0 H1 (w3.putObj (w.heap.size+1) (.loop { r with state:=.exhausted })):=by
   have:=(h4.perm (H':=H1++[_]) (cA (l₁:=[_]))).drop
   exact this
  revert h5
  generalize (w3.putObj (w.heap.size+1) (.loop { r with state:=.exhausted }))=w5
  intro h5
  have hf5:jS (mk1 w.heap.size++C.ds) C.n A { tmps:=a.tmps,defers:=mk1 w.heap.size++a.defers }:=⟨by rw [hf.d],hf.s,hf.t⟩
  generalize r.pending=pd at hend |-
  cases pd with
  | none=>exact hend _ _ hf5 h5
  | some c=>exact hend _ _ hf5 h5
def aNE(P:Program)(fn:Func)(K:List Nat)(w:World)(R:Value->Hp->Prop):Exit->Act->World->Prop:=bodyPostM (RF none) 0 P fn fun e w'=>∃ v H',e=.returned v/\St K w H' w'/\R v H'
theorem Tri.mkX{f:FuncId}{fn:Func}{c:Code}{n:Nat}{vs:LV}{Hc:Hp}{Pre:World->Prop}{R:Value->Hp->Prop}(hf:P.funcs[f]?=some fn)(hb:fn.body=some c)(hn:fn.ntmps=n)(hl:Nat.ble vs.length n=true)
  (h:∀ w,Pre w->SX (RF none) P ⟨n,Hc.map Prod.fst,w,[]⟩ c (aNE P fn (Hc.map Prod.fst) w R) (aFQ vs 0) Hc):Tri P f vs Hc Pre R:=fun w ho hp=>by
 refine (callsIn_wide (n:=0)).1 (callsIn_of_wp_marks (F:=RF none) hf hb trivial ?_)
 rw [hn]
 exact h w hp _ w (aDF vs n (fH hl)) (St.start ho)
theorem Fin.toEnd{C:Ctx}{fn:Func}(hds:C.ds=[]):∀ e a w,rU C (Fin P C fn R) e a w->aNE P fn C.K C.w0 R e a w:=fun e a w ⟨A,H,hfit,hst,hq⟩=>by
 cases e <;> first
  | exact hq.elim
  | exact (let ⟨v,Hc',s,hp,hR,hres⟩:=hq;by
    show LeavesInM _ _ _ _ _ _ a.defers _ _
    rw [hfit.d,hds]
    exact⟨v,hres a w hfit hst,v,Hc',rfl,(hst.perm hp).drop,hR⟩)
def aGC(P:Program)(C:Ctx)(D:Nat)(fn:Func)(R:Value->Hp->Prop):Exit->Fr->Hp->Prop
 | .normal,A,H=>∃ H1,H.Perm ((D,.deferred (some []))::H1)/\Fin P C fn R .normal A ((D,.deferred none)::H1)
 | .ret,A,H=>∃ H1,H.Perm ((D,.deferred (some []))::H1)/\Fin P C fn R .ret A ((D,.deferred none)::H1)
 | e,A,H=>aJI P e A H
theorem aGC.mk{C:Ctx}{fn:Func}{D:Nat}{A:Fr}{H H1:Hp} [hp:Out H D (.deferred (some [])) H1](h:Fin P C fn R .ret A ((D,.deferred none)::H1)):aGC P C D fn R .ret A H:=⟨H1,hp.perm,h⟩
theorem aGC.toEnd{C:Ctx}{fn:Func}{D:Nat}(hds:C.ds=mk1 D):∀ e a w,rU C (aGC P C D fn R) e a w->aNE P fn C.K C.w0 R e a w:=fun e a w ⟨A,H,hfit,hst,hq⟩=>by
 cases e <;> first
  | exact hq.elim
  | exact (let ⟨H1,hp1,v,Hc',s,hp,hR,hres⟩:=hq;by
    show LeavesInM _ _ _ _ _ _ a.defers _ _
    have h2:=hst.perm hp1
    have hD:w.heap[D]?=some (.deferred (some [])):=h2.own _ _ (by simp)
    have h3:=h2.putObj (.deferred none)
    rw [hfit.d,hds]
    exact⟨by simp,.inl ⟨D,_,rfl,run_takeDeferred hD,v,hres a _ hfit h3,v,Hc',rfl,(h3.perm hp).drop,hR⟩⟩)
theorem zR.onB{C:Ctx}{D id:Nat}{A:Fr}{H1:Hp}{y:Code}{Z:Exit->Act->World->Prop}(h:SX (RF none) P { C with ds:=mk1 D++C.ds } y Z A H1):zR P C D A (Exit.inBlock id (Exit.then (y.wpIn (RF none) 0 P Z) Z)) H1 none:=fun a w hf hs=>h a w hf hs
theorem aDw{F:Fence}{C:Ctx}{c:Code}{Z:Exit->Act->World->Prop}{A r:Fr}{H Hc s:Hp}(hr:subF r A)(hp:H.Perm (Hc++s))(h:SX F P C c Z r Hc):SX F P C c Z A H:=fun a w hf hs=>h a w (hf.sub hr) ((hs.perm hp).drop)
theorem aPy{F:Fence}{C:Ctx}{c:Code}{Z:Exit->Act->World->Prop}{A ρk:Fr}{H:Hp}(ts:List Nat)(h:SX F P C c Z ρk H)(hk:yA A ts=some ρk:=by exact rfl):SX F P C c Z A H:=aDw (s:=[]) (yA.sub hk) (by simp) h
theorem aPA{F:Fence}{C:Ctx}{c:Code}{Z:Exit->Act->World->Prop}{A:Fr}{H s:Hp}(Hc:Hp) [hp:eY H Hc s](h:SX F P C c Z A Hc):SX F P C c Z A H:=fun a w hf hs=>h a w hf ((hs.perm hp.perm).drop)
theorem aLQ{C:Ctx}{Q:Exit->Fr->Hp->Prop}{Z:Exit->Act->World->Prop}{A:Fr}{H:Hp}{J:Type}{x y:Code}(ts:List Nat)(G0:Hp)(F:J->Fr)(G:J->Hp)(I:J->Prop){ρk:Fr}{s:Hp} [hp:eY H G0 s](h1:SW P C x (thn (bS F ρk G s I) Q) A H)(h2:∀ a,I a->SX (RF none) P C y Z (F a++ρk) (G a++s))(hk:yA A ts=some ρk:=by exact rfl):SW P C x (thn (SX (RF none) P C y Z) Q) A H:=
 SW.mono h1 fun e ρ' H' hq=>by
  cases e <;> first
   | exact hq
   | (obtain⟨a,r,hi,hr,hp⟩:=hq;exact aDw hr hp (h2 a hi))
theorem aLR{F:Fence}{C:Ctx}{x y:Code}{Z:Exit->Act->World->Prop}{A:Fr}{H:Hp}(h:SX F P C x (Exit.then (y.wpIn F 0 P Z) Z) A H):SX F P C (.seq x y) Z A H:=fun a w hf hs=>wpIn_seq (h a w hf hs)
theorem Tri.perm{f:FuncId}{vs:LV}{Hc Hd:Hp}{Pre:World->Prop}{R:Value->Hp->Prop}(hp:Hc.Perm Hd)(h:Tri P f vs Hd Pre R):Tri P f vs Hc Pre R:=fun w ho hpre=>
 (h w ⟨fun b o hb=>ho.own b o (hp.mem_iff.2 hb),(hp.map _).nodup_iff.1 ho.nodup⟩ hpre).mono fun e w' ⟨v,H',he,hst,hR⟩=>
  ⟨v,H',he,⟨hst.own,hst.nodup,fun b o hb=>(hst.fresh b o hb).imp (fun h=>(hp.map _).mem_iff.2 h) id,hst.os,hst.tape,hst.out,hst.size,fun b hb hk=>hst.keep b hb fun h=>hk ((hp.map _).mem_iff.2 h)⟩,hR⟩
theorem Tri.perm'{f:FuncId}{vs:LV}{Hc Hd:Hp}{Pre:World->Prop}{R:Value->Hp->Prop} [hp:eY Hc Hd []](h:Tri P f vs Hd Pre R):Tri P f vs Hc Pre R:=Tri.perm (by have:=hp.perm;rwa [aG] at this) h
end
section
variable {P:Program}{C:Ctx}{A:Fr}{H:Hp}{o:Oper}
theorem aP8{t e n b j len cap l h c:Nat}{x y z u:Operand}{k kk ku:IntKind}{m q r:Int} [ht:cC P t e n](ho:o.op=.slice t x (some y) (some z) (some u))(hx:ev A x=some (.slice (some ⟨b,j,none⟩) len cap))(hy:ev A y=some (.int k m))(hz:ev A z=some (.int kk q))(hu:ev A u=some (.int ku r))
  (hl:m=(l:Int)) (hh:q=(h:Int)) (hm:r=(h:Int)) (h1:l<h) (h2:h<=cap) (hc:j+l*n=c):Pu P C A H o (.slice (some ⟨b,c,none⟩) (h-l) (h-l)):=fun ac w hf _=>by
 subst hl hh hm hc
 have h3:¬ h=l:=oQ
 unfold execOp;rw [ho]
 simp [hf.eval hx,hf.eval hy,hf.eval hz,hf.eval hu,Instr.sliceAt,run_underlying ht.ok,Instr.slice,Instr.sliceBounds,Instr.sliceBound,asIntOf,h1,h2,Nat.le_of_lt h1,h3,eL ht.size,lG]
end
theorem Rd.cutN{K:List Nat}{w:World}{n:Nat}{a:Option Addr}{len cap:Nat}{ys:LV}(h:Rd K w n (.slice a len cap) ys)(c l q cap':Nat)(hl:l<=q)(hq:q<=len)(hc:q-l<=cap')(hcl:c=l->q=l):Rd K w n (.slice (lI a c l n) (q-l) cap') ((ys.drop (l*n)).take ((q-l)*n)):=by
 obtain⟨a',len',cap'',he,h2,h3,h4⟩:=h;cases he;have hm1:(q-l)*n+l*n=q*n:=by rw [<-Nat.add_mul];congr 1;omega
 have hm2:q*n<=len*n:=dC n hq;refine⟨_,_,_,rfl,by rw [aH,bG];omega,hc,?_⟩;by_cases h0:q-l=0
 ·exact .inl h0
 rcases h4 with h4|⟨b,o,cs,T,fz,rfl,hm,hk,hy⟩
 ·omega
 refine .inr ⟨b,o+l*n,cs,T,fz,?_,hm,hk,?_⟩
 ·unfold lI;rw [if_neg (fun e=>h0 (by rw [hcl e];omega))];simp [Addr.add]
 have e:(cs.drop (o+l*n)).take ((q-l)*n)=(((cs.drop o).take (len*n)).drop (l*n)).take ((q-l)*n):=by rw [jT,fK,cG,cO oQ]
 rw [e,hy]
end Go.Proofs.YtdfclocfackkmaaGreat
