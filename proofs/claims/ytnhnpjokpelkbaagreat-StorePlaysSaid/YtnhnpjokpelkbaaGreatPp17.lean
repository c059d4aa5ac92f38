/- The memory that lasts: its model, and words. The memory that lasts: the program's small methods. The memory that lasts: the power goes. The memory that lasts: an act. The memory that lasts: Do, Flush, Fence, Arm, New, Acts. The memory that lasts: Arm, New, Acts. A register beside a device. The memory that lasts, byte by byte: what is stored, and read (no program in sight but the cells). The memory that lasts: Store, Flush, Fence. The memory that lasts: Flush, Fence, Load. -/
import Derived.Test.YtnhnpjokpelkbaaGreatPp1
import Derived.Test.YtnhnpjokpelkbaaGreatPp3
set_option linter.unusedVariables false
set_option linter.unusedSimpArgs false
set_option linter.unusedSectionVars false
set_option maxHeartbeats 1600000
namespace Go.Proofs.YtnhnpjokpelkbaaGreat
open Go Go.Proofs.Tryz
section
attribute [local irreducible] SW SL SQ SH SA Pu Fin
structure Wd where
 lasts:List UInt8
 now:List UInt8
 pend:Bool
 mark:Bool
structure Dv where
 ws:List Wd
 down:Bool
 fuse:Int
 picks:List UInt8
 acts:List (Int×Int×Int)
def bv(b:UInt8):Value:=.int .u8 (b.toNat:Int)
instance(b:UInt8):One (bv b):=⟨rfl⟩
def wc(w:Wd):List Value:=w.lasts.map bv++(w.now.map bv++[.bool w.pend,.bool w.mark])
instance(w:Wd):OC (wc w):=by unfold wc;infer_instance
def ac(a:Int×Int×Int):List Value:=[.int .i64 a.1,.int .i64 a.2.1,.int .i64 a.2.2]
instance(a:Int×Int×Int):OC (ac a):=by unfold ac;infer_instance
def Wd.Len(w:Wd):Prop:=w.lasts.length=8∧w.now.length=8
def Wd.Ok(w:Wd):Prop:=w.Len∧(w.mark=true→w.pend=true)
theorem kH{w:Wd}(h:w.Len):(wc w).length=18:=by simp [wc,h.1,h.2]
structure Dv.Ok(σ:Dv):Prop where
 n:σ.ws.length≤8192
 ok:∀ w∈σ.ws,w.Ok
 f0:0≤σ.fuse
 f1:σ.fuse≤9223372036854775807
 a:σ.acts.length≤16384
def fD(p:Nat)(σ:Dv)(H:Hp):Prop:=
 σ.Ok∧∃ bw vp va Hq Ha,Sl 5 1 vp (σ.picks.map bv) Hq∧Sl 81 3 va (σ.acts.flatMap ac) Ha ∧
  H=(p,cl [.slice (some ⟨bw,0,none⟩) σ.ws.length σ.ws.length,.bool σ.down,.int .i64 σ.fuse,vp,va] 134)::(bw,cl (σ.ws.flatMap wc) 147)::(Hq++Ha)
theorem Sl.one{e n:Nat}{v:Value}{xs:List Value}{H:Hp}(h:Sl e n v xs H):One v:=by
 rcases h with ⟨rfl,_,_⟩|⟨b,len,cap,junk,rfl,_⟩ <;> exact⟨rfl⟩
def Wd.stored(w:Wd):Wd:={ w with pend:=true,mark:=false }
def Wd.flushed(w:Wd):Wd:={ w with mark:=w.pend }
def Wd.fenced(w:Wd):Wd:=bif w.mark then { lasts:=w.now,now:=w.now,pend:=false,mark:=false } else w
theorem Wd.stored_ok{w:Wd}(h:w.Ok):w.stored.Ok:=⟨h.1,by simp [Wd.stored]⟩
theorem Wd.flushed_ok{w:Wd}(h:w.Ok):w.flushed.Ok:=⟨h.1,by simp [Wd.flushed]⟩
theorem Wd.fenced_ok{w:Wd}(h:w.Ok):w.fenced.Ok:=by
 unfold Wd.fenced
 cases hm:w.mark
 ·exact h
 ·exact⟨⟨h.1.2,h.1.2⟩,by simp⟩
def aB0(g:FuncId)(h:Wd→Wd):Prop:=∀ (b:Nat) (A B:List Value) (u:Wd),u.Ok →
 Tri prog g [.pointer (some ⟨b,A.length,none⟩)] [(b,cl (A++(wc u++B)) 147)] (fun _=>True) (fun v H'=>v=.tuple #[]∧H'=[(b,cl (A++(wc (h u)++B)) 147)])
theorem aEG(A B:List Value){u:Wd}(h:u.Len):(A++(wc u++B))[A.length+16]?=some (.bool u.pend)∧(A++(wc u++B))[A.length+17]?=some (.bool u.mark):=by
 constructor
 ·rw [aD8 A _ B 16 _ rfl (by rw [kH h];omega)];simp [wc,List.getElem?_append,h.1,h.2]
 ·rw [aD8 A _ B 17 _ rfl (by rw [kH h];omega)];simp [wc,List.getElem?_append,h.1,h.2]
theorem zJ(A B:List Value){u:Wd}(h:u.Len)(p:Bool):(A++(wc u++B)).set (A.length+16) (.bool p)=A++(wc { u with pend:=p }++B)∧(A++(wc u++B)).set (A.length+17) (.bool p)=A++(wc { u with mark:=p }++B):=by
 constructor
 ·rw [aEz A _ B 16 _ _ rfl (by rw [kH h];omega)];simp [wc,List.set_append,h.1,h.2]
 ·rw [aEz A _ B 17 _ _ rfl (by rw [kH h];omega)];simp [wc,List.set_append,h.1,h.2]
theorem aGX(A B:List Value){u:Wd}(h:u.Len):((A++(wc u++B)).drop (A.length+8)).take 8=u.now.map bv∧((A++(wc u++B)).drop (A.length+0)).take 8=u.lasts.map bv:=by
 constructor
 ·rw [aF5 A _ B 8 8 _ rfl (by rw [kH h];omega)]
  simp [wc,gD,h.1,h.2,cP,aK]
 ·rw [aF5 A _ B 0 8 _ rfl (by rw [kH h];omega)]
  simp [wc,h.1,h.2,aK]
theorem aGY(A B:List Value){u:Wd}(h:u.Len)(r:List UInt8)(hr:r.length=8) :
  (A++(wc u++B)).take (A.length+0)++r.map bv++(A++(wc u++B)).drop (A.length+0+8)=A++(wc { u with lasts:=r }++B) ∧
  (A++(wc u++B)).take (A.length+8)++r.map bv++(A++(wc u++B)).drop (A.length+8+8)=A++(wc { u with now:=r }++B):=by
 have hl:(r.map bv).length=8:=by simpa using hr
 constructor
 ·have:=aCP A (wc u) B (r.map bv) 0 (A.length+0) rfl (by rw [kH h,hl];omega)
  rw [hl] at this
  rw [this]
  simp [wc,h.1,h.2,gD,cP]
 ·have:=aCP A (wc u) B (r.map bv) 8 (A.length+8) rfl (by rw [kH h,hl];omega)
  rw [hl] at this
  rw [this]
  simp [wc,h.1,h.2,iG,gD,cP,aK]
theorem aCn(A B:List Value){u:Wd}(h:u.Len):(A++(wc u++B)).length=A.length+(18+B.length):=by simp [kH h]
theorem aKQ:aB0 223 Wd.stored:=fun b A B u hu=>by
 have hl:=aCn A B hu.1
 have h16:A.length+16<(A++(wc u++B)).length:=by rw [hl];omega
 have h17:A.length+17<((A++(wc u++B)).set (A.length+16) (.bool true)).length:=by rw [bS,hl];omega
 refine Tri.mk func223 rfl ntmps223 rfl fun w hw=>?_
 refine W.o ?_
 refine Fin.s0 (.inr rfl) rfl ⟨rfl,?_⟩
 rw [(zJ A B hu.1 true).1,(zJ A B (u:={ u with pend:=true }) hu.1 false).2]
 rfl
theorem aIn:aB0 224 Wd.flushed:=fun b A B u hu=>by
 have hl:=aCn A B hu.1
 have h17:A.length+17<(A++(wc u++B)).length:=by rw [hl];omega
 have g16:=(aEG A B hu.1).1
 refine Tri.mk func224 rfl ntmps224 rfl fun w hw=>?_
 refine W.o ?_
 refine Fin.s0 (.inr rfl) rfl ⟨rfl,?_⟩
 rw [(zJ A B hu.1 _).2]
 rfl
theorem aJK:aB0 177 Wd.fenced:=fun b A B u hu=>by
 have hl:=aCn A B hu.1
 have g17:=(aEG A B hu.1).2
 have gn:=(aGX A B hu.1).1
 have hn:(u.now.map bv).length=8:=by simpa using hu.1.2
 have h0:A.length+0+8≤(A++(wc u++B)).length:=by rw [hl];omega
 have gp:=(aGY A B hu.1 u.now hu.1.2).1
 have hu2:({ u with lasts:=u.now }:Wd).Len:=⟨hu.1.2,hu.1.2⟩
 have hl2:=aCn A B hu2
 have h16:A.length+16<(A++(wc { u with lasts:=u.now }++B)).length:=by rw [hl2];omega
 have h17:A.length+17<((A++(wc { u with lasts:=u.now }++B)).set (A.length+16) (.bool false)).length:=by rw [bS,hl2];omega
 refine Tri.mk func177 rfl ntmps177 rfl fun w hw=>?_
 refine W.o ?_
 refine jK rfl (fun hm=>?_) (fun hm=>?_)
 ·refine W.o ?_
  refine Fin.s0 (.inr rfl) rfl ⟨rfl,?_⟩
  rw [(zJ A B hu2 false).1]
  rw [(zJ A B (u:={ u with lasts:=u.now,pend:=false }) hu2 false).2]
  simp [Wd.fenced,hm]
 ·refine W.o ?_
  refine Fin.s0 (.inr rfl) rfl ⟨rfl,?_⟩
  simp [Wd.fenced,hm]
theorem aHv{p:Nat}{σ:Dv}{H:Hp}(hD:fD p σ H):Tri prog 96 [.pointer (some ⟨p,0,none⟩)] H (fun _=>True) (fun v H'=>v=.bool σ.down∧H'=H):=by
 obtain⟨hO,bw,vp,va,Hq,Ha,h1,h2,rfl⟩:=hD
 refine Tri.mk func96 rfl ntmps96 rfl fun w hw=>?_
 refine W.o ?_
 exact Fin.s1 (.inl rfl) rfl rfl ⟨rfl,rfl⟩
def Dv.len(σ:Dv):Nat:=8*σ.ws.length
theorem aCm{p:Nat}{σ:Dv}{H:Hp}(hD:fD p σ H):Tri prog 49 [.pointer (some ⟨p,0,none⟩)] H (fun _=>True) (fun v H'=>v=.int .i64 σ.len∧H'=H):=by
 obtain⟨hO,bw,vp,va,Hq,Ha,h1,h2,rfl⟩:=hD
 have hn:=hO.n
 refine Tri.mk func49 rfl ntmps49 rfl fun w hw=>?_
 refine W.o ?_
 exact Fin.s1 (.inl rfl) rfl rfl ⟨by simp [Dv.len],rfl⟩
def Dv.on(σ:Dv):Dv:={ σ with down:=false,fuse:=0 }
theorem Dv.on_ok{σ:Dv}(h:σ.Ok):σ.on.Ok:=⟨h.n,h.ok,Int.le_refl _,by simp [Dv.on],h.a⟩
theorem aPd{p:Nat}{σ:Dv}{H:Hp}(hD:fD p σ H):Tri prog 80 [.pointer (some ⟨p,0,none⟩)] H (fun _=>True) (fun v H'=>v=.tuple #[]∧fD p σ.on H'):=by
 obtain⟨hO,bw,vp,va,Hq,Ha,h1,h2,rfl⟩:=hD
 refine Tri.mk func80 rfl ntmps80 rfl fun w hw=>?_
 (refine W.o ?_;repeat intro b_)
 exact Fin.s0 (.inr rfl) rfl ⟨rfl,Dv.on_ok hO,bw,vp,va,Hq,Ha,h1,h2,rfl⟩
def Dv.rdy(σ:Dv)(x n:Int):Int:=if σ.down=true then 8 else if x<0∨n<0∨(σ.len:Int)<n∨(σ.len:Int)-n<x then 3 else 0
theorem aAt{p:Nat}{σ:Dv}{H:Hp}(hD:fD p σ H)(x n:Int):Tri prog 84 [.pointer (some ⟨p,0,none⟩),.int .i64 x,.int .i64 n] H (fun _=>True) (fun v H'=>v=.int .i64 (σ.rdy x n)∧H'=H):=by
 have hlen:=aCm hD
 obtain⟨hO,bw,vp,va,Hq,Ha,h1,h2,hH⟩:=hD
 have hn:σ.len≤65536:=by have:=hO.n;simp only [Dv.len];omega
 subst hH
 refine Tri.mk func84 rfl ntmps84 rfl fun w hw=>?_
 repeat' (first|(refine sP ?_;refine zR rfl rfl ?_)|(refine pK ?_;((refine oM _ rfl rfl rfl rfl hlen (fun _ _=>trivial) ?_;rintro _ _ ⟨rfl,rfl⟩)))|(refine W.ow ?_;try intro b_)  | refine dX (pH rfl rfl rfl) rfl rfl (fun h_=>?_) (fun h_=>?_)|refine dX (pG rfl rfl rfl) rfl rfl (fun h_=>?_) (fun h_=>?_)|refine dX (pF rfl rfl rfl) rfl rfl (fun h_=>?_) (fun h_=>?_)|refine dX (pE rfl rfl rfl) rfl rfl (fun h_=>?_) (fun h_=>?_)|refine dX (nE rfl rfl rfl) rfl rfl (fun h_=>?_) (fun h_=>?_)|refine dX (pI rfl rfl rfl) rfl rfl (fun h_=>?_) (fun h_=>?_)|refine jK rfl (fun h_=>?_) (fun h_=>?_))
 all_goals (refine Fin.r1 (.inl rfl) rfl rfl _ ⟨?_,rfl⟩;unfold Dv.rdy;congr 1)
 all_goals (repeat' split)
 all_goals first|rfl|(exfalso;simp_all;done)|(exfalso;omega)
def jC(h:Wd→Wd)(x y:Nat)(ws:List Wd):List Wd:=ws.mapIdx fun i w=>if x≤i∧i<y then h w else w
theorem rH(h:Wd→Wd)(x:Nat)(ws:List Wd):jC h x x ws=ws:=by
 apply cB
 intro i
 simp only [jC,dC]
 cases ws[i]? with
 | none=>rfl
 | some w=>simp only [Option.map_some];rw [if_neg oQ]
theorem aDr(h:Wd→Wd)(x y:Nat)(ws:List Wd)(w:Wd)(hxy:x≤y)(hw:ws[y]?=some w):(jC h x y ws)[y]?=some w∧(jC h x y ws).set y (h w)=jC h x (y+1) ws:=by
 constructor
 ·simp only [jC,dC,hw,Option.map_some];rw [if_neg oQ]
 ·apply cB
  intro i
  simp only [jC,dT,lL,dC]
  by_cases hi:y=i
  ·subst hi
   have hlt:y<ws.length:=(aE.1 hw).1
   simp only [hlt,if_true,hw,Option.map_some]
   rw [if_pos oQ]
  ·rw [if_neg hi]
   cases ws[i]? with
   | none=>rfl
   | some u=>
    simp only [Option.map_some,cV]
    by_cases h1:x≤i∧i<y
    ·rw [if_pos h1,if_pos oQ]
    ·rw [if_neg h1,if_neg oQ]
theorem oU(h:Wd→Wd)(x y:Nat)(ws:List Wd):(jC h x y ws).length=ws.length:=by simp [jC]
theorem xI{h:Wd→Wd}(hh:∀ w,w.Ok→(h w).Ok)(x y:Nat){ws:List Wd}(hw:∀ w∈ws,w.Ok):∀ w∈jC h x y ws,w.Ok:=by
 intro w hm
 obtain⟨i,hi⟩:=cC.1 hm
 simp only [jC,dC] at hi
 cases hu:ws[i]? with
 | none=>rw [hu] at hi;simp at hi
 | some u=>
  rw [hu] at hi
  simp only [Option.map_some,cV] at hi
  have hm:u∈ws:=aT hu
  rw [← hi]
  split
  ·exact hh u (hw u hm)
  ·exact hw u hm
theorem aNu{g:FuncId} [bD prog g]{h:Wd→Wd}(hg:aB0 g h)(hh:∀ w,w.Ok→(h w).Ok)(p bw n:Nat)(x1 x2 x3 x4:Value)(ws:List Wd)(hn:ws.length=n)(hn2:n≤8192)(hok:∀ w∈ws,w.Ok)(x y:Nat)(hxy:x≤y)(hy:y≤n) :
  Tri prog 176 [.pointer (some ⟨p,0,none⟩),.int .i64 x,.int .i64 y,.func (.func g) #[] #[]] [(p,cl [.slice (some ⟨bw,0,none⟩) n n,x1,x2,x3,x4] 134),(bw,cl (ws.flatMap wc) 147)] (fun _=>True)
   (fun v H'=>v=.tuple #[]∧H'=[(p,cl [.slice (some ⟨bw,0,none⟩) n n,x1,x2,x3,x4] 134),(bw,cl ((jC h x y ws).flatMap wc) 147)]):=by
 refine Tri.mk func176 rfl ntmps176 rfl fun w hw=>?_
 repeat' (first|(refine W.ow ?_;try intro b_)  | refine dX (pH rfl rfl rfl) rfl rfl (fun h_=>?_) (fun h_=>?_)|refine dX (pG rfl rfl rfl) rfl rfl (fun h_=>?_) (fun h_=>?_)|refine dX (pF rfl rfl rfl) rfl rfl (fun h_=>?_) (fun h_=>?_)|refine dX (pE rfl rfl rfl) rfl rfl (fun h_=>?_) (fun h_=>?_)|refine dX (nE rfl rfl rfl) rfl rfl (fun h_=>?_) (fun h_=>?_)|refine dX (pI rfl rfl rfl) rfl rfl (fun h_=>?_) (fun h_=>?_)|refine jK rfl (fun h_=>?_) (fun h_=>?_))
 refine zT (fun k:Nat=>[(0,.pointer (some ⟨p,0,none⟩)),(2,.int .i64 y),(3,.func (.func g) #[] #[]),(8,.int .i64 k)])
  (fun k=>[(p,cl [.slice (some ⟨bw,0,none⟩) n n,x1,x2,x3,x4] 134),(bw,cl ((jC h x k ws).flatMap wc) 147)])
  (fun k=>y-k) (fun k=>x≤k∧k≤y) x ⟨rfl,rfl,rfl,rfl,trivial⟩ (by rw [rH];infer_instance) ⟨Nat.le_refl _,hxy⟩ ?_
 rintro k ⟨hk1,hk2⟩
 repeat' (first|(refine W.ow ?_;try intro b_)  | refine dX (pH rfl rfl rfl) rfl rfl (fun h_=>?_) (fun h_=>?_)|refine dX (pG rfl rfl rfl) rfl rfl (fun h_=>?_) (fun h_=>?_)|refine dX (pF rfl rfl rfl) rfl rfl (fun h_=>?_) (fun h_=>?_)|refine dX (pE rfl rfl rfl) rfl rfl (fun h_=>?_) (fun h_=>?_)|refine dX (nE rfl rfl rfl) rfl rfl (fun h_=>?_) (fun h_=>?_)|refine dX (pI rfl rfl rfl) rfl rfl (fun h_=>?_) (fun h_=>?_)|refine jK rfl (fun h_=>?_) (fun h_=>?_))
 ·have hlt:k<ws.length:=oQ
  obtain⟨u,hu⟩:∃ u,ws[k]?=some u:=⟨_,aA hlt⟩
  obtain⟨h1,h2⟩:=aDr h x k ws u hk1 hu
  have hok2:=xI hh x k hok
  have hl2:(jC h x k ws).length=n:=by rw [oU,hn]
  have hwl:∀ w∈jC h x k ws,(wc w).length=18:=fun w hw=>kH (hok2 w hw).1
  rw [qE wc _ k u h1]
  have hA:(((jC h x k ws).take k).flatMap wc).length=k*18:=by rw [mE wc 18 _ (fun w hw=>hwl w (dU hw)),aG];congr 1;omega
  have hf:=hg bw (((jC h x k ws).take k).flatMap wc) (((jC h x k ws).drop (k+1)).flatMap wc) u (hok2 _ (aT h1))
  rw [hA] at hf
  refine W.o ?_
  refine bP (gY rfl rfl rfl oQ oQ (j':=k*18) oQ) rfl rfl ?_
  refine dV [(bw,_)] rfl rfl rfl rfl rfl rfl hf (fun _ _=>trivial) ?_
  rintro _ _ ⟨rfl,rfl⟩
  rw [← aGu wc _ k _ oQ,h2]
  refine W.o ?_
  refine sK.mk (k+1) oQ ⟨rfl,rfl,rfl,rfl,trivial⟩ inferInstance ⟨by omega,by omega⟩
 ·refine Fin.s0 (.inr rfl) rfl ⟨rfl,?_⟩
  have:k=y:=oQ
  rw [this]
def yS(q:List UInt8)(j:Nat):Bool:=match q[j%q.length]? with
 | some b=>(b &&& 1) == 1
 | none=>false
def Wd.crash(b:Bool)(w:Wd):Wd:=⟨bif b then w.now else w.lasts,bif b then w.now else w.lasts,false,false⟩
def kE(q:List UInt8):Nat→List Wd→List Wd
 | _,[]=>[]
 | j,w::t=>bif w.pend then w.crash (yS q j)::kE q (j+1) t else w::kE q j t
def Dv.crash(q:List UInt8)(σ:Dv):Dv:=bif σ.down then σ else { σ with ws:=kE q 0 σ.ws,down:=true,fuse:=0 }
theorem uP(q:List UInt8):∀ (j:Nat) (l:List Wd),(kE q j l).length=l.length
 | _,[]=>rfl
 | j,w::t=>by unfold kE;cases w.pend <;> simp [uP q _ t]
theorem Wd.crash_ok{w:Wd}(b:Bool)(h:w.Ok):(w.crash b).Ok:=by
 cases b
 ·exact⟨⟨h.1.1,h.1.1⟩,by simp [Wd.crash]⟩
 ·exact⟨⟨h.1.2,h.1.2⟩,by simp [Wd.crash]⟩
theorem aAS(q:List UInt8):∀ (j:Nat) (l:List Wd),(∀ w∈l,w.Ok)→∀ w∈kE q j l,w.Ok
 | _,[],_=>by simp [kE]
 | j,w::t,h=>by
  unfold kE
  have ht:∀ w∈t,w.Ok:=fun x hx=>h x (by simp [hx])
  cases w.pend
  ·intro x hx
   simp only [cond_false,bZ] at hx
   rcases hx with rfl|hx
   ·exact h x (by simp)
   ·exact aAS q _ t ht x hx
  ·intro x hx
   simp only [cond_true,bZ] at hx
   rcases hx with rfl|hx
   ·exact Wd.crash_ok _ (h w (by simp))
   ·exact aAS q _ t ht x hx
theorem Dv.crash_ok{σ:Dv}(q:List UInt8)(h:σ.Ok):(σ.crash q).Ok:=by
 unfold Dv.crash
 cases σ.down
 ·exact⟨by simp only [cond_false];rw [uP];exact h.n,aAS q 0 _ h.ok,Int.le_refl _,by simp,h.a⟩
 ·exact h
theorem aE9(b:UInt8):(IntKind.u8.wrap (((BitVec.ofInt IntKind.u8.bits ((b.toNat:Nat):Int)) &&& (BitVec.ofInt IntKind.u8.bits 1)).toNat)=1)↔((b &&& 1) == 1)=true:=by
 have hp:(0:Nat)<2^8:=by decide
 have h1:((b &&& 1) == 1)=true↔b.toNat%2=1:=by
  rw [beq_iff_eq,← kL,UInt8.toNat_and,UInt8.toNat_one,rQ]
 rw [h1]
 have h2:(((BitVec.ofInt IntKind.u8.bits ((b.toNat:Nat):Int)) &&& (BitVec.ofInt IntKind.u8.bits 1)).toNat)=b.toNat%2:=by
  have e1:BitVec.ofInt IntKind.u8.bits ((b.toNat:Nat):Int)=b.toBitVec:=by
   apply mC;rw [iU];have:=b.toNat_lt;show ((b.toNat:Int)%(256:Int)).toNat=b.toNat;omega
  have e2:BitVec.ofInt IntKind.u8.bits 1=(1:BitVec 8):=rfl
  rw [e1,e2]
  show (b.toBitVec &&& (1:BitVec 8)).toNat=_
  rw [tF]
  exact rQ _
 rw [h2]
 have h3:IntKind.u8.wrap ((b.toNat%2:Nat):Int)=((b.toNat%2:Nat):Int):=by
  show (((b.toNat%2:Nat):Int)%256)=_
  omega
 rw [h3];omega
def hdr(bw n:Nat)(d:Bool)(f:Int)(vp va:Value):Obj:=cl [.slice (some ⟨bw,0,none⟩) n n,.bool d,.int .i64 f,vp,va] 134
theorem aB9{p bw:Nat}{σ:Dv}(hO:σ.Ok)(vp va q:Value)(qs:List UInt8) :
  Tri prog 75 [.pointer (some ⟨p,0,none⟩),q] [(p,hdr bw σ.ws.length σ.down σ.fuse vp va),(bw,cl (σ.ws.flatMap wc) 147)] (fun w=>Rd [p,bw] w 1 q (qs.map bv))
   (fun v H'=>v=.tuple #[]∧H'=[(p,hdr bw (σ.crash qs).ws.length (σ.crash qs).down (σ.crash qs).fuse vp va),(bw,cl ((σ.crash qs).ws.flatMap wc) 147)]):=by
 unfold hdr
 obtain⟨ws,dn,fu,pk,ak⟩:=σ
 have hn:=hO.n
 have hok:=hO.ok
 simp only at hn hok
 refine Tri.mk func75 rfl ntmps75 rfl fun w hw=>?_
 obtain⟨a,len,cap,rfl,hlen,hcap,hrd⟩:=hw
 rw [aD,Nat.mul_one] at hlen
 cases dn
 ·dsimp only
  refine W.o ?_
  refine zT (fun x:List Wd×List Wd×Nat=>[(0,.pointer (some ⟨p,0,none⟩)),(1,.slice a len cap),(4,.int .i64 x.2.2),(19,.int .i64 ws.length),(20,.int .i64 x.1.length)])
   (fun x=>[(p,cl [.slice (some ⟨bw,0,none⟩) ws.length ws.length,.bool false,.int .i64 fu,vp,va] 134),(bw,cl ((x.1++x.2.1).flatMap wc) 147)])
   (fun x=>x.2.1.length) (fun x=>kE qs 0 ws=x.1++kE qs x.2.2 x.2.1∧x.1.length+x.2.1.length=ws.length∧x.2.2≤x.1.length∧(∀ w∈x.1++x.2.1,w.Ok))
   ([],ws,0) ⟨rfl,rfl,rfl,rfl,rfl,trivial⟩ (by dsimp only [List.nil_append];infer_instance) ⟨rfl,by simp,Nat.le_refl _,hok⟩ ?_
  rintro⟨done,todo,j⟩ ⟨hc,hl,hj,hk⟩
  dsimp only at hc hl hj hk ⊢
  cases todo with
  | nil=>
   have hl2:done.length=ws.length:=by simpa using hl
   refine W.o ?_
   refine Fin.s0 (.inr rfl) rfl ⟨rfl,?_⟩
   simp [Dv.crash,hc,kE,hl2]
  | cons u t=>
   have hl2:done.length+(t.length+1)=ws.length:=by simpa using hl
   have hu:u.Ok:=hk u (by simp)
   have hA:(done.flatMap wc).length=done.length*18:=mE wc 18 _ (fun w hw=>kH (hk w (by simp [hw])).1)
   rw [cU,dF]
   have g16:=(aEG (done.flatMap wc) (t.flatMap wc) hu.1).1
   have hL:∀ v:Wd,v.Len→((done.flatMap wc)++(wc v++t.flatMap wc)).length=done.length*18+(18+(t.flatMap wc).length):=fun v hv=>by rw [aCn _ _ hv,hA]
   refine W.o ?_
   refine bP (gY rfl rfl rfl oQ oQ (j':=(done.flatMap wc).length) oQ) rfl rfl ?_
   obtain⟨la,no,pe,ma⟩:=u
   dsimp only at g16
   cases pe
   ·refine W.o ?_
    refine sK.eq (done++[⟨la,no,false,ma⟩],t,j) (by simp) ⟨rfl,rfl,rfl,rfl,?_,trivial⟩ ?_ ⟨?_,?_,?_,?_⟩
    ·simp [lk,pt]
    ·simp
    ·rw [hc];simp [kE]
    ·simp;omega
    ·simp;omega
    ·simpa using hk
   ·have hn8:(no.map bv).length=8:=by simpa using hu.1.2
    have rn:=(aGX (done.flatMap wc) (t.flatMap wc) hu.1).1
    have b0:(done.flatMap wc).length+0+8≤(done.flatMap wc++(wc ⟨la,no,true,ma⟩++t.flatMap wc)).length:=by rw [hL _ hu.1];omega
    have p0:=(aGY (done.flatMap wc) (t.flatMap wc) hu.1 no hu.1.2).1
    dsimp only at p0 rn
    have key:∀ l:List UInt8,l.length=8→(∀ (l':List UInt8),l'=l→((⟨l',l',false,false⟩:Wd)=Wd.crash (yS qs j) ⟨la,no,true,ma⟩)) →
     let X:=done.flatMap wc++(wc ⟨l,no,true,ma⟩++t.flatMap wc)
     let Y:=done.flatMap wc++(wc ⟨l,l,true,ma⟩++t.flatMap wc)
     (X.drop ((done.flatMap wc).length+0)).take 8=l.map bv∧(l.map bv).length=8∧(done.flatMap wc).length+8+8≤X.length ∧
      X.take ((done.flatMap wc).length+8)++l.map bv++X.drop ((done.flatMap wc).length+8+8)=Y∧(done.flatMap wc).length+16<Y.length∧(done.flatMap wc).length+17<(Y.set ((done.flatMap wc).length+16) (.bool false)).length ∧
      (Y.set ((done.flatMap wc).length+16) (.bool false)).set ((done.flatMap wc).length+17) (.bool false)=((done++[Wd.crash (yS qs j) ⟨la,no,true,ma⟩])++t).flatMap wc:=by
     intro l h8 hcr X Y
     have hX:(⟨l,no,true,ma⟩:Wd).Len:=⟨h8,hu.1.2⟩
     have hY:(⟨l,l,true,ma⟩:Wd).Len:=⟨h8,h8⟩
     have hY2:(⟨l,l,false,ma⟩:Wd).Len:=⟨h8,h8⟩
     have hXl:=hL _ hX
     have hYl:=hL _ hY
     refine⟨(aGX (done.flatMap wc) (t.flatMap wc) hX).2,by simpa using h8,?_,(aGY (done.flatMap wc) (t.flatMap wc) hX l h8).2,?_,?_,?_⟩
     ·show _≤(done.flatMap wc++(wc ⟨l,no,true,ma⟩++t.flatMap wc)).length
      rw [hXl];omega
     ·show _<(done.flatMap wc++(wc ⟨l,l,true,ma⟩++t.flatMap wc)).length
      rw [hYl];omega
     ·show _<((done.flatMap wc++(wc ⟨l,l,true,ma⟩++t.flatMap wc)).set _ _).length
      rw [bS,hYl];omega
     ·rw [(zJ (done.flatMap wc) (t.flatMap wc) hY false).1,(zJ (done.flatMap wc) (t.flatMap wc) hY2 false).2]
      rw [hcr l rfl];simp
    have fin:∀ ρ:Fr,subF [(0,.pointer (some ⟨p,0,none⟩)),(1,.slice a len cap),(4,.int .i64 (j+1)),(19,.int .i64 ws.length),(20,.int .i64 (done.length+1))] ρ→sK (fun x:List Wd×List Wd×Nat=>[(0,.pointer (some ⟨p,0,none⟩)),(1,.slice a len cap),(4,.int .i64 x.2.2),(19,.int .i64 ws.length),(20,.int .i64 x.1.length)])
      (fun x=>[(p,cl [.slice (some ⟨bw,0,none⟩) ws.length ws.length,.bool false,.int .i64 fu,vp,va] 134),(bw,cl ((x.1++x.2.1).flatMap wc) 147)])
      (fun x=>x.2.1.length) (fun x=>kE qs 0 ws=x.1++kE qs x.2.2 x.2.1∧x.1.length+x.2.1.length=ws.length∧x.2.2≤x.1.length∧(∀ w∈x.1++x.2.1,w.Ok)) (done,⟨la,no,true,ma⟩::t,j) ρ
      [(p,cl [.slice (some ⟨bw,0,none⟩) ws.length ws.length,.bool false,.int .i64 fu,vp,va] 134),(bw,cl (((done++[Wd.crash (yS qs j) ⟨la,no,true,ma⟩])++t).flatMap wc) 147)]:=by
     intro ρ hρ
     refine sK.eq (done++[Wd.crash (yS qs j) ⟨la,no,true,ma⟩],t,j+1) (by simp) (by simpa using hρ) rfl ⟨?_,?_,?_,?_⟩
     ·rw [hc];simp [kE]
     ·simp;omega
     ·simp;omega
     ·have:=Wd.crash_ok (yS qs j) hu
      simp only [bK,bZ,dN,or_false] at hk ⊢
      rintro w ((hw|rfl)|hw)
      ·exact hk w (.inl hw)
      ·exact this
      ·exact hk w (.inr (.inr hw))
    rcases fW len with h0|h0
    ·subst h0
     have hq:qs=[]:=bJ hlen
     obtain⟨k1,k2,k3,k4,k5,k6,k7⟩:=key la hu.1.1 (fun l' h=>by subst h hq;simp [yS,Wd.crash])
     refine W.o ?_
     rw [k7]
     exact fin _ ⟨rfl,rfl,rfl,rfl,rfl,trivial⟩
    ·obtain⟨b,o,l,T,fz,rfl,hb,hbk,hrow⟩:=hrd.resolve_left oQ
     obtain⟨x,hx⟩:∃ x,qs[j%qs.length]?=some x:=⟨_,aA (Nat.mod_lt _ oQ)⟩
     have hlx:l[o+(j%len)*1]?=some (bv x):=by
      have:=congrArg (fun z=>z[j%len]?) hrow
      rw [bE,if_pos (by have:=Nat.mod_lt j h0;omega),bI,aJ,← hlen,hx] at this
      rw [Nat.mul_one,← hlen];exact this
     refine W.o ?_
     refine bP (aCw rfl rfl rfl oQ (r:=((j%len:Nat):Int)) (by rw [vZ])) rfl rfl ?_
     refine bP (gY rfl rfl rfl oQ (by have:=Nat.mod_lt j h0;omega) (j':=o+(j%len)*1) (by rw [aP])) rfl rfl ?_
     refine bP (uA rfl rfl hb hbk hlx) rfl rfl ?_
     refine bP (aPe rfl rfl rfl rfl) rfl rfl ?_
     by_cases hbit:((x &&& 1) == 1)=true
     ·obtain⟨k1,k2,k3,k4,k5,k6,k7⟩:=key no hu.1.2 (fun l' h=>by subst h;simp only [yS,hx,hbit];rfl)
      refine bP (Pu.t (nE rfl rfl rfl) ((aE9 x).2 hbit)) rfl rfl ?_
      refine W.o ?_
      rw [k7]
      exact fin _ ⟨rfl,rfl,rfl,rfl,rfl,trivial⟩
     ·obtain⟨k1,k2,k3,k4,k5,k6,k7⟩:=key la hu.1.1 (fun l' h=>by subst h;simp only [Bool.not_eq_true] at hbit;simp only [yS,hx,hbit];rfl)
      refine bP (Pu.f (nE rfl rfl rfl) (fun h=>hbit ((aE9 x).1 h))) rfl rfl ?_
      refine W.o ?_
      rw [k7]
      exact fin _ ⟨rfl,rfl,rfl,rfl,rfl,trivial⟩
 ·dsimp only
  refine W.o ?_
  refine Fin.s0 (.inl rfl) rfl ⟨rfl,rfl⟩
theorem aLx{p:Nat}{σ:Dv}{H:Hp}(hD:fD p σ H)(q:Value)(qs:List UInt8):Tri prog 75 [.pointer (some ⟨p,0,none⟩),q] H (fun w=>Rd (H.map Prod.fst) w 1 q (qs.map bv))
  (fun v H'=>v=.tuple #[]∧fD p (σ.crash qs) H'):=by
 obtain⟨hO,bw,vp,va,Hq,Ha,h1,h2,rfl⟩:=hD
 refine ((aB9 (p:=p) (bw:=bw) hO vp va q qs).frame (r:=Hq++Ha) (List.Perm.refl _) (fun w ho hr=>?_)).mono ?_
 ·obtain⟨a,len,cap,rfl,hl,hc,hb⟩:=hr
  refine⟨a,len,cap,rfl,hl,hc,hb.imp id fun⟨b,o,l,T,fz,ha,hb,hk,hy⟩=>⟨b,o,l,T,fz,ha,hb,fun hm=>hk ?_,hy⟩⟩
  simp only [bZ,dN,or_false] at hm
  rcases hm with rfl|rfl <;> simp
 ·rintro v H' ⟨H1,rfl,rfl,rfl⟩
  refine⟨rfl,Dv.crash_ok qs hO,bw,vp,va,Hq,Ha,?_,?_,rfl⟩
  ·unfold Dv.crash;cases σ.down <;> exact h1
  ·unfold Dv.crash;cases σ.down <;> exact h2
def Dv.push(σ:Dv)(a:Int×Int×Int):Dv:=if σ.acts.length<16384 then { σ with acts:=σ.acts++[a] } else σ
def Dv.act(σ:Dv)(a:Int×Int×Int):Dv:=if 0<σ.fuse then (if σ.fuse=1 then ({ σ with fuse:=0 }:Dv).crash σ.picks else ({ σ with fuse:=σ.fuse-1 }:Dv).push a) else σ.push a
def Dv.actE(σ:Dv):Int:=if σ.fuse=1 then 8 else 0
theorem Dv.fuse_ok{σ:Dv}(f:Int)(h:σ.Ok)(h0:0≤f)(h1:f≤9223372036854775807):({ σ with fuse:=f }:Dv).Ok:=⟨h.n,h.ok,h0,h1,h.a⟩
theorem aG9{p:Nat}{σ:Dv}{H:Hp}(hD:fD p σ H)(a:Int×Int×Int):Tri prog 153 [.pointer (some ⟨p,0,none⟩),.agg #[.int .i64 a.1,.int .i64 a.2.1,.int .i64 a.2.2]] H (fun _=>True)
  (fun v H'=>v=.int .i64 σ.actE∧fD p (σ.act a) H'):=by
 obtain⟨hO,bw,vp,va,Hq,Ha,h1,h2,rfl⟩:=hD
 have hf0:=hO.f0
 have hf1:=hO.f1
 have ha:=hO.a
 have hof:One vp:=h1.one
 obtain⟨aa,la,ca,rfl,hla⟩:=h2.form
 have hla2:la=σ.acts.length:=by rw [mE ac 3 _ (fun x _=>rfl)] at hla;omega
 subst hla2
 refine Tri.mk func153 rfl ntmps153 rfl fun w hw=>?_
 by_cases c0:0<σ.fuse
 ·refine W.o fun b_=>?_
  by_cases c1:σ.fuse=1
  ·have e0:σ.fuse-1=0:=oQ
   have hc:=aB9 (p:=p) (bw:=bw) (Dv.fuse_ok (σ.fuse-1) hO oQ oQ) vp (.slice aa σ.acts.length ca) vp σ.picks
   unfold hdr at hc
   dsimp only at hc
   refine W.o ?_
   dsimp only [List.set]
   refine aEX [p,bw] rfl rfl rfl rfl hc (fun w hs=>Rd.own (Hc:=[(p,cl [.slice (some ⟨bw,0,none⟩) σ.ws.length σ.ws.length,.bool σ.down,.int .i64 (σ.fuse-1),vp,.slice aa σ.acts.length ca] 134),(bw,cl (σ.ws.flatMap wc) 147)]) h1 hs inferInstance) ?_
   rintro _ _ ⟨rfl,rfl⟩
   refine W.o ?_
   refine Fin.rm b_ (Fin.s1 (.inl rfl) rfl rfl ⟨?_,?_⟩)
   ·simp [Dv.actE,c1]
   ·have he:σ.act a=({ σ with fuse:=σ.fuse-1 }:Dv).crash σ.picks:=by simp [Dv.act,c1]
    rw [he]
    refine⟨Dv.crash_ok _ (Dv.fuse_ok _ hO oQ oQ),bw,vp,_,Hq,Ha,?_,?_,rfl⟩
    ·unfold Dv.crash;cases σ.down <;> exact h1
    ·unfold Dv.crash;cases σ.down <;> exact h2
  ·have c3:σ.fuse-1≠0:=oQ
   by_cases c2:σ.acts.length<16384
   ·refine W.o ?_
    refine mO [p,b_] 10 kQ ?_
    refine SA.take 0 rfl kQ (fun _ _ _ h=>Fin.np h) rfl rfl (fB rfl rfl) ?_
    refine SA.take 1 rfl kQ (fun _ _ _ h=>Fin.np h) rfl rfl (fB rfl rfl) ?_
    refine SA.take 2 rfl kQ (fun _ _ _ h=>Fin.np h) rfl rfl (sA rfl rfl) ?_
    refine SA.take 3 rfl kQ (fun _ _ _ h=>Fin.np h) rfl rfl (gM rfl rfl rfl) ?_
    refine SA.take 4 rfl kQ (fun _ _ _ h=>Fin.np h) rfl rfl (jI rfl rfl rfl) ?_
    refine SA.take 5 rfl kQ (fun _ _ _ h=>Fin.np h) rfl rfl (mS rfl rfl rfl rfl) ?_
    refine SA.one 6 rfl kQ ?_
    refine iK (n:=3) rfl rfl rfl rfl (by rfl) dQ (by rfl) dQ (fun b2=>?_)
    refine jG ?_
    refine Beh.mk ?_
    refine SA.one 7 rfl kQ ?_
    refine SL.append (n:=3) (m:=1) (ys:=ac a) Ha rfl rfl rfl rfl rfl h2 (fun w hs=>eU.block (hs.at (b:=b2)) rfl rfl) rfl rfl dQ dQ ?_ (fun v2 Ha2 h3=>?_)
    ·rw [hla];simp [ac];omega
    have hov:One v2:=h3.one
    refine jG ?_
    refine Beh.mk ?_
    refine SA.one 8 rfl kQ ?_
    refine W.o ?_
    refine Beh.mk ?_
    refine SA.one 9 rfl kQ ?_
    refine W.o ?_
    refine Beh.mk ?_
    refine SA.last rfl kQ ?_
    refine W.o ?_
    refine Fin.rm b_ (Fin.rm b2 ?_)
    have he:σ.act a=({ σ with fuse:=σ.fuse-1,acts:=σ.acts++[a] }:Dv):=by simp [Dv.act,Dv.push,c0,c1,c2]
    rw [he]
    have hl2:(σ.acts++[a]).flatMap ac=σ.acts.flatMap ac++ac a:=by simp
    rw [← hl2] at h3
    exact Fin.perm cD (Fin.s1 (.inl rfl) rfl rfl ⟨by simp [Dv.actE,c1],⟨hO.n,hO.ok,by dsimp only;omega,by dsimp only;omega,by simp;omega⟩,bw,vp,v2,Hq,Ha2,h1,h3,by rw [aH];rfl⟩)
   ·refine W.o ?_
    refine Fin.rm b_ (Fin.s1 (.inl rfl) rfl rfl ⟨?_,?_⟩)
    ·simp [Dv.actE,c1]
    ·have he:σ.act a=({ σ with fuse:=σ.fuse-1 }:Dv):=by simp [Dv.act,Dv.push,c0,c1,c2]
     have hOK:=Dv.fuse_ok (σ.fuse-1) hO oQ oQ
     rw [he]
     exact⟨hOK,bw,vp,_,Hq,Ha,h1,h2,rfl⟩
 ·refine W.o fun b_=>?_
  by_cases c2:σ.acts.length<16384
  ·refine W.o ?_
   refine mO [p,b_] 10 kQ ?_
   refine SA.take 0 rfl kQ (fun _ _ _ h=>Fin.np h) rfl rfl (fB rfl rfl) ?_
   refine SA.take 1 rfl kQ (fun _ _ _ h=>Fin.np h) rfl rfl (fB rfl rfl) ?_
   refine SA.take 2 rfl kQ (fun _ _ _ h=>Fin.np h) rfl rfl (sA rfl rfl) ?_
   refine SA.take 3 rfl kQ (fun _ _ _ h=>Fin.np h) rfl rfl (gM rfl rfl rfl) ?_
   refine SA.take 4 rfl kQ (fun _ _ _ h=>Fin.np h) rfl rfl (jI rfl rfl rfl) ?_
   refine SA.take 5 rfl kQ (fun _ _ _ h=>Fin.np h) rfl rfl (mS rfl rfl rfl rfl) ?_
   refine SA.one 6 rfl kQ ?_
   refine iK (n:=3) rfl rfl rfl rfl (by rfl) dQ (by rfl) dQ (fun b2=>?_)
   refine jG ?_
   refine Beh.mk ?_
   refine SA.one 7 rfl kQ ?_
   refine SL.append (n:=3) (m:=1) (ys:=ac a) Ha rfl rfl rfl rfl rfl h2 (fun w hs=>eU.block (hs.at (b:=b2)) rfl rfl) rfl rfl dQ dQ ?_ (fun v2 Ha2 h3=>?_)
   ·rw [hla];simp [ac];omega
   have hov:One v2:=h3.one
   refine jG ?_
   refine Beh.mk ?_
   refine SA.one 8 rfl kQ ?_
   refine W.o ?_
   refine Beh.mk ?_
   refine SA.one 9 rfl kQ ?_
   refine W.o ?_
   refine Beh.mk ?_
   refine SA.last rfl kQ ?_
   refine W.o ?_
   refine Fin.rm b_ (Fin.rm b2 ?_)
   have he:σ.act a=({ σ with acts:=σ.acts++[a] }:Dv):=by simp [Dv.act,Dv.push,c0,c2]
   rw [he]
   have hl2:(σ.acts++[a]).flatMap ac=σ.acts.flatMap ac++ac a:=by simp
   rw [← hl2] at h3
   exact Fin.perm cD (Fin.s1 (.inl rfl) rfl rfl ⟨by simp [Dv.actE];omega,⟨hO.n,hO.ok,by dsimp only;omega,by dsimp only;omega,by simp;omega⟩,bw,vp,v2,Hq,Ha2,h1,h3,by rw [aH];rfl⟩)
  ·refine W.o ?_
   refine Fin.rm b_ (Fin.s1 (.inl rfl) rfl rfl ⟨?_,?_⟩)
   ·simp [Dv.actE];omega
   ·have he:σ.act a=σ:=by simp [Dv.act,Dv.push,c0,c2]
    have hOK:=hO
    rw [he]
    exact⟨hOK,bw,vp,_,Hq,Ha,h1,h2,rfl⟩
theorem aCd{g:FuncId} [bD prog g]{h:Wd→Wd}(hg:aB0 g h)(hh:∀ w,w.Ok→(h w).Ok){p:Nat}{σ:Dv}{H:Hp}(hD:fD p σ H)(x y:Nat)(hxy:x≤y)(hy:y≤σ.ws.length) :
  Tri prog 176 [.pointer (some ⟨p,0,none⟩),.int .i64 x,.int .i64 y,.func (.func g) #[] #[]] H (fun _=>True) (fun v H'=>v=.tuple #[]∧fD p { σ with ws:=jC h x y σ.ws } H'):=by
 obtain⟨hO,bw,vp,va,Hq,Ha,h1,h2,rfl⟩:=hD
 refine ((aNu hg hh p bw _ _ _ _ _ σ.ws rfl hO.n hO.ok x y hxy hy).frame (r:=Hq++Ha) (List.Perm.refl _) (fun w _ _=>trivial)).mono ?_
 rintro v H' ⟨H1,rfl,rfl,rfl⟩
 exact⟨rfl,⟨by dsimp only;rw [oU];exact hO.n,xI hh x y hO.ok,hO.f0,hO.f1,hO.a⟩,bw,vp,va,Hq,Ha,h1,h2,by dsimp only;rw [oU];rfl⟩
def Dv.doo(σ:Dv):Dv:=if σ.down=true then σ else σ.act (4,0,0)
def Dv.dooE(σ:Dv):Int:=if σ.down=true then 8 else σ.actE
theorem Dv.rdy00(σ:Dv):σ.rdy 0 0=if σ.down=true then 8 else 0:=by
 unfold Dv.rdy
 split
 ·rfl
 ·rw [if_neg];omega
theorem aO4{p:Nat}{σ:Dv}{H:Hp}(hD:fD p σ H):Tri prog 97 [.pointer (some ⟨p,0,none⟩)] H (fun _=>True) (fun v H'=>v=.int .i64 σ.dooE∧fD p σ.doo H'):=by
 have hr:=aAt hD 0 0
 have ha:=aG9 hD (4,0,0)
 rw [Dv.rdy00] at hr
 refine Tri.mk func97 rfl ntmps97 rfl fun w hw=>?_
 by_cases hd:σ.down=true
 ·rw [if_pos hd] at hr
  repeat' (first|(refine sP ?_;refine zR rfl rfl ?_)|(refine pK ?_;((refine oM _ rfl rfl rfl rfl hr (fun _ _=>trivial) ?_;rintro _ _ ⟨rfl,rfl⟩)))|(refine W.ow ?_;try intro b_)  | refine dX (pH rfl rfl rfl) rfl rfl (fun h_=>?_) (fun h_=>?_)|refine dX (pG rfl rfl rfl) rfl rfl (fun h_=>?_) (fun h_=>?_)|refine dX (pF rfl rfl rfl) rfl rfl (fun h_=>?_) (fun h_=>?_)|refine dX (pE rfl rfl rfl) rfl rfl (fun h_=>?_) (fun h_=>?_)|refine dX (nE rfl rfl rfl) rfl rfl (fun h_=>?_) (fun h_=>?_)|refine dX (pI rfl rfl rfl) rfl rfl (fun h_=>?_) (fun h_=>?_)|refine jK rfl (fun h_=>?_) (fun h_=>?_))
  rw [aH]
  exact Fin.s1 (.inl rfl) rfl rfl ⟨by simp [Dv.dooE,hd],by simpa [Dv.doo,hd] using hD⟩
 ·rw [if_neg hd] at hr
  repeat' (first|(refine sP ?_;refine zR rfl rfl ?_)|(refine pK ?_;((refine oM _ rfl rfl rfl rfl hr (fun _ _=>trivial) ?_;rintro _ _ ⟨rfl,rfl⟩)))|(refine W.ow ?_;try intro b_)  | refine dX (pH rfl rfl rfl) rfl rfl (fun h_=>?_) (fun h_=>?_)|refine dX (pG rfl rfl rfl) rfl rfl (fun h_=>?_) (fun h_=>?_)|refine dX (pF rfl rfl rfl) rfl rfl (fun h_=>?_) (fun h_=>?_)|refine dX (pE rfl rfl rfl) rfl rfl (fun h_=>?_) (fun h_=>?_)|refine dX (nE rfl rfl rfl) rfl rfl (fun h_=>?_) (fun h_=>?_)|refine dX (pI rfl rfl rfl) rfl rfl (fun h_=>?_) (fun h_=>?_)|refine jK rfl (fun h_=>?_) (fun h_=>?_))
  refine oM _ rfl rfl rfl rfl ha (fun _ _=>trivial) ?_
  rintro _ _ ⟨rfl,hD2⟩
  refine W.o ?_
  rw [aH]
  exact Fin.s1 (.inl rfl) rfl rfl ⟨by simp [Dv.dooE,hd],by simpa [Dv.doo,hd] using hD2⟩
theorem aCY(v:Value)(ys:List Value) [OC ys](hys:ys.length≤1048576):Tri prog 57 [v] [] (fun w=>Rd [] w 1 v ys) (fun v' H'=>Sl 5 1 v' ys H'):=by
 refine Tri.mk func57 rfl ntmps57 rfl fun w hw=>?_
 obtain⟨a,len,cap,rfl,hlen,hcap,hrd⟩:=hw
 cases a with
 | none=>
  have:ys=[]:=by rcases hrd with h0|⟨b,o,l,T,fz,h,_⟩;exact bJ oQ;cases h
  subst this
  refine W.o ?_
  exact Fin.s1 (.inl rfl) rfl rfl (Sl.nil _ _)
 | some a=>
  refine W.o ?_
  refine iK (n:=1) (r:=[]) rfl rfl rfl rfl (by rfl) dQ (by rfl) dQ (fun b_=>?_)
  refine W.o ?_
  refine SL.append (n:=1) (m:=len) (ys:=ys) (xs:=[]) [(b_,cl [] 5)] rfl rfl rfl rfl rfl (.inr ⟨b_,0,0,[],rfl,rfl,rfl,Nat.le_refl _,rfl⟩) (fun w2 hs=>Rd.srcAt ⟨_,_,_,rfl,hlen,hcap,hrd⟩ (hs.tail (H:=(b_,_)::[]) (List.Perm.refl _))) hlen (by rfl) dQ dQ ?_ (fun v2 Ha2 h3=>?_)
  ·dsimp only [List.length_nil];omega
  refine W.o ?_
  rw [aH]
  exact Fin.s1 (.inl rfl) rfl rfl h3
theorem aD5(v:Value)(ys:List Value) [OC ys](hys:ys.length≤1048576):Tri prog 69 [v] [] (fun w=>Rd [] w 3 v ys) (fun v' H'=>Sl 81 3 v' ys H'):=by
 refine Tri.mk func69 rfl ntmps69 rfl fun w hw=>?_
 obtain⟨a,len,cap,rfl,hlen,hcap,hrd⟩:=hw
 cases a with
 | none=>
  have:ys=[]:=by rcases hrd with h0|⟨b,o,l,T,fz,h,_⟩;exact bJ oQ;cases h
  subst this
  refine W.o ?_
  exact Fin.s1 (.inl rfl) rfl rfl (Sl.nil _ _)
 | some a=>
  refine W.o ?_
  refine iK (n:=3) (r:=[]) rfl rfl rfl rfl (by rfl) dQ (by rfl) dQ (fun b_=>?_)
  refine W.o ?_
  refine SL.append (n:=3) (m:=len) (ys:=ys) (xs:=[]) [(b_,cl [] 81)] rfl rfl rfl rfl rfl (.inr ⟨b_,0,0,[],rfl,rfl,rfl,Nat.le_refl _,rfl⟩) (fun w2 hs=>Rd.srcAt ⟨_,_,_,rfl,hlen,hcap,hrd⟩ (hs.tail (H:=(b_,_)::[]) (List.Perm.refl _))) hlen (by rfl) dQ dQ ?_ (fun v2 Ha2 h3=>?_)
  ·dsimp only [List.length_nil];omega
  refine W.o ?_
  rw [aH]
  exact Fin.s1 (.inl rfl) rfl rfl h3
def Dv.arm(σ:Dv)(n:Int)(qs:List UInt8):Dv:={ σ with fuse:=max n 0,picks:=qs }
instance(qs:List UInt8):OC (qs.map bv):=inferInstance
theorem aO0{p:Nat}{σ:Dv}{H:Hp}(hD:fD p σ H)(n:Int)(hn:n≤9223372036854775807)(v:Value)(qs:List UInt8)(hq:qs.length≤1048576):Tri prog 77 [.pointer (some ⟨p,0,none⟩),.int .i64 n,v] H (fun w=>Rd (H.map Prod.fst) w 1 v (qs.map bv))
  (fun v H'=>v=.tuple #[]∧fD p (σ.arm n qs) H'):=by
 obtain⟨hO,bw,vp,va,Hq,Ha,h1,h2,rfl⟩:=hD
 refine Tri.mk func77 rfl ntmps77 rfl fun w hw=>?_
 have hc:=aCY v (qs.map bv) (by simpa using hq)
 repeat' (first|(refine sP ?_;refine zR rfl rfl ?_)|(refine pK ?_;(refine oM [] rfl rfl rfl rfl hc (fun w2 hs=>Rd.ro (Hc:=[]) hw hs) ?_))|(refine W.ow ?_;try intro b_)  | refine dX (pH rfl rfl rfl) rfl rfl (fun h_=>?_) (fun h_=>?_)|refine dX (pG rfl rfl rfl) rfl rfl (fun h_=>?_) (fun h_=>?_)|refine dX (pF rfl rfl rfl) rfl rfl (fun h_=>?_) (fun h_=>?_)|refine dX (pE rfl rfl rfl) rfl rfl (fun h_=>?_) (fun h_=>?_)|refine dX (nE rfl rfl rfl) rfl rfl (fun h_=>?_) (fun h_=>?_)|refine dX (pI rfl rfl rfl) rfl rfl (fun h_=>?_) (fun h_=>?_)|refine jK rfl (fun h_=>?_) (fun h_=>?_))
 intro v2 Hq2 h3
 have hov:One v2:=h3.one
 (refine W.o ?_;repeat intro b_)
 refine Fin.drop Hq (Fin.perm (aIF _ _ _ _) (Fin.s0 (.inr rfl) rfl ⟨rfl,⟨hO.n,hO.ok,by simp only [Dv.arm];omega,by simp only [Dv.arm];omega,hO.a⟩,bw,v2,va,Hq2,Ha,h3,h2,rfl⟩))
def Wd.zero:Wd:=⟨List.replicate 8 0,List.replicate 8 0,false,false⟩
def Dv.new(n:Int):Dv:=⟨List.replicate (8*min (max n 0) 1024).toNat Wd.zero,false,0,[],[]⟩
theorem Dv.new_ok(n:Int):(Dv.new n).Ok:=⟨by simp [Dv.new];omega,by intro w hw;simp only [Dv.new,List.mem_replicate] at hw;rw [hw.2];exact⟨⟨rfl,rfl⟩,by simp [Wd.zero]⟩,Int.le_refl _,by simp [Dv.new],by simp [Dv.new]⟩
theorem aNN(n:Int):Tri prog 13 [.int .i64 n] [] (fun _=>True) (fun v H'=>∃ p,v=.pointer (some ⟨p,0,none⟩)∧fD p (Dv.new n) H'):=by
 refine Tri.mk func13 rfl ntmps13 rfl fun w hw=>?_
 refine W.o ?_
 refine SL.make (n:=18) (l:=(8*min (max n 0) 1024).toNat) (c:=(8*min (max n 0) 1024).toNat) rfl rfl rfl rfl rfl oQ oQ (by rfl) dQ (Nat.le_refl _) oQ dQ (fun bw=>?_)
 refine W.o fun b_=>?_
 refine Fin.perm (List.Perm.refl _) (Fin.s1 (.inl rfl) rfl rfl ⟨b_,rfl,Dv.new_ok n,bw,_,_,[],[],Sl.nil _ _,Sl.nil _ _,?_⟩)
 have hz:(Dv.new n).ws.length=(8*min (max n 0) 1024).toNat:=by simp [Dv.new]
 have hw:(Dv.new n).ws.flatMap wc=zs (wc Wd.zero) (8*min (max n 0) 1024).toNat:=by simp only [Dv.new,zs,gP,eL]
 rw [hz,hw]
 rfl
theorem aJl{p:Nat}{σ:Dv}{H:Hp}(hD:fD p σ H):Tri prog 25 [.pointer (some ⟨p,0,none⟩)] H (fun _=>True) (fun v H'=>∃ Hs,H'=Hs++H∧Sl 81 3 v (σ.acts.flatMap ac) Hs):=by
 obtain⟨hO,bw,vp,va,Hq,Ha,h1,h2,rfl⟩:=hD
 have hc:=aD5 va (σ.acts.flatMap ac) (by rw [mE ac 3 _ (fun x _=>rfl)];have:=hO.a;omega)
 have hoa:One va:=h2.one
 refine Tri.mk func25 rfl ntmps25 rfl fun w hw=>?_
 repeat' (first|(refine sP ?_;refine zR rfl rfl ?_)|(refine pK ?_;(refine oM [] rfl rfl rfl rfl hc (fun w2 hs=>Rd.own (Hc:=[]) h2 hs inferInstance) ?_))|(refine W.ow ?_;try intro b_)  | refine dX (pH rfl rfl rfl) rfl rfl (fun h_=>?_) (fun h_=>?_)|refine dX (pG rfl rfl rfl) rfl rfl (fun h_=>?_) (fun h_=>?_)|refine dX (pF rfl rfl rfl) rfl rfl (fun h_=>?_) (fun h_=>?_)|refine dX (pE rfl rfl rfl) rfl rfl (fun h_=>?_) (fun h_=>?_)|refine dX (nE rfl rfl rfl) rfl rfl (fun h_=>?_) (fun h_=>?_)|refine dX (pI rfl rfl rfl) rfl rfl (fun h_=>?_) (fun h_=>?_)|refine jK rfl (fun h_=>?_) (fun h_=>?_))
 intro v2 Hs h3
 refine W.o ?_
 exact Fin.s1 (.inl rfl) rfl rfl ⟨Hs,rfl,h3⟩
structure Rg where
 c:Int
 root:List UInt8
def rgc(r:Rg):List Value:=.int .u64 r.c::r.root.map bv
instance(r:Rg):OC (rgc r):=by unfold rgc;infer_instance
structure Rg.Ok(r:Rg):Prop where
 len:r.root.length=32
 c0:0≤r.c
 c1:r.c≤18446744073709551615
theorem nQ{r:Rg}(h:r.Ok):(rgc r).length=33:=by simp [rgc,h.len]
def fnc(f p:Nat):Value:=.func (.func f) #[.pointer (some ⟨p,0,none⟩)] #[]
def trc(p:Nat)(r:Rg):List Value:=rgc r++[fnc 96 p,fnc 97 p]
theorem aBh(p:Nat){r:Rg}(h:r.Ok):((trc p r).drop (0+0)).take 33=rgc r∧(rgc r).length=33∧(trc p r)[0+33]?=some (fnc 96 p)∧(trc p r)[0+34]?=some (fnc 97 p)∧(trc p r)[0+0+0]?=some (.int .u64 r.c)∧(trc p r).length=35:=by
 have hl:=nQ h
 refine⟨?_,hl,?_,?_,rfl,by simp [trc,hl]⟩
 ·rw [trc,bR,cW hl]
 ·rw [trc,aY oQ,hl];rfl
 ·rw [trc,aY oQ,hl];rfl
theorem aMn(p:Nat){r r':Rg}(h:r.Ok)(h':r'.Ok):(trc p r).take (0+0)++rgc r'++(trc p r).drop (0+0+33)=trc p r':=by
 rw [trc,cT,List.nil_append,eW (by rw [nQ h])];rfl
theorem zD(tp p:Nat)(r:Rg)(h:r.Ok):Tri prog 71 [.pointer (some ⟨tp,0,none⟩)] [(tp,cl (trc p r) 201)] (fun _=>True) (fun v H=>v=.agg (rgc r).toArray∧H=[(tp,cl (trc p r) 201)]):=by
 obtain⟨f1,f2,f3,f4,f5,f6⟩:=aBh p h
 refine Tri.mk func71 rfl ntmps71 rfl fun w hw=>?_
 refine W.o fun b_=>?_
 exact Fin.c1e (.inl rfl) (rgc r) rfl rfl (by simp [rgc,h.len]) (by rw [f2]) ⟨rfl,rfl⟩
theorem aJU(tp p:Nat)(r:Rg)(h:r.Ok):Tri prog 111 [.pointer (some ⟨tp,0,none⟩)] [(tp,cl (trc p r) 201)] (fun _=>True) (fun v H=>v=.bool (decide (r.c=18446744073709551615))∧H=[(tp,cl (trc p r) 201)]):=by
 obtain⟨f1,f2,f3,f4,f5,f6⟩:=aBh p h
 refine Tri.mk func111 rfl ntmps111 rfl fun w hw=>?_
 by_cases hc:r.c=18446744073709551615
 ·refine W.o ?_
  exact Fin.s1 (.inl rfl) rfl rfl ⟨by simp [hc],rfl⟩
 ·refine W.o ?_
  exact Fin.s1 (.inl rfl) rfl rfl ⟨by simp [hc],rfl⟩
theorem aPJ(p:Nat)(r:Rg)(h:r.Ok):Tri prog 42 [.pointer (some ⟨p,0,none⟩),.agg (rgc r).toArray] [] (fun _=>True) (fun v H=>∃ tp,v=.pointer (some ⟨tp,0,none⟩)∧H=[(tp,cl (trc p r) 201)]):=by
 have hl:=nQ h
 have hr:((rgc r).drop 0).take 33=rgc r:=by rw [bR,aK oQ]
 refine Tri.mk func42 rfl ntmps42 rfl fun w hw=>?_
 refine W.o fun b_=>?_
 refine bP (pU (r:=trc p r) rfl rfl ?_) rfl rfl ?_
 ·refine uO (rgc r++[.nilFunc,.nilFunc]) rfl hl dQ (by rfl) ?_
  refine uO (rgc r++[fnc 96 p,.nilFunc]) rfl rfl (by simp [hl]) (by simp [hl,vl,fnc,iG,gD]) ?_
  refine uO (trc p r) rfl rfl (by simp [hl]) (by simp [hl,vl,fnc,trc,iG,gD,aK,cP]) rfl
 refine W.o fun b_=>?_
 rename_i b1
 exact Fin.rm b1 (Fin.s1 (.inl rfl) rfl rfl ⟨b_,rfl,rfl⟩)
end
def Wd.put(j:Nat)(c:UInt8)(w:Wd):Wd:={ w with now:=w.now.set j c }
def Wd.tam(j:Nat)(c:UInt8)(w:Wd):Wd:={ w with now:=w.now.set j c,lasts:=w.lasts.set j c }
theorem Wd.put_ok(j:Nat)(c:UInt8){w:Wd}(h:w.Ok):(w.put j c).Ok:=⟨⟨h.1.1,by simp [Wd.put,h.1.2]⟩,h.2⟩
theorem Wd.tam_ok(j:Nat)(c:UInt8){w:Wd}(h:w.Ok):(w.tam j c).Ok:=⟨⟨by simp [Wd.tam,h.1.1],by simp [Wd.tam,h.1.2]⟩,h.2⟩
def nW(f:Nat→UInt8→Wd→Wd)(ws:List Wd)(i:Nat)(c:UInt8):List Wd:=ws.modify (i/8) (f (i%8) c)
def fZ(f:Nat→UInt8→Wd→Wd):List Wd→Nat→List UInt8→List Wd
 | ws,_,[]=>ws
 | ws,i,c::t=>fZ f (nW f ws i c) (i+1) t
theorem rI(f:Nat→UInt8→Wd→Wd):∀ (l:List UInt8) (ws:List Wd) (i:Nat) (c:UInt8),fZ f ws i (l++[c])=nW f (fZ f ws i l) (i+l.length) c
 | [],ws,i,c=>rfl
 | x::l,ws,i,c=>by
  show fZ f (nW f ws i x) (i+1) (l++[c])=_
  rw [rI f l]
  show nW f (fZ f (nW f ws i x) (i+1) l) (i+1+l.length) c=nW f (fZ f (nW f ws i x) (i+1) l) (i+(l.length+1)) c
  congr 1;omega
theorem aCt(f:Nat→UInt8→Wd→Wd)(ws:List Wd)(i:Nat)(c:UInt8):(nW f ws i c).length=ws.length:=by simp [nW]
theorem jN(f:Nat→UInt8→Wd→Wd):∀ (l:List UInt8) (ws:List Wd) (i:Nat),(fZ f ws i l).length=ws.length
 | [],ws,i=>rfl
 | x::l,ws,i=>by show (fZ f (nW f ws i x) (i+1) l).length=_;rw [jN f l,aCt]
theorem xK{f:Wd→Wd}(hf:∀ w,w.Ok→(f w).Ok){ws:List Wd}(m:Nat)(h:∀ w∈ws,w.Ok):∀ w∈ws.modify m f,w.Ok:=by
 intro w hw
 obtain⟨k,hk⟩:=cC.1 hw
 rw [mN] at hk
 cases hu:ws[k]? with
 | none=>rw [hu] at hk;simp at hk
 | some u=>
  rw [hu] at hk
  have hm:=h u (aT hu)
  simp only [sN,Option.map_some,cV] at hk
  rw [← hk]
  split
  ·exact hf u hm
  ·exact hm
theorem sU{f:Nat→UInt8→Wd→Wd}(hf:∀ j c w,w.Ok→(f j c w).Ok):∀ (l:List UInt8) (ws:List Wd) (i:Nat),(∀ w∈ws,w.Ok)→∀ w∈fZ f ws i l,w.Ok
 | [],ws,i,h=>h
 | x::l,ws,i,h=>sU hf l _ _ (xK (hf _ _) _ h)
theorem aOE{ws:List Wd}(hok:∀ w∈ws,w.Ok){m j:Nat}{u:Wd}(hu:ws[m]?=some u)(hj:j<18):(ws.flatMap wc)[m*18+j]?=(wc u)[j]?:=by
 have hm:m<ws.length:=(aE.1 hu).1
 have hA:((ws.take m).flatMap wc).length=m*18:=by
  rw [mE wc 18 _ (fun w hw=>kH (hok w (dU hw)).1),aG];congr 1;omega
 rw [qE wc ws m u hu]
 exact aD8 _ _ _ j _ oQ (by rw [kH (hok u (aT hu)).1];exact hj)
theorem aG0{ws:List Wd}(hok:∀ w∈ws,w.Ok){m j:Nat}{u u':Wd}{v:Value}(hu:ws[m]?=some u)(hj:j<18)(h:(wc u).set j v=wc u'):(ws.flatMap wc).set (m*18+j) v=(ws.set m u').flatMap wc:=by
 have hm:m<ws.length:=(aE.1 hu).1
 have hA:((ws.take m).flatMap wc).length=m*18:=by
  rw [mE wc 18 _ (fun w hw=>kH (hok w (dU hw)).1),aG];congr 1;omega
 rw [qE wc ws m u hu,aEz _ _ _ j _ v oQ (by rw [kH (hok u (aT hu)).1];exact hj),h,aGu wc ws m u' hm]
theorem aGZ{ws:List Wd}(hok:∀ w∈ws,w.Ok):(ws.flatMap wc).length=ws.length*18:=mE wc 18 _ (fun w hw=>kH (hok w hw).1)
theorem aMp{u:Wd}(h:u.Len){j:Nat}(hj:j<8):(wc u)[8+j]?=u.now[j]?.map bv∧(wc u)[j]?=u.lasts[j]?.map bv:=by
 unfold wc
 have h1:(u.lasts.map bv).length=8:=by simpa using h.1
 have h2:(u.now.map bv).length=8:=by simpa using h.2
 constructor
 ·rw [aY oQ,h1,aL oQ,aJ]
  congr 2;omega
 ·rw [aL oQ,aJ]
theorem aEH{u:Wd}(h:u.Len){j:Nat}(hj:j<8)(c:UInt8):(wc u).set (8+j) (bv c)=wc (u.put j c)∧(wc u).set j (bv c)=wc { u with lasts:=u.lasts.set j c }:=by
 unfold wc Wd.put
 have h1:(u.lasts.map bv).length=8:=by simpa using h.1
 have h2:(u.now.map bv).length=8:=by simpa using h.2
 constructor
 ·rw [bY _ _ oQ,h1,gL _ _ oQ,gE]
  congr 3;omega
 ·rw [gL _ _ oQ,gE]
theorem pP{ws:List Wd}{m:Nat}{u:Wd}(f:Wd→Wd)(hu:ws[m]?=some u):ws.modify m f=ws.set m (f u):=by
 apply cB
 intro k
 rw [mN,dT]
 by_cases hk:m=k
 ·subst hk
  obtain⟨hm,rfl⟩:=aE.1 hu
  simp [hm]
 ·simp [hk]
def lZ(ws:List Wd):List UInt8:=ws.flatMap Wd.now
def lE(ws:List Wd):List UInt8:=ws.flatMap Wd.lasts
theorem fmU{α:Type}(f:Wd→List α){ws:List Wd}(hf:∀ w∈ws,(f w).length=8){m j:Nat}{u:Wd}(hu:ws[m]?=some u)(hj:j<8):(ws.flatMap f)[m*8+j]?=(f u)[j]?:=by
 induction ws generalizing m with
 | nil=>simp at hu
 | cons w t ih=>
  have hw:=hf w (by simp)
  rw [dF]
  cases m with
  | zero=>simp at hu;subst hu;rw [aL oQ];congr 1;omega
  | succ m=>
   rw [aY oQ,hw]
   have:=ih (fun x hx=>hf x (by simp [hx])) (m:=m) (by simpa using hu)
   rw [← this];congr 1;omega
theorem aAd{α:Type}(f:Wd→List α):∀ {ws:List Wd},(∀ w∈ws,(f w).length=8)→(ws.flatMap f).length=8*ws.length
 | [],_=>rfl
 | w::t,h=>by rw [dF,aB,h w (by simp),aAd f (fun x hx=>h x (by simp [hx])),aX];omega
theorem aJ2{ws:List Wd}(hok:∀ w∈ws,w.Ok){i:Nat}{u:Wd}(hu:ws[i/8]?=some u):(lZ ws)[i]?=u.now[i%8]?:=by
 have:=fmU Wd.now (fun w hw=>(hok w hw).1.2) hu (Nat.mod_lt i (by decide:0<8))
 rw [← this];unfold lZ;congr 1;omega
theorem rX{ws:List Wd}(hok:∀ w∈ws,w.Ok):(lZ ws).length=8*ws.length:=aAd _ fun w hw=>(hok w hw).1.2
theorem aAX{ws:List Wd}(hok:∀ w∈ws,w.Ok):(lE ws).length=8*ws.length:=aAd _ fun w hw=>(hok w hw).1.1
def Dv.setWs(σ:Dv)(ws:List Wd):Dv:={ σ with ws:=ws }
def qX(ws:List Wd)(i:Nat)(bs:List UInt8):List Wd:=if bs.length=0 then ws else jC Wd.stored (i/8) ((i+bs.length-1)/8+1) (fZ Wd.put ws i bs)
def Dv.store(σ:Dv)(i:Int)(bs:List UInt8):Dv:=if σ.rdy i bs.length=0 then (if σ.actE=0 then (σ.act (1,i,bs.length)).setWs (qX (σ.act (1,i,bs.length)).ws i.toNat bs) else σ.act (1,i,bs.length)) else σ
def Dv.actR(σ:Dv)(i n:Int):Int:=if σ.rdy i n=0 then σ.actE else σ.rdy i n
def lC(ws:List Wd)(i n:Nat):List Wd:=if n=0 then ws else jC Wd.flushed (i/64*8) (((i+n-1)/64+1)*8) ws
def Dv.flush(σ:Dv)(i n:Int):Dv:=if σ.rdy i n=0 then (if σ.actE=0 then (σ.act (2,i,n)).setWs (lC (σ.act (2,i,n)).ws i.toNat n.toNat) else σ.act (2,i,n)) else σ
def Dv.fence(σ:Dv):Dv:=if σ.rdy 0 0=0 then (if σ.actE=0 then (σ.act (3,0,0)).setWs ((σ.act (3,0,0)).ws.map Wd.fenced) else σ.act (3,0,0)) else σ
def Dv.tamB(σ:Dv)(i:Int)(n:Nat):Bool:=decide (0≤i∧n≤σ.len∧i≤(σ.len:Int)-n)
def Dv.tam(σ:Dv)(i:Int)(bs:List UInt8):Dv:=if σ.tamB i bs.length=true then σ.setWs (fZ Wd.tam σ.ws i.toNat bs) else σ
theorem Dv.setWs_ok{σ:Dv}{ws:List Wd}(h:σ.Ok)(hn:ws.length=σ.ws.length)(hok:∀ w∈ws,w.Ok):(σ.setWs ws).Ok:=⟨by show ws.length≤_;rw [hn];exact h.n,hok,h.f0,h.f1,h.a⟩
theorem aGW(ws:List Wd)(i:Nat)(bs:List UInt8):(qX ws i bs).length=ws.length:=by
 unfold qX
 split
 ·rfl
 ·rw [oU,jN]
theorem aFA(h:Wd→Wd)(ws:List Wd):jC h 0 ws.length ws=ws.map h:=by
 apply cB
 intro i
 simp only [jC,dC,aJ]
 cases hw:ws[i]? with
 | none=>rfl
 | some w=>
  have:=(aE.1 hw).1
  simp only [Option.map_some];rw [if_pos oQ]
theorem aFg(q:List UInt8)(σ:Dv):(σ.crash q).ws.length=σ.ws.length:=by unfold Dv.crash;cases σ.down <;> simp [uP]
theorem qT(σ:Dv)(a:Int×Int×Int):(σ.act a).ws.length=σ.ws.length:=by
 unfold Dv.act Dv.push
 split
 ·split
  ·rw [aFg]
  ·split <;> rfl
 ·split <;> rfl
theorem sB{σ:Dv}{x n:Int}(h:σ.rdy x n=0):σ.down=false∧0≤x∧0≤n∧n≤σ.len∧x≤σ.len-n:=by
 unfold Dv.rdy at h
 split at h
 ·cases h
 ·rename_i hd
  split at h
  ·cases h
  ·exact⟨by simpa using hd,by omega,by omega,by omega,by omega⟩
section
attribute [local irreducible] SW SL SQ SH SA SS Pu Fin bT aQ
theorem aMl{p:Nat}{σ:Dv}{H:Hp}(hD:fD p σ H)(x:Int)(v:Value)(bs:List UInt8)(hbs:bs.length≤1048576):Tri prog 174 [.pointer (some ⟨p,0,none⟩),.int .i64 x,v] H (fun w=>Rd (H.map Prod.fst) w 1 v (bs.map bv))
  (fun v' H'=>v'=.int .i64 (σ.actR x bs.length)∧fD p (σ.store x bs) H'):=by
 have hr:=aAt hD x bs.length
 have ha:=aG9 hD (1,x,bs.length)
 refine Tri.mk func174 rfl ntmps174 rfl fun w hw=>?_
 obtain⟨aa,len,cap,rfl,hlen,hcap,hrd⟩:=hw.get
 rw [aD,Nat.mul_one] at hlen
 subst hlen
 refine W.k ?_
 refine W.cq hr ?_
 by_cases h0:σ.rdy x bs.length=0
 ·obtain⟨hdn,hx0,-,hn,hxn⟩:=sB h0
  rw [h0]
  refine W.k ?_
  refine aF ha ?_
  rintro _ H1 ⟨rfl,hD1⟩
  by_cases h1:σ.actE=0
  ·rw [h1]
   refine W.j ?_
   have hwl:(σ.act (1,x,bs.length)).ws.length=σ.ws.length:=qT _ _
   have hres:σ.store x bs=(σ.act (1,x,bs.length)).setWs (qX (σ.act (1,x,bs.length)).ws x.toNat bs):=by unfold Dv.store;rw [if_pos h0,if_pos h1]
   have hresE:σ.actR x bs.length=0:=by unfold Dv.actR;rw [if_pos h0,h1]
   rw [hres,hresE]
   have hlen:σ.len=8*σ.ws.length:=rfl
   generalize σ.act (1,x,bs.length)=τ at hD1 hwl ⊢
   obtain⟨i,rfl⟩:∃ i:Nat,x=i:=⟨x.toNat,by omega⟩
   rw [aP]
   have hN:=hD1.1.n
   obtain⟨hO,bw,vp,va,Hq,Ha,h2,h3,rfl⟩:=hD1
   refine SW.cut [0,1,2] [bw] (fun _:Unit=>[]) (fun _=>[(bw,cl ((fZ Wd.put τ.ws i bs).flatMap wc) 147)]) (fun _=>True) ?_ ?_
   ·refine W.k ?_
    refine cK [0,1,2,28,29] [bw] (fun k:Nat=>[(30,.int .i64 k)]) (fun k=>[(bw,cl ((fZ Wd.put τ.ws i (bs.take k)).flatMap wc) 147)]) (fun k=>bs.length-k) (fun k=>k≤bs.length) 0 (Nat.zero_le _) ?_
    intro k hk
    have hok:=sU (fun j c w=>Wd.put_ok j c) (bs.take k) τ.ws i hO.ok
    have hml:=jN Wd.put (bs.take k) τ.ws i
    by_cases hkl:k<bs.length
    ·obtain⟨b,o,l,T,fz,rfl,hb,hbk,hys⟩:=hrd oQ
     obtain⟨c,hc⟩:∃ c,bs[k]?=some c:=⟨_,aA hkl⟩
     have hlc:l[o+k]?=some (bv c):=aAG hys (by simp [hc])
     have hm:(i+k)/8<(fZ Wd.put τ.ws i (bs.take k)).length:=oQ
     obtain⟨u,hu⟩:∃ u,(fZ Wd.put τ.ws i (bs.take k))[(i+k)/8]?=some u:=⟨_,aA hm⟩
     have hj:(i+k)%8<8:=Nat.mod_lt _ dQ
     have hset:=aG0 hok (v:=bv c) hu (j:=8+(i+k)%8) oQ (aEH (hok u (aT hu)).1 hj c).1
     have hlt:(i+k)/8*18+8+(i+k)%8<((fZ Wd.put τ.ws i (bs.take k)).flatMap wc).length:=by rw [aGZ hok];omega
     refine W.k ?_
     rw [mA,hset,← pP (Wd.put ((i+k)%8) c) hu]
     have hsn:(fZ Wd.put τ.ws i (bs.take k)).modify ((i+k)/8) (Wd.put ((i+k)%8) c)=fZ Wd.put τ.ws i (bs.take (k+1)):=by
      rw [aZ,hc,dJ,rI,aG,cR hk];rfl
     rw [hsn]
     refine aQ.mk (k+1) ?_
     omega
    ·have:k=bs.length:=oQ
     subst this
     rw [bN]
     refine W.k ?_
     refine bT.mk () ?_
     trivial
   ·intro _ _
    have hD2:fD p (τ.setWs (fZ Wd.put τ.ws i bs)) ((p,cl [.slice (some ⟨bw,0,none⟩) τ.ws.length τ.ws.length,.bool τ.down,.int .i64 τ.fuse,vp,va] 134)::(bw,cl ((fZ Wd.put τ.ws i bs).flatMap wc) 147)::(Hq++Ha)):=
     ⟨Dv.setWs_ok hO (jN _ _ _ _) (sU (fun j c w=>Wd.put_ok j c) bs τ.ws i hO.ok),bw,vp,va,Hq,Ha,h2,h3,by simp [Dv.setWs,jN]⟩
    by_cases hz:bs.length=0
    ·refine W.k ?_
     refine Fin.perm (List.Perm.swap _ _ _) (F.f1 ?_)
     have:bs=[]:=bJ hz
     subst this
     exact⟨rfl,by simpa [qX,fZ] using hD2⟩
    ·have he:=aCd aKQ (fun w=>Wd.stored_ok) hD2 (i/8) ((i+bs.length-1)/8+1) oQ (by show _≤(fZ Wd.put τ.ws i bs).length;rw [jN];omega)
     refine W.k ?_
     refine eJ he ?_ ?_
     ·simp;omega
     rintro _ H3 ⟨rfl,hD3⟩
     refine W.k ?_
     refine F.f1 ?_
     refine⟨rfl,?_⟩
     have:qX τ.ws i bs=jC Wd.stored (i/8) ((i+bs.length-1)/8+1) (fZ Wd.put τ.ws i bs):=by unfold qX;rw [if_neg hz]
     rw [this];simp only [aH];exact hD3
  ·refine W.k ?_
   refine F.f1 ?_
   rw [aH]
   have hres:σ.store x bs=σ.act (1,x,bs.length):=by unfold Dv.store;rw [if_pos h0,if_neg h1]
   have hresE:σ.actR x bs.length=σ.actE:=by unfold Dv.actR;rw [if_pos h0]
   rw [hres,hresE];exact⟨rfl,hD1⟩
 ·refine W.k ?_
  refine F.f1 ?_
  rw [aH]
  have hres:σ.store x bs=σ:=by unfold Dv.store;rw [if_neg h0]
  have hresE:σ.actR x bs.length=σ.rdy x bs.length:=by unfold Dv.actR;rw [if_neg h0]
  rw [hres,hresE];exact⟨rfl,hD⟩
theorem aLC{p:Nat}{σ:Dv}{H:Hp}(hD:fD p σ H)(h8:σ.ws.length%8=0)(x n:Int):Tri prog 175 [.pointer (some ⟨p,0,none⟩),.int .i64 x,.int .i64 n] H (fun _=>True)
  (fun v' H'=>v'=.int .i64 (σ.actR x n)∧fD p (σ.flush x n) H'):=by
 have hr:=aAt hD x n
 have ha:=aG9 hD (2,x,n)
 refine Tri.mk func175 rfl ntmps175 rfl fun w hw=>?_
 refine W.k ?_
 refine W.cq hr ?_
 by_cases h0:σ.rdy x n=0
 ·obtain⟨hdn,hx0,hn0,hn,hxn⟩:=sB h0
  rw [h0]
  refine W.k ?_
  refine aF ha ?_
  rintro _ H1 ⟨rfl,hD1⟩
  have hwl:(σ.act (2,x,n)).ws.length=σ.ws.length:=qT _ _
  by_cases h1:σ.actE=0
  ·rw [h1]
   have hres:σ.flush x n=(σ.act (2,x,n)).setWs (lC (σ.act (2,x,n)).ws x.toNat n.toNat):=by unfold Dv.flush;rw [if_pos h0,if_pos h1]
   have hresE:σ.actR x n=0:=by unfold Dv.actR;rw [if_pos h0,h1]
   rw [hres,hresE]
   have hlen:σ.len=8*σ.ws.length:=rfl
   have hN:=hD1.1.n
   generalize σ.act (2,x,n)=τ at hD1 hwl hN ⊢
   obtain⟨i,rfl⟩:∃ i:Nat,x=i:=⟨x.toNat,by omega⟩
   obtain⟨m,rfl⟩:∃ m:Nat,n=m:=⟨n.toNat,by omega⟩
   rw [aP,aP]
   by_cases hz:m=0
   ·refine W.k ?_
    refine F.f1 ?_
    subst hz
    refine⟨rfl,?_⟩
    simp only [aH]
    exact hD1
   ·have he:=aCd aIn (fun w=>Wd.flushed_ok) hD1 (i/64*8) (((i+m-1)/64+1)*8) oQ oQ
    refine W.k ?_
    refine eJ he ?_ ?_
    ·simp;omega
    rintro _ H3 ⟨rfl,hD3⟩
    refine W.k ?_
    refine F.f1 ?_
    refine⟨rfl,?_⟩
    unfold lC
    rw [if_neg hz]
    simp only [aH];exact hD3
  ·refine W.k ?_
   refine F.f1 ?_
   have hres:σ.flush x n=σ.act (2,x,n):=by unfold Dv.flush;rw [if_pos h0,if_neg h1]
   have hresE:σ.actR x n=σ.actE:=by unfold Dv.actR;rw [if_pos h0]
   rw [hres,hresE];refine⟨rfl,?_⟩;simp only [aH];exact hD1
 ·refine W.k ?_
  refine F.f1 ?_
  have hres:σ.flush x n=σ:=by unfold Dv.flush;rw [if_neg h0]
  have hresE:σ.actR x n=σ.rdy x n:=by unfold Dv.actR;rw [if_neg h0]
  rw [hres,hresE];refine⟨rfl,?_⟩;simp only [aH];exact hD
theorem aBE{p:Nat}{σ:Dv}{H:Hp}(hD:fD p σ H):Tri prog 122 [.pointer (some ⟨p,0,none⟩)] H (fun _=>True)
  (fun v' H'=>v'=.int .i64 (σ.actR 0 0)∧fD p σ.fence H'):=by
 have hr:=aAt hD 0 0
 have ha:=aG9 hD (3,0,0)
 refine Tri.mk func122 rfl ntmps122 rfl fun w hw=>?_
 refine W.k ?_
 refine W.cq hr ?_
 by_cases h0:σ.rdy 0 0=0
 ·rw [h0]
  refine W.k ?_
  refine aF ha ?_
  rintro _ H1 ⟨rfl,hD1⟩
  by_cases h1:σ.actE=0
  ·rw [h1]
   have hres:σ.fence=(σ.act (3,0,0)).setWs ((σ.act (3,0,0)).ws.map Wd.fenced):=by unfold Dv.fence;rw [if_pos h0,if_pos h1]
   have hresE:σ.actR 0 0=0:=by unfold Dv.actR;rw [if_pos h0,h1]
   rw [hres,hresE]
   generalize σ.act (3,0,0)=τ at hD1 ⊢
   have he:=aCd aJK (fun w=>Wd.fenced_ok) hD1 0 τ.ws.length (Nat.zero_le _) (Nat.le_refl _)
   have hat:∃ bw x1 x2 x3 x4,At H1 p (cl [.slice (some ⟨bw,0,none⟩) τ.ws.length τ.ws.length,x1,x2,x3,x4] 134):=by
    obtain⟨hO,bw,vp,va,Hq,Ha,h2,h3,rfl⟩:=hD1
    exact⟨bw,_,_,_,_,inferInstance⟩
   obtain⟨bw,x1,x2,x3,x4,hat⟩:=hat
   refine W.k ?_
   refine aF he ?_
   rintro _ H3 ⟨rfl,hD3⟩
   refine W.k ?_
   refine F.f1 ?_
   refine⟨rfl,?_⟩
   rw [aFA] at hD3
   simp only [aH];exact hD3
  ·refine W.k ?_
   refine F.f1 ?_
   have hres:σ.fence=σ.act (3,0,0):=by unfold Dv.fence;rw [if_pos h0,if_neg h1]
   have hresE:σ.actR 0 0=σ.actE:=by unfold Dv.actR;rw [if_pos h0]
   rw [hres,hresE];refine⟨rfl,?_⟩;simp only [aH];exact hD1
 ·refine W.k ?_
  refine F.f1 ?_
  have hres:σ.fence=σ:=by unfold Dv.fence;rw [if_neg h0]
  have hresE:σ.actR 0 0=σ.rdy 0 0:=by unfold Dv.actR;rw [if_neg h0]
  rw [hres,hresE];refine⟨rfl,?_⟩;simp only [aH];exact hD
theorem aAT(A:List Value)(m:Nat)(z v:Value):(A++List.replicate (m+1) z).set A.length v=A++[v]++List.replicate m z:=by
 rw [bY _ _ (Nat.le_refl _),dW,fM,fF];simp
def Dv.loadB(σ:Dv)(i n:Int):List UInt8:=if σ.rdy i n=0 then ((lZ σ.ws).drop i.toNat).take n.toNat else []
theorem aGE{p:Nat}{σ:Dv}{H:Hp}(hD:fD p σ H)(x n:Int):Tri prog 33 [.pointer (some ⟨p,0,none⟩),.int .i64 x,.int .i64 n] H (fun _=>True)
  (fun v' H'=>∃ sv Hs,v'=.tuple #[sv,.int .i64 (σ.rdy x n)]∧Sl 5 1 sv ((σ.loadB x n).map bv) Hs∧H'=Hs++H):=by
 have hr:=aAt hD x n
 refine Tri.mk func33 rfl ntmps33 rfl fun w hw=>?_
 refine W.k ?_
 refine W.cq hr ?_
 by_cases h0:σ.rdy x n=0
 ·obtain⟨hdn,hx0,hn0,hn,hxn⟩:=sB h0
  have hb:σ.loadB x n=((lZ σ.ws).drop x.toNat).take n.toNat:=by unfold Dv.loadB;rw [if_pos h0]
  rw [h0,hb]
  have hlen:σ.len=8*σ.ws.length:=rfl
  obtain⟨i,rfl⟩:∃ i:Nat,x=i:=⟨x.toNat,by omega⟩
  obtain⟨m,rfl⟩:∃ m:Nat,n=m:=⟨n.toNat,by omega⟩
  rw [aP,aP]
  have hN:=hD.1.n
  obtain⟨hO,bw,vp,va,Hq,Ha,h2,h3,rfl⟩:=hD
  have hnl:=rX hO.ok
  refine W.k fun b_=>?_
  refine cK [0,1,9,21] [b_] (fun k:Nat=>[(22,.int .i64 k)]) (fun k=>[(b_,cl ((((lZ σ.ws).drop i).take k).map bv++List.replicate (m-k) (.int .u8 0)) 5)]) (fun k=>m-k) (fun k=>k≤m) 0 (Nat.zero_le _) ?_ (by simp [lH])
  intro k hk
  by_cases hkl:k<m
  ·obtain⟨u,hu⟩:∃ u,σ.ws[(i+k)/8]?=some u:=⟨_,aA oQ⟩
   have hj:(i+k)%8<8:=Nat.mod_lt _ dQ
   have hul:=(hO.ok u (aT hu)).1
   obtain⟨c,hc⟩:∃ c,u.now[(i+k)%8]?=some c:=⟨_,aA (by rw [hul.2];exact hj)⟩
   have hg:(σ.ws.flatMap wc)[(i+k)/8*18+8+(i+k)%8]?=some (bv c):=by
    rw [mA,aOE hO.ok hu oQ,(aMp hul hj).1,hc];rfl
   have hnb:(lZ σ.ws)[i+k]?=some c:=by rw [aJ2 hO.ok hu,hc]
   have hAl:((((lZ σ.ws).drop i).take k).map bv).length=k:=by simp;omega
   have hst:k<(((((lZ σ.ws).drop i).take k).map bv)++List.replicate (m-k) (Value.int .u8 0)).length:=by rw [aB,hAl];simp;omega
   refine W.k ?_
   have hf:=aAT ((((lZ σ.ws).drop i).take k).map bv) (m-(k+1)) (.int .u8 0) (bv c)
   rw [hAl,show m-(k+1)+1=m-k by omega] at hf
   have hf2:(((lZ σ.ws).drop i).take k).map bv++[bv c]=(((lZ σ.ws).drop i).take (k+1)).map bv:=by
    rw [aZ,bI,hnb];simp
   rw [hf,hf2]
   refine aQ.mk (k+1) ?_
   omega
  ·have:k=m:=oQ
   subst this
   refine W.k ?_
   refine F.f2 ?_
   refine⟨_,[(b_,cl ((((lZ σ.ws).drop i).take k).map bv) 5)],rfl,  .inr ⟨b_,k,k,[],rfl,by simp;omega,by simp,Nat.le_refl _,by simp⟩,?_⟩
   simp
 ·have hb:σ.loadB x n=[]:=by unfold Dv.loadB;rw [if_neg h0]
  refine W.k ?_
  refine F.f2 ?_
  refine⟨_,[],rfl,?_,by simp⟩
  rw [hb];exact Sl.nil _ _
end
theorem aCR(σ:Dv)(x:Int)(bs:List UInt8):(σ.store x bs).ws.length=σ.ws.length:=by
 unfold Dv.store
 split
 ·split
  ·show (qX _ _ _).length=_
   rw [aGW,qT]
  ·exact qT _ _
 ·rfl
theorem aFp(σ:Dv)(x n:Int):(σ.flush x n).ws.length=σ.ws.length:=by
 unfold Dv.flush
 split
 ·split
  ·show (lC _ _ _).length=_
   unfold lC
   split
   ·exact qT _ _
   ·rw [oU,qT]
  ·exact qT _ _
 ·rfl
theorem wF(σ:Dv):σ.fence.ws.length=σ.ws.length:=by
 unfold Dv.fence
 split
 ·split
  ·show (List.map _ _).length=_
   rw [aD,qT]
  ·exact qT _ _
 ·rfl
theorem aJG(σ:Dv):σ.doo.ws.length=σ.ws.length:=by
 unfold Dv.doo
 split
 ·rfl
 ·exact qT _ _
theorem aOA(σ:Dv)(x:Int)(bs:List UInt8):(σ.tam x bs).ws.length=σ.ws.length:=by
 unfold Dv.tam
 split
 ·exact jN _ _ _ _
 ·rfl
end Go.Proofs.YtnhnpjokpelkbaaGreat
