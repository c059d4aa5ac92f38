/- The memory that lasts: its model, and words. The memory that lasts: the program's small methods. The memory that lasts: the power goes. The memory that lasts: an act. The memory that lasts: Do, Flush, Fence, Arm, New, Acts. The memory that lasts: Arm, New, Acts. A register beside a device. The memory that lasts, byte by byte: what is stored, and read (no program in sight but the cells). The memory that lasts: Store, Flush, Fence. The memory that lasts: Flush, Fence, Load. -/
import Derived.Test.YtmceanmblcadcaaGreatPn0
import Derived.Test.YtmceanmblcadcaaGreatPn1
import Derived.Test.YtmceanmblcadcaaGreatPn2
import Derived.Test.YtmceanmblcadcaaGreatPn6
set_option linter.unusedVariables false
set_option linter.unusedSimpArgs false
set_option linter.unusedSectionVars false
set_option maxHeartbeats 1600000
namespace Go.Proofs.YtmceanmblcadcaaGreat
open Go Go.Proofs.Tryz
section
attribute [local irreducible] SW SL SQ SH SA Pu Fin
structure Wd where
 lasts:List UInt8
 now:List UInt8
 pend:Bool
 mark:Bool
structure Dv where
 ws:List Wd
 down:Bool
 fuse:Int
 picks:List UInt8
 acts:List (Int×Int×Int)
def bv(b:UInt8):Value:=.int .u8 (b.toNat:Int)
instance(b:UInt8):One (bv b):=⟨rfl⟩
def wc(w:Wd):List Value:=w.lasts.map bv++(w.now.map bv++[.bool w.pend,.bool w.mark])
def ac(a:Int×Int×Int):List Value:=[.int .i64 a.1,.int .i64 a.2.1,.int .i64 a.2.2]
instance(a:Int×Int×Int):OC (ac a):=by unfold ac;infer_instance
def Wd.Len(w:Wd):Prop:=w.lasts.length=8∧w.now.length=8
def Wd.Ok(w:Wd):Prop:=w.Len∧(w.mark=true→w.pend=true)
theorem lM{w:Wd}(h:w.Len):(wc w).length=18:=by simp [wc,h.1,h.2]
structure Dv.Ok(σ:Dv):Prop where
 n:σ.ws.length≤8192
 ok:∀ w∈σ.ws,w.Ok
 f0:0≤σ.fuse
 f1:σ.fuse≤9223372036854775807
 a:σ.acts.length≤16384
def gO(p:Nat)(σ:Dv)(H:Hp):Prop:=
 σ.Ok∧∃ bw vp va Hq Ha,Sl 5 1 vp (σ.picks.map bv) Hq∧Sl 81 3 va (σ.acts.flatMap ac) Ha ∧
  H=(p,cl [.slice (some ⟨bw,0,none⟩) σ.ws.length σ.ws.length,.bool σ.down,.int .i64 σ.fuse,vp,va] 133)::(bw,cl (σ.ws.flatMap wc) 146)::(Hq++Ha)
theorem Sl.one{e n:Nat}{v:Value}{xs:List Value}{H:Hp}(h:Sl e n v xs H):One v:=by
 rcases h with ⟨rfl,_,_⟩|⟨b,len,cap,junk,rfl,_⟩ <;> exact⟨rfl⟩
def Wd.stored(w:Wd):Wd:={ w with pend:=true,mark:=false }
def Wd.flushed(w:Wd):Wd:={ w with mark:=w.pend }
def Wd.fenced(w:Wd):Wd:=bif w.mark then { lasts:=w.now,now:=w.now,pend:=false,mark:=false } else w
theorem Wd.stored_ok{w:Wd}(h:w.Ok):w.stored.Ok:=⟨h.1,by simp [Wd.stored]⟩
theorem Wd.flushed_ok{w:Wd}(h:w.Ok):w.flushed.Ok:=⟨h.1,by simp [Wd.flushed]⟩
theorem Wd.fenced_ok{w:Wd}(h:w.Ok):w.fenced.Ok:=by
 unfold Wd.fenced
 cases hm:w.mark
 ·exact h
 ·exact⟨⟨h.1.2,h.1.2⟩,by simp⟩
def zP(g:FuncId)(h:Wd→Wd):Prop:=∀ (b:Nat) (A B:List Value) (u:Wd),u.Ok →
 Tri prog g [.pointer (some ⟨b,A.length,none⟩)] [(b,cl (A++(wc u++B)) 146)] (fun _=>True) (fun v H'=>v=.tuple #[]∧H'=[(b,cl (A++(wc (h u)++B)) 146)])
theorem aDH(A B:List Value){u:Wd}(h:u.Len):(A++(wc u++B))[A.length+16]?=some (.bool u.pend)∧(A++(wc u++B))[A.length+17]?=some (.bool u.mark):=by
 constructor
 ·rw [aBy A _ B 16 _ rfl (by rw [lM h];omega)];simp [wc,List.getElem?_append,h.1,h.2]
 ·rw [aBy A _ B 17 _ rfl (by rw [lM h];omega)];simp [wc,List.getElem?_append,h.1,h.2]
theorem vJ(A B:List Value){u:Wd}(h:u.Len)(p:Bool):(A++(wc u++B)).set (A.length+16) (.bool p)=A++(wc { u with pend:=p }++B)∧(A++(wc u++B)).set (A.length+17) (.bool p)=A++(wc { u with mark:=p }++B):=by
 constructor
 ·rw [aBR A _ B 16 _ _ rfl (by rw [lM h];omega)];simp [wc,List.set_append,h.1,h.2]
 ·rw [aBR A _ B 17 _ _ rfl (by rw [lM h];omega)];simp [wc,List.set_append,h.1,h.2]
theorem aDI(A B:List Value){u:Wd}(h:u.Len):((A++(wc u++B)).drop (A.length+8)).take 8=u.now.map bv∧((A++(wc u++B)).drop (A.length+0)).take 8=u.lasts.map bv:=by
 constructor
 ·rw [aCZ A _ B 8 8 _ rfl (by rw [lM h];omega)]
  simp [wc,fK,h.1,h.2,cD,aG]
 ·rw [aCZ A _ B 0 8 _ rfl (by rw [lM h];omega)]
  simp [wc,h.1,h.2,aG]
theorem aDJ(A B:List Value){u:Wd}(h:u.Len)(r:List UInt8)(hr:r.length=8) :
  (A++(wc u++B)).take (A.length+0)++r.map bv++(A++(wc u++B)).drop (A.length+0+8)=A++(wc { u with lasts:=r }++B) ∧
  (A++(wc u++B)).take (A.length+8)++r.map bv++(A++(wc u++B)).drop (A.length+8+8)=A++(wc { u with now:=r }++B):=by
 have hl:(r.map bv).length=8:=by simpa using hr
 constructor
 ·have:=aAC A (wc u) B (r.map bv) 0 (A.length+0) rfl (by rw [lM h,hl];omega)
  rw [hl] at this
  rw [this]
  simp [wc,h.1,h.2,fK,cD]
 ·have:=aAC A (wc u) B (r.map bv) 8 (A.length+8) rfl (by rw [lM h,hl];omega)
  rw [hl] at this
  rw [this]
  simp [wc,h.1,h.2,gR,fK,cD,aG]
theorem aAe(A B:List Value){u:Wd}(h:u.Len):(A++(wc u++B)).length=A.length+(18+B.length):=by simp [lM h]
theorem aG0:zP 210 Wd.stored:=fun b A B u hu=>by
 have hl:=aAe A B hu.1
 have h16:A.length+16<(A++(wc u++B)).length:=by rw [hl];omega
 have h17:A.length+17<((A++(wc u++B)).set (A.length+16) (.bool true)).length:=by rw [cT,hl];omega
 refine Tri.mk func210 rfl ntmps210 rfl fun w hw=>?_
 refine W.o ?_
 refine Fin.s0 (.inr rfl) rfl ⟨rfl,?_⟩
 rw [(vJ A B hu.1 true).1,(vJ A B (u:={ u with pend:=true }) hu.1 false).2]
 rfl
theorem aEL:zP 211 Wd.flushed:=fun b A B u hu=>by
 have hl:=aAe A B hu.1
 have h17:A.length+17<(A++(wc u++B)).length:=by rw [hl];omega
 have g16:=(aDH A B hu.1).1
 refine Tri.mk func211 rfl ntmps211 rfl fun w hw=>?_
 refine W.o ?_
 refine Fin.s0 (.inr rfl) rfl ⟨rfl,?_⟩
 rw [(vJ A B hu.1 _).2]
 rfl
theorem aF3:zP 168 Wd.fenced:=fun b A B u hu=>by
 have hl:=aAe A B hu.1
 have g17:=(aDH A B hu.1).2
 have gn:=(aDI A B hu.1).1
 have hn:(u.now.map bv).length=8:=by simpa using hu.1.2
 have h0:A.length+0+8≤(A++(wc u++B)).length:=by rw [hl];omega
 have gp:=(aDJ A B hu.1 u.now hu.1.2).1
 have hu2:({ u with lasts:=u.now }:Wd).Len:=⟨hu.1.2,hu.1.2⟩
 have hl2:=aAe A B hu2
 have h16:A.length+16<(A++(wc { u with lasts:=u.now }++B)).length:=by rw [hl2];omega
 have h17:A.length+17<((A++(wc { u with lasts:=u.now }++B)).set (A.length+16) (.bool false)).length:=by rw [cT,hl2];omega
 refine Tri.mk func168 rfl ntmps168 rfl fun w hw=>?_
 refine W.o ?_
 refine jL rfl (fun hm=>?_) (fun hm=>?_)
 ·refine W.o ?_
  refine Fin.s0 (.inr rfl) rfl ⟨rfl,?_⟩
  rw [(vJ A B hu2 false).1]
  rw [(vJ A B (u:={ u with lasts:=u.now,pend:=false }) hu2 false).2]
  simp [Wd.fenced,hm]
 ·refine W.o ?_
  refine Fin.s0 (.inr rfl) rfl ⟨rfl,?_⟩
  simp [Wd.fenced,hm]
theorem aHS{p:Nat}{σ:Dv}{H:Hp}(hD:gO p σ H):Tri prog 93 [.pointer (some ⟨p,0,none⟩)] H (fun _=>True) (fun v H'=>v=.bool σ.down∧H'=H):=by
 obtain⟨hO,bw,vp,va,Hq,Ha,h1,h2,rfl⟩:=hD
 refine Tri.mk func93 rfl ntmps93 rfl fun w hw=>?_
 refine W.o ?_
 exact Fin.s1 (.inl rfl) rfl rfl ⟨rfl,rfl⟩
def Dv.len(σ:Dv):Nat:=8*σ.ws.length
theorem aGf{p:Nat}{σ:Dv}{H:Hp}(hD:gO p σ H):Tri prog 54 [.pointer (some ⟨p,0,none⟩)] H (fun _=>True) (fun v H'=>v=.int .i64 σ.len∧H'=H):=by
 obtain⟨hO,bw,vp,va,Hq,Ha,h1,h2,rfl⟩:=hD
 have hn:=hO.n
 refine Tri.mk func54 rfl ntmps54 rfl fun w hw=>?_
 refine W.o ?_
 exact Fin.s1 (.inl rfl) rfl rfl ⟨by simp [Dv.len],rfl⟩
def Dv.rdy(σ:Dv)(x n:Int):Int:=if σ.down=true then 8 else if x<0∨n<0∨(σ.len:Int)<n∨(σ.len:Int)-n<x then 3 else 0
theorem wF{p:Nat}{σ:Dv}{H:Hp}(hD:gO p σ H)(x n:Int):Tri prog 81 [.pointer (some ⟨p,0,none⟩),.int .i64 x,.int .i64 n] H (fun _=>True) (fun v H'=>v=.int .i64 (σ.rdy x n)∧H'=H):=by
 have hlen:=aGf hD
 obtain⟨hO,bw,vp,va,Hq,Ha,h1,h2,hH⟩:=hD
 have hn:σ.len≤65536:=by have:=hO.n;simp only [Dv.len];omega
 subst hH
 refine Tri.mk func81 rfl ntmps81 rfl fun w hw=>?_
 repeat' (first|(refine tM ?_;refine zN rfl rfl ?_)|(refine rD ?_;((refine oC _ rfl rfl rfl rfl hlen (fun _ _=>trivial) ?_;rintro _ _ ⟨rfl,rfl⟩)))|(refine W.ow ?_;try intro b_)  | refine dP (nY rfl rfl rfl) rfl rfl (fun h_=>?_) (fun h_=>?_)|refine dP (nX rfl rfl rfl) rfl rfl (fun h_=>?_) (fun h_=>?_)|refine dP (nW rfl rfl rfl) rfl rfl (fun h_=>?_) (fun h_=>?_)|refine dP (nV rfl rfl rfl) rfl rfl (fun h_=>?_) (fun h_=>?_)|refine dP (lX rfl rfl rfl) rfl rfl (fun h_=>?_) (fun h_=>?_)|refine dP (nZ rfl rfl rfl) rfl rfl (fun h_=>?_) (fun h_=>?_)|refine jL rfl (fun h_=>?_) (fun h_=>?_))
 all_goals (refine Fin.r1 (.inl rfl) rfl rfl _ ⟨?_,rfl⟩;unfold Dv.rdy;congr 1)
 all_goals (repeat' split)
 all_goals first|rfl|(exfalso;simp_all;done)|(exfalso;omega)
def gV(h:Wd→Wd)(x y:Nat)(ws:List Wd):List Wd:=ws.mapIdx fun i w=>if x≤i∧i<y then h w else w
theorem oH(h:Wd→Wd)(x:Nat)(ws:List Wd):gV h x x ws=ws:=by
 apply cJ
 intro i
 simp only [gV,eU]
 cases ws[i]? with
 | none=>rfl
 | some w=>simp only [Option.map_some];rw [if_neg oQ]
theorem aA6(h:Wd→Wd)(x y:Nat)(ws:List Wd)(w:Wd)(hxy:x≤y)(hw:ws[y]?=some w):(gV h x y ws)[y]?=some w∧(gV h x y ws).set y (h w)=gV h x (y+1) ws:=by
 constructor
 ·simp only [gV,eU,hw,Option.map_some];rw [if_neg oQ]
 ·apply cJ
  intro i
  simp only [gV,fD,List.length_mapIdx,eU]
  by_cases hi:y=i
  ·subst hi
   have hlt:y<ws.length:=(aD.1 hw).1
   simp only [hlt,if_true,hw,Option.map_some]
   rw [if_pos oQ]
  ·rw [if_neg hi]
   cases ws[i]? with
   | none=>rfl
   | some u=>
    simp only [Option.map_some,dA]
    by_cases h1:x≤i∧i<y
    ·rw [if_pos h1,if_pos oQ]
    ·rw [if_neg h1,if_neg oQ]
theorem mI(h:Wd→Wd)(x y:Nat)(ws:List Wd):(gV h x y ws).length=ws.length:=by simp [gV]
theorem tT{h:Wd→Wd}(hh:∀ w,w.Ok→(h w).Ok)(x y:Nat){ws:List Wd}(hw:∀ w∈ws,w.Ok):∀ w∈gV h x y ws,w.Ok:=by
 intro w hm
 obtain⟨i,hi⟩:=dI.1 hm
 simp only [gV,eU] at hi
 cases hu:ws[i]? with
 | none=>rw [hu] at hi;simp at hi
 | some u=>
  rw [hu] at hi
  simp only [Option.map_some,dA] at hi
  have hm:u∈ws:=aQ hu
  rw [← hi]
  split
  ·exact hh u (hw u hm)
  ·exact hw u hm
theorem aJm{g:FuncId} [aZ prog g]{h:Wd→Wd}(hg:zP g h)(hh:∀ w,w.Ok→(h w).Ok)(p bw n:Nat)(x1 x2 x3 x4:Value)(ws:List Wd)(hn:ws.length=n)(hn2:n≤8192)(hok:∀ w∈ws,w.Ok)(x y:Nat)(hxy:x≤y)(hy:y≤n) :
  Tri prog 167 [.pointer (some ⟨p,0,none⟩),.int .i64 x,.int .i64 y,.func (.func g) #[] #[]] [(p,cl [.slice (some ⟨bw,0,none⟩) n n,x1,x2,x3,x4] 133),(bw,cl (ws.flatMap wc) 146)] (fun _=>True)
   (fun v H'=>v=.tuple #[]∧H'=[(p,cl [.slice (some ⟨bw,0,none⟩) n n,x1,x2,x3,x4] 133),(bw,cl ((gV h x y ws).flatMap wc) 146)]):=by
 refine Tri.mk func167 rfl ntmps167 rfl fun w hw=>?_
 repeat' (first|(refine W.ow ?_;try intro b_)  | refine dP (nY rfl rfl rfl) rfl rfl (fun h_=>?_) (fun h_=>?_)|refine dP (nX rfl rfl rfl) rfl rfl (fun h_=>?_) (fun h_=>?_)|refine dP (nW rfl rfl rfl) rfl rfl (fun h_=>?_) (fun h_=>?_)|refine dP (nV rfl rfl rfl) rfl rfl (fun h_=>?_) (fun h_=>?_)|refine dP (lX rfl rfl rfl) rfl rfl (fun h_=>?_) (fun h_=>?_)|refine dP (nZ rfl rfl rfl) rfl rfl (fun h_=>?_) (fun h_=>?_)|refine jL rfl (fun h_=>?_) (fun h_=>?_))
 refine vT (fun k:Nat=>[(0,.pointer (some ⟨p,0,none⟩)),(2,.int .i64 y),(3,.func (.func g) #[] #[]),(8,.int .i64 k)])
  (fun k=>[(p,cl [.slice (some ⟨bw,0,none⟩) n n,x1,x2,x3,x4] 133),(bw,cl ((gV h x k ws).flatMap wc) 146)])
  (fun k=>y-k) (fun k=>x≤k∧k≤y) x ⟨rfl,rfl,rfl,rfl,trivial⟩ (by rw [oH];infer_instance) ⟨Nat.le_refl _,hxy⟩ ?_
 rintro k ⟨hk1,hk2⟩
 repeat' (first|(refine W.ow ?_;try intro b_)  | refine dP (nY rfl rfl rfl) rfl rfl (fun h_=>?_) (fun h_=>?_)|refine dP (nX rfl rfl rfl) rfl rfl (fun h_=>?_) (fun h_=>?_)|refine dP (nW rfl rfl rfl) rfl rfl (fun h_=>?_) (fun h_=>?_)|refine dP (nV rfl rfl rfl) rfl rfl (fun h_=>?_) (fun h_=>?_)|refine dP (lX rfl rfl rfl) rfl rfl (fun h_=>?_) (fun h_=>?_)|refine dP (nZ rfl rfl rfl) rfl rfl (fun h_=>?_) (fun h_=>?_)|refine jL rfl (fun h_=>?_) (fun h_=>?_))
 ·have hlt:k<ws.length:=oQ
  obtain⟨u,hu⟩:∃ u,ws[k]?=some u:=⟨_,aA hlt⟩
  obtain⟨h1,h2⟩:=aA6 h x k ws u hk1 hu
  have hok2:=tT hh x k hok
  have hl2:(gV h x k ws).length=n:=by rw [mI,hn]
  have hwl:∀ w∈gV h x k ws,(wc w).length=18:=fun w hw=>lM (hok2 w hw).1
  rw [sS wc _ k u h1]
  have hA:(((gV h x k ws).take k).flatMap wc).length=k*18:=by rw [pR wc 18 _ (fun w hw=>hwl w (eE hw)),aI];congr 1;omega
  have hf:=hg bw (((gV h x k ws).take k).flatMap wc) (((gV h x k ws).drop (k+1)).flatMap wc) u (hok2 _ (aQ h1))
  rw [hA] at hf
  refine W.o ?_
  refine bD (fO rfl rfl rfl oQ oQ (j':=k*18) oQ) rfl rfl ?_
  refine dN [(bw,_)] rfl rfl rfl rfl rfl rfl hf (fun _ _=>trivial) ?_
  rintro _ _ ⟨rfl,rfl⟩
  rw [← aDl wc _ k _ oQ,h2]
  refine W.o ?_
  refine pH.mk (k+1) oQ ⟨rfl,rfl,rfl,rfl,trivial⟩ inferInstance ⟨by omega,by omega⟩
 ·refine Fin.s0 (.inr rfl) rfl ⟨rfl,?_⟩
  have:k=y:=oQ
  rw [this]
def uW(q:List UInt8)(j:Nat):Bool:=match q[j%q.length]? with
 | some b=>(b &&& 1) == 1
 | none=>false
def Wd.crash(b:Bool)(w:Wd):Wd:=⟨bif b then w.now else w.lasts,bif b then w.now else w.lasts,false,false⟩
def iW(q:List UInt8):Nat→List Wd→List Wd
 | _,[]=>[]
 | j,w::t=>bif w.pend then w.crash (uW q j)::iW q (j+1) t else w::iW q j t
def Dv.crash(q:List UInt8)(σ:Dv):Dv:=bif σ.down then σ else { σ with ws:=iW q 0 σ.ws,down:=true,fuse:=0 }
theorem uX(q:List UInt8):∀ (j:Nat) (l:List Wd),(iW q j l).length=l.length
 | _,[]=>rfl
 | j,w::t=>by unfold iW;cases w.pend <;> simp [uX q _ t]
theorem Wd.crash_ok{w:Wd}(b:Bool)(h:w.Ok):(w.crash b).Ok:=by
 cases b
 ·exact⟨⟨h.1.1,h.1.1⟩,by simp [Wd.crash]⟩
 ·exact⟨⟨h.1.2,h.1.2⟩,by simp [Wd.crash]⟩
theorem xB(q:List UInt8):∀ (j:Nat) (l:List Wd),(∀ w∈l,w.Ok)→∀ w∈iW q j l,w.Ok
 | _,[],_=>by simp [iW]
 | j,w::t,h=>by
  unfold iW
  have ht:∀ w∈t,w.Ok:=fun x hx=>h x (by simp [hx])
  cases w.pend
  ·intro x hx
   simp only [cond_false,cB] at hx
   rcases hx with rfl|hx
   ·exact h x (by simp)
   ·exact xB q _ t ht x hx
  ·intro x hx
   simp only [cond_true,cB] at hx
   rcases hx with rfl|hx
   ·exact Wd.crash_ok _ (h w (by simp))
   ·exact xB q _ t ht x hx
theorem Dv.crash_ok{σ:Dv}(q:List UInt8)(h:σ.Ok):(σ.crash q).Ok:=by
 unfold Dv.crash
 cases σ.down
 ·exact⟨by simp only [cond_false];rw [uX];exact h.n,xB q 0 _ h.ok,Int.le_refl _,by simp,h.a⟩
 ·exact h
theorem aCl(b:UInt8):(IntKind.u8.wrap (((BitVec.ofInt IntKind.u8.bits ((b.toNat:Nat):Int)) &&& (BitVec.ofInt IntKind.u8.bits 1)).toNat)=1)↔((b &&& 1) == 1)=true:=by
 have hp:(0:Nat)<2^8:=by decide
 have h1:((b &&& 1) == 1)=true↔b.toNat%2=1:=by
  rw [beq_iff_eq,← iY,UInt8.toNat_and,UInt8.toNat_one,oP]
 rw [h1]
 have h2:(((BitVec.ofInt IntKind.u8.bits ((b.toNat:Nat):Int)) &&& (BitVec.ofInt IntKind.u8.bits 1)).toNat)=b.toNat%2:=by
  have e1:BitVec.ofInt IntKind.u8.bits ((b.toNat:Nat):Int)=b.toBitVec:=by
   apply kC;rw [iK];have:=b.toNat_lt;show ((b.toNat:Int)%(256:Int)).toNat=b.toNat;omega
  have e2:BitVec.ofInt IntKind.u8.bits 1=(1:BitVec 8):=rfl
  rw [e1,e2]
  show (b.toBitVec &&& (1:BitVec 8)).toNat=_
  rw [BitVec.toNat_and]
  exact oP _
 rw [h2]
 have h3:IntKind.u8.wrap ((b.toNat%2:Nat):Int)=((b.toNat%2:Nat):Int):=by
  show (((b.toNat%2:Nat):Int)%256)=_
  omega
 rw [h3];omega
def hdr(bw n:Nat)(d:Bool)(f:Int)(vp va:Value):Obj:=cl [.slice (some ⟨bw,0,none⟩) n n,.bool d,.int .i64 f,vp,va] 133
theorem aDh{p bw:Nat}{σ:Dv}(hO:σ.Ok)(vp va q:Value)(qs:List UInt8) :
  Tri prog 199 [.pointer (some ⟨p,0,none⟩),q] [(p,hdr bw σ.ws.length σ.down σ.fuse vp va),(bw,cl (σ.ws.flatMap wc) 146)] (fun w=>Rd [p,bw] w 1 q (qs.map bv))
   (fun v H'=>v=.tuple #[]∧H'=[(p,hdr bw (σ.crash qs).ws.length (σ.crash qs).down (σ.crash qs).fuse vp va),(bw,cl ((σ.crash qs).ws.flatMap wc) 146)]):=by
 unfold hdr
 obtain⟨ws,dn,fu,pk,ak⟩:=σ
 have hn:=hO.n
 have hok:=hO.ok
 simp only at hn hok
 refine Tri.mk func199 rfl ntmps199 rfl fun w hw=>?_
 obtain⟨a,len,cap,rfl,hlen,hcap,hrd⟩:=hw
 rw [aJ,Nat.mul_one] at hlen
 cases dn
 ·dsimp only
  refine W.o ?_
  refine vT (fun x:List Wd×List Wd×Nat=>[(0,.pointer (some ⟨p,0,none⟩)),(1,.slice a len cap),(4,.int .i64 x.2.2),(19,.int .i64 ws.length),(20,.int .i64 x.1.length)])
   (fun x=>[(p,cl [.slice (some ⟨bw,0,none⟩) ws.length ws.length,.bool false,.int .i64 fu,vp,va] 133),(bw,cl ((x.1++x.2.1).flatMap wc) 146)])
   (fun x=>x.2.1.length) (fun x=>iW qs 0 ws=x.1++iW qs x.2.2 x.2.1∧x.1.length+x.2.1.length=ws.length∧x.2.2≤x.1.length∧(∀ w∈x.1++x.2.1,w.Ok))
   ([],ws,0) ⟨rfl,rfl,rfl,rfl,rfl,trivial⟩ (by dsimp only [List.nil_append];infer_instance) ⟨rfl,by simp,Nat.le_refl _,hok⟩ ?_
  rintro⟨done,todo,j⟩ ⟨hc,hl,hj,hk⟩
  dsimp only at hc hl hj hk ⊢
  cases todo with
  | nil=>
   have hl2:done.length=ws.length:=by simpa using hl
   refine W.o ?_
   refine Fin.s0 (.inr rfl) rfl ⟨rfl,?_⟩
   simp [Dv.crash,hc,iW,hl2]
  | cons u t=>
   have hl2:done.length+(t.length+1)=ws.length:=by simpa using hl
   have hu:u.Ok:=hk u (by simp)
   have hA:(done.flatMap wc).length=done.length*18:=pR wc 18 _ (fun w hw=>lM (hk w (by simp [hw])).1)
   rw [cO,eQ]
   have g16:=(aDH (done.flatMap wc) (t.flatMap wc) hu.1).1
   have hL:∀ v:Wd,v.Len→((done.flatMap wc)++(wc v++t.flatMap wc)).length=done.length*18+(18+(t.flatMap wc).length):=fun v hv=>by rw [aAe _ _ hv,hA]
   refine W.o ?_
   refine bD (fO rfl rfl rfl oQ oQ (j':=(done.flatMap wc).length) oQ) rfl rfl ?_
   obtain⟨la,no,pe,ma⟩:=u
   dsimp only at g16
   cases pe
   ·refine W.o ?_
    refine pH.eq (done++[⟨la,no,false,ma⟩],t,j) (by simp) ⟨rfl,rfl,rfl,rfl,?_,trivial⟩ ?_ ⟨?_,?_,?_,?_⟩
    ·simp [lk,pt]
    ·simp
    ·rw [hc];simp [iW]
    ·simp;omega
    ·simp;omega
    ·simpa using hk
   ·have hn8:(no.map bv).length=8:=by simpa using hu.1.2
    have rn:=(aDI (done.flatMap wc) (t.flatMap wc) hu.1).1
    have b0:(done.flatMap wc).length+0+8≤(done.flatMap wc++(wc ⟨la,no,true,ma⟩++t.flatMap wc)).length:=by rw [hL _ hu.1];omega
    have p0:=(aDJ (done.flatMap wc) (t.flatMap wc) hu.1 no hu.1.2).1
    dsimp only at p0 rn
    have key:∀ l:List UInt8,l.length=8→(∀ (l':List UInt8),l'=l→((⟨l',l',false,false⟩:Wd)=Wd.crash (uW qs j) ⟨la,no,true,ma⟩)) →
     let X:=done.flatMap wc++(wc ⟨l,no,true,ma⟩++t.flatMap wc)
     let Y:=done.flatMap wc++(wc ⟨l,l,true,ma⟩++t.flatMap wc)
     (X.drop ((done.flatMap wc).length+0)).take 8=l.map bv∧(l.map bv).length=8∧(done.flatMap wc).length+8+8≤X.length ∧
      X.take ((done.flatMap wc).length+8)++l.map bv++X.drop ((done.flatMap wc).length+8+8)=Y∧(done.flatMap wc).length+16<Y.length∧(done.flatMap wc).length+17<(Y.set ((done.flatMap wc).length+16) (.bool false)).length ∧
      (Y.set ((done.flatMap wc).length+16) (.bool false)).set ((done.flatMap wc).length+17) (.bool false)=((done++[Wd.crash (uW qs j) ⟨la,no,true,ma⟩])++t).flatMap wc:=by
     intro l h8 hcr X Y
     have hX:(⟨l,no,true,ma⟩:Wd).Len:=⟨h8,hu.1.2⟩
     have hY:(⟨l,l,true,ma⟩:Wd).Len:=⟨h8,h8⟩
     have hY2:(⟨l,l,false,ma⟩:Wd).Len:=⟨h8,h8⟩
     have hXl:=hL _ hX
     have hYl:=hL _ hY
     refine⟨(aDI (done.flatMap wc) (t.flatMap wc) hX).2,by simpa using h8,?_,(aDJ (done.flatMap wc) (t.flatMap wc) hX l h8).2,?_,?_,?_⟩
     ·show _≤(done.flatMap wc++(wc ⟨l,no,true,ma⟩++t.flatMap wc)).length
      rw [hXl];omega
     ·show _<(done.flatMap wc++(wc ⟨l,l,true,ma⟩++t.flatMap wc)).length
      rw [hYl];omega
     ·show _<((done.flatMap wc++(wc ⟨l,l,true,ma⟩++t.flatMap wc)).set _ _).length
      rw [cT,hYl];omega
     ·rw [(vJ (done.flatMap wc) (t.flatMap wc) hY false).1,(vJ (done.flatMap wc) (t.flatMap wc) hY2 false).2]
      rw [hcr l rfl];simp
    have fin:∀ ρ:Fr,subF [(0,.pointer (some ⟨p,0,none⟩)),(1,.slice a len cap),(4,.int .i64 (j+1)),(19,.int .i64 ws.length),(20,.int .i64 (done.length+1))] ρ→pH (fun x:List Wd×List Wd×Nat=>[(0,.pointer (some ⟨p,0,none⟩)),(1,.slice a len cap),(4,.int .i64 x.2.2),(19,.int .i64 ws.length),(20,.int .i64 x.1.length)])
      (fun x=>[(p,cl [.slice (some ⟨bw,0,none⟩) ws.length ws.length,.bool false,.int .i64 fu,vp,va] 133),(bw,cl ((x.1++x.2.1).flatMap wc) 146)])
      (fun x=>x.2.1.length) (fun x=>iW qs 0 ws=x.1++iW qs x.2.2 x.2.1∧x.1.length+x.2.1.length=ws.length∧x.2.2≤x.1.length∧(∀ w∈x.1++x.2.1,w.Ok)) (done,⟨la,no,true,ma⟩::t,j) ρ
      [(p,cl [.slice (some ⟨bw,0,none⟩) ws.length ws.length,.bool false,.int .i64 fu,vp,va] 133),(bw,cl (((done++[Wd.crash (uW qs j) ⟨la,no,true,ma⟩])++t).flatMap wc) 146)]:=by
     intro ρ hρ
     refine pH.eq (done++[Wd.crash (uW qs j) ⟨la,no,true,ma⟩],t,j+1) (by simp) (by simpa using hρ) rfl ⟨?_,?_,?_,?_⟩
     ·rw [hc];simp [iW]
     ·simp;omega
     ·simp;omega
     ·have:=Wd.crash_ok (uW qs j) hu
      simp only [bQ,cB,dB,or_false] at hk ⊢
      rintro w ((hw|rfl)|hw)
      ·exact hk w (.inl hw)
      ·exact this
      ·exact hk w (.inr (.inr hw))
    rcases jU len with h0|h0
    ·subst h0
     have hq:qs=[]:=cE hlen
     obtain⟨k1,k2,k3,k4,k5,k6,k7⟩:=key la hu.1.1 (fun l' h=>by subst h hq;simp [uW,Wd.crash])
     refine W.o ?_
     rw [k7]
     exact fin _ ⟨rfl,rfl,rfl,rfl,rfl,trivial⟩
    ·obtain⟨b,o,l,T,fz,rfl,hb,hbk,hrow⟩:=hrd.resolve_left oQ
     obtain⟨x,hx⟩:∃ x,qs[j%qs.length]?=some x:=⟨_,aA (Nat.mod_lt _ oQ)⟩
     have hlx:l[o+(j%len)*1]?=some (bv x):=by
      have:=congrArg (fun z=>z[j%len]?) hrow
      rw [bB,if_pos (by have:=Nat.mod_lt j h0;omega),bA,aL,← hlen,hx] at this
      rw [Nat.mul_one,← hlen];exact this
     refine W.o ?_
     refine bD (aAi rfl rfl rfl oQ (r:=((j%len:Nat):Int)) (by rw [sJ])) rfl rfl ?_
     refine bD (fO rfl rfl rfl oQ (by have:=Nat.mod_lt j h0;omega) (j':=o+(j%len)*1) (by rw [aX])) rfl rfl ?_
     refine bD (qQ rfl rfl hb hbk hlx) rfl rfl ?_
     refine bD (aKT rfl rfl rfl rfl) rfl rfl ?_
     by_cases hbit:((x &&& 1) == 1)=true
     ·obtain⟨k1,k2,k3,k4,k5,k6,k7⟩:=key no hu.1.2 (fun l' h=>by subst h;simp only [uW,hx,hbit];rfl)
      refine bD (Pu.t (lX rfl rfl rfl) ((aCl x).2 hbit)) rfl rfl ?_
      refine W.o ?_
      rw [k7]
      exact fin _ ⟨rfl,rfl,rfl,rfl,rfl,trivial⟩
     ·obtain⟨k1,k2,k3,k4,k5,k6,k7⟩:=key la hu.1.1 (fun l' h=>by subst h;simp only [Bool.not_eq_true] at hbit;simp only [uW,hx,hbit];rfl)
      refine bD (Pu.f (lX rfl rfl rfl) (fun h=>hbit ((aCl x).1 h))) rfl rfl ?_
      refine W.o ?_
      rw [k7]
      exact fin _ ⟨rfl,rfl,rfl,rfl,rfl,trivial⟩
 ·dsimp only
  refine W.o ?_
  refine Fin.s0 (.inl rfl) rfl ⟨rfl,rfl⟩
def Dv.push(σ:Dv)(a:Int×Int×Int):Dv:=if σ.acts.length<16384 then { σ with acts:=σ.acts++[a] } else σ
def Dv.act(σ:Dv)(a:Int×Int×Int):Dv:=if 0<σ.fuse then (if σ.fuse=1 then ({ σ with fuse:=0 }:Dv).crash σ.picks else ({ σ with fuse:=σ.fuse-1 }:Dv).push a) else σ.push a
def Dv.actE(σ:Dv):Int:=if σ.fuse=1 then 8 else 0
theorem Dv.fuse_ok{σ:Dv}(f:Int)(h:σ.Ok)(h0:0≤f)(h1:f≤9223372036854775807):({ σ with fuse:=f }:Dv).Ok:=⟨h.n,h.ok,h0,h1,h.a⟩
theorem aDS{p:Nat}{σ:Dv}{H:Hp}(hD:gO p σ H)(a:Int×Int×Int):Tri prog 144 [.pointer (some ⟨p,0,none⟩),.agg #[.int .i64 a.1,.int .i64 a.2.1,.int .i64 a.2.2]] H (fun _=>True)
  (fun v H'=>v=.int .i64 σ.actE∧gO p (σ.act a) H'):=by
 obtain⟨hO,bw,vp,va,Hq,Ha,h1,h2,rfl⟩:=hD
 have hf0:=hO.f0
 have hf1:=hO.f1
 have ha:=hO.a
 have hof:One vp:=h1.one
 obtain⟨aa,la,ca,rfl,hla⟩:=h2.form
 have hla2:la=σ.acts.length:=by rw [pR ac 3 _ (fun x _=>rfl)] at hla;omega
 subst hla2
 refine Tri.mk func144 rfl ntmps144 rfl fun w hw=>?_
 by_cases c0:0<σ.fuse
 ·refine W.o fun b_=>?_
  by_cases c1:σ.fuse=1
  ·have e0:σ.fuse-1=0:=oQ
   have hc:=aDh (p:=p) (bw:=bw) (Dv.fuse_ok (σ.fuse-1) hO oQ oQ) vp (.slice aa σ.acts.length ca) vp σ.picks
   unfold hdr at hc
   dsimp only at hc
   refine W.o ?_
   dsimp only [List.set]
   refine aB9 [p,bw] rfl rfl rfl rfl hc (fun w hs=>Rd.own (Hc:=[(p,cl [.slice (some ⟨bw,0,none⟩) σ.ws.length σ.ws.length,.bool σ.down,.int .i64 (σ.fuse-1),vp,.slice aa σ.acts.length ca] 133),(bw,cl (σ.ws.flatMap wc) 146)]) h1 hs inferInstance) ?_
   rintro _ _ ⟨rfl,rfl⟩
   refine W.o ?_
   refine Fin.rm b_ (Fin.s1 (.inl rfl) rfl rfl ⟨?_,?_⟩)
   ·simp [Dv.actE,c1]
   ·have he:σ.act a=({ σ with fuse:=σ.fuse-1 }:Dv).crash σ.picks:=by simp [Dv.act,c1]
    rw [he]
    refine⟨Dv.crash_ok _ (Dv.fuse_ok _ hO oQ oQ),bw,vp,_,Hq,Ha,?_,?_,rfl⟩
    ·unfold Dv.crash;cases σ.down <;> exact h1
    ·unfold Dv.crash;cases σ.down <;> exact h2
  ·have c3:σ.fuse-1≠0:=oQ
   by_cases c2:σ.acts.length<16384
   ·refine W.o ?_
    refine kS [p,b_] 10 kQ ?_
    refine SA.take 0 rfl kQ (fun _ _ _ h=>Fin.np h) rfl rfl (dW rfl rfl) ?_
    refine SA.take 1 rfl kQ (fun _ _ _ h=>Fin.np h) rfl rfl (dW rfl rfl) ?_
    refine SA.take 2 rfl kQ (fun _ _ _ h=>Fin.np h) rfl rfl (oA rfl rfl) ?_
    refine SA.take 3 rfl kQ (fun _ _ _ h=>Fin.np h) rfl rfl (fA rfl rfl rfl) ?_
    refine SA.take 4 rfl kQ (fun _ _ _ h=>Fin.np h) rfl rfl (gZ rfl rfl rfl) ?_
    refine SA.take 5 rfl kQ (fun _ _ _ h=>Fin.np h) rfl rfl (lA rfl rfl rfl rfl) ?_
    refine SA.one 6 rfl kQ ?_
    refine kB (n:=3) rfl rfl rfl rfl (by rfl) dQ (by rfl) dQ (fun b2=>?_)
    refine gW ?_
    refine Beh.mk ?_
    refine SA.one 7 rfl kQ ?_
    refine SL.append (n:=3) (m:=1) (ys:=ac a) Ha rfl rfl rfl rfl rfl h2 (fun w hs=>eJ.block (hs.at (b:=b2)) rfl rfl) rfl rfl dQ dQ ?_ (fun v2 Ha2 h3=>?_)
    ·rw [hla];simp [ac];omega
    have hov:One v2:=h3.one
    refine gW ?_
    refine Beh.mk ?_
    refine SA.one 8 rfl kQ ?_
    refine W.o ?_
    refine Beh.mk ?_
    refine SA.one 9 rfl kQ ?_
    refine W.o ?_
    refine Beh.mk ?_
    refine aDN rfl kQ ?_
    refine W.o ?_
    refine Fin.rm b_ (Fin.rm b2 ?_)
    have he:σ.act a=({ σ with fuse:=σ.fuse-1,acts:=σ.acts++[a] }:Dv):=by simp [Dv.act,Dv.push,c0,c1,c2]
    rw [he]
    have hl2:(σ.acts++[a]).flatMap ac=σ.acts.flatMap ac++ac a:=by simp
    rw [← hl2] at h3
    exact Fin.perm bT (Fin.s1 (.inl rfl) rfl rfl ⟨by simp [Dv.actE,c1],⟨hO.n,hO.ok,by dsimp only;omega,by dsimp only;omega,by simp;omega⟩,bw,vp,v2,Hq,Ha2,h1,h3,by rw [aE];rfl⟩)
   ·refine W.o ?_
    refine Fin.rm b_ (Fin.s1 (.inl rfl) rfl rfl ⟨?_,?_⟩)
    ·simp [Dv.actE,c1]
    ·have he:σ.act a=({ σ with fuse:=σ.fuse-1 }:Dv):=by simp [Dv.act,Dv.push,c0,c1,c2]
     have hOK:=Dv.fuse_ok (σ.fuse-1) hO oQ oQ
     rw [he]
     exact⟨hOK,bw,vp,_,Hq,Ha,h1,h2,rfl⟩
 ·refine W.o fun b_=>?_
  by_cases c2:σ.acts.length<16384
  ·refine W.o ?_
   refine kS [p,b_] 10 kQ ?_
   refine SA.take 0 rfl kQ (fun _ _ _ h=>Fin.np h) rfl rfl (dW rfl rfl) ?_
   refine SA.take 1 rfl kQ (fun _ _ _ h=>Fin.np h) rfl rfl (dW rfl rfl) ?_
   refine SA.take 2 rfl kQ (fun _ _ _ h=>Fin.np h) rfl rfl (oA rfl rfl) ?_
   refine SA.take 3 rfl kQ (fun _ _ _ h=>Fin.np h) rfl rfl (fA rfl rfl rfl) ?_
   refine SA.take 4 rfl kQ (fun _ _ _ h=>Fin.np h) rfl rfl (gZ rfl rfl rfl) ?_
   refine SA.take 5 rfl kQ (fun _ _ _ h=>Fin.np h) rfl rfl (lA rfl rfl rfl rfl) ?_
   refine SA.one 6 rfl kQ ?_
   refine kB (n:=3) rfl rfl rfl rfl (by rfl) dQ (by rfl) dQ (fun b2=>?_)
   refine gW ?_
   refine Beh.mk ?_
   refine SA.one 7 rfl kQ ?_
   refine SL.append (n:=3) (m:=1) (ys:=ac a) Ha rfl rfl rfl rfl rfl h2 (fun w hs=>eJ.block (hs.at (b:=b2)) rfl rfl) rfl rfl dQ dQ ?_ (fun v2 Ha2 h3=>?_)
   ·rw [hla];simp [ac];omega
   have hov:One v2:=h3.one
   refine gW ?_
   refine Beh.mk ?_
   refine SA.one 8 rfl kQ ?_
   refine W.o ?_
   refine Beh.mk ?_
   refine SA.one 9 rfl kQ ?_
   refine W.o ?_
   refine Beh.mk ?_
   refine aDN rfl kQ ?_
   refine W.o ?_
   refine Fin.rm b_ (Fin.rm b2 ?_)
   have he:σ.act a=({ σ with acts:=σ.acts++[a] }:Dv):=by simp [Dv.act,Dv.push,c0,c2]
   rw [he]
   have hl2:(σ.acts++[a]).flatMap ac=σ.acts.flatMap ac++ac a:=by simp
   rw [← hl2] at h3
   exact Fin.perm bT (Fin.s1 (.inl rfl) rfl rfl ⟨by simp [Dv.actE];omega,⟨hO.n,hO.ok,by dsimp only;omega,by dsimp only;omega,by simp;omega⟩,bw,vp,v2,Hq,Ha2,h1,h3,by rw [aE];rfl⟩)
  ·refine W.o ?_
   refine Fin.rm b_ (Fin.s1 (.inl rfl) rfl rfl ⟨?_,?_⟩)
   ·simp [Dv.actE];omega
   ·have he:σ.act a=σ:=by simp [Dv.act,Dv.push,c0,c2]
    have hOK:=hO
    rw [he]
    exact⟨hOK,bw,vp,_,Hq,Ha,h1,h2,rfl⟩
theorem zU{g:FuncId} [aZ prog g]{h:Wd→Wd}(hg:zP g h)(hh:∀ w,w.Ok→(h w).Ok){p:Nat}{σ:Dv}{H:Hp}(hD:gO p σ H)(x y:Nat)(hxy:x≤y)(hy:y≤σ.ws.length) :
  Tri prog 167 [.pointer (some ⟨p,0,none⟩),.int .i64 x,.int .i64 y,.func (.func g) #[] #[]] H (fun _=>True) (fun v H'=>v=.tuple #[]∧gO p { σ with ws:=gV h x y σ.ws } H'):=by
 obtain⟨hO,bw,vp,va,Hq,Ha,h1,h2,rfl⟩:=hD
 refine ((aJm hg hh p bw _ _ _ _ _ σ.ws rfl hO.n hO.ok x y hxy hy).frame (r:=Hq++Ha) (List.Perm.refl _) (fun w _ _=>trivial)).mono ?_
 rintro v H' ⟨H1,rfl,rfl,rfl⟩
 exact⟨rfl,⟨by dsimp only;rw [mI];exact hO.n,tT hh x y hO.ok,hO.f0,hO.f1,hO.a⟩,bw,vp,va,Hq,Ha,h1,h2,by dsimp only;rw [mI];rfl⟩
def Dv.doo(σ:Dv):Dv:=if σ.down=true then σ else σ.act (4,0,0)
def Dv.dooE(σ:Dv):Int:=if σ.down=true then 8 else σ.actE
theorem Dv.rdy00(σ:Dv):σ.rdy 0 0=if σ.down=true then 8 else 0:=by
 unfold Dv.rdy
 split
 ·rfl
 ·rw [if_neg];omega
theorem aKN{p:Nat}{σ:Dv}{H:Hp}(hD:gO p σ H):Tri prog 94 [.pointer (some ⟨p,0,none⟩)] H (fun _=>True) (fun v H'=>v=.int .i64 σ.dooE∧gO p σ.doo H'):=by
 have hr:=wF hD 0 0
 have ha:=aDS hD (4,0,0)
 rw [Dv.rdy00] at hr
 refine Tri.mk func94 rfl ntmps94 rfl fun w hw=>?_
 by_cases hd:σ.down=true
 ·rw [if_pos hd] at hr
  repeat' (first|(refine tM ?_;refine zN rfl rfl ?_)|(refine rD ?_;((refine oC _ rfl rfl rfl rfl hr (fun _ _=>trivial) ?_;rintro _ _ ⟨rfl,rfl⟩)))|(refine W.ow ?_;try intro b_)  | refine dP (nY rfl rfl rfl) rfl rfl (fun h_=>?_) (fun h_=>?_)|refine dP (nX rfl rfl rfl) rfl rfl (fun h_=>?_) (fun h_=>?_)|refine dP (nW rfl rfl rfl) rfl rfl (fun h_=>?_) (fun h_=>?_)|refine dP (nV rfl rfl rfl) rfl rfl (fun h_=>?_) (fun h_=>?_)|refine dP (lX rfl rfl rfl) rfl rfl (fun h_=>?_) (fun h_=>?_)|refine dP (nZ rfl rfl rfl) rfl rfl (fun h_=>?_) (fun h_=>?_)|refine jL rfl (fun h_=>?_) (fun h_=>?_))
  rw [aE]
  exact Fin.s1 (.inl rfl) rfl rfl ⟨by simp [Dv.dooE,hd],by simpa [Dv.doo,hd] using hD⟩
 ·rw [if_neg hd] at hr
  repeat' (first|(refine tM ?_;refine zN rfl rfl ?_)|(refine rD ?_;((refine oC _ rfl rfl rfl rfl hr (fun _ _=>trivial) ?_;rintro _ _ ⟨rfl,rfl⟩)))|(refine W.ow ?_;try intro b_)  | refine dP (nY rfl rfl rfl) rfl rfl (fun h_=>?_) (fun h_=>?_)|refine dP (nX rfl rfl rfl) rfl rfl (fun h_=>?_) (fun h_=>?_)|refine dP (nW rfl rfl rfl) rfl rfl (fun h_=>?_) (fun h_=>?_)|refine dP (nV rfl rfl rfl) rfl rfl (fun h_=>?_) (fun h_=>?_)|refine dP (lX rfl rfl rfl) rfl rfl (fun h_=>?_) (fun h_=>?_)|refine dP (nZ rfl rfl rfl) rfl rfl (fun h_=>?_) (fun h_=>?_)|refine jL rfl (fun h_=>?_) (fun h_=>?_))
  refine oC _ rfl rfl rfl rfl ha (fun _ _=>trivial) ?_
  rintro _ _ ⟨rfl,hD2⟩
  refine W.o ?_
  rw [aE]
  exact Fin.s1 (.inl rfl) rfl rfl ⟨by simp [Dv.dooE,hd],by simpa [Dv.doo,hd] using hD2⟩
instance(qs:List UInt8):OC (qs.map bv):=inferInstance
def Wd.zero:Wd:=⟨List.replicate 8 0,List.replicate 8 0,false,false⟩
def Dv.new(n:Int):Dv:=⟨List.replicate (8*min (max n 0) 1024).toNat Wd.zero,false,0,[],[]⟩
theorem Dv.new_ok(n:Int):(Dv.new n).Ok:=⟨by simp [Dv.new];omega,by intro w hw;simp only [Dv.new,List.mem_replicate] at hw;rw [hw.2];exact⟨⟨rfl,rfl⟩,by simp [Wd.zero]⟩,Int.le_refl _,by simp [Dv.new],by simp [Dv.new]⟩
theorem aJF(n:Int):Tri prog 12 [.int .i64 n] [] (fun _=>True) (fun v H'=>∃ p,v=.pointer (some ⟨p,0,none⟩)∧gO p (Dv.new n) H'):=by
 refine Tri.mk func12 rfl ntmps12 rfl fun w hw=>?_
 refine W.o ?_
 refine SL.make (n:=18) (l:=(8*min (max n 0) 1024).toNat) (c:=(8*min (max n 0) 1024).toNat) rfl rfl rfl rfl rfl oQ oQ (by rfl) dQ (Nat.le_refl _) oQ dQ (fun bw=>?_)
 refine W.o fun b_=>?_
 refine Fin.perm (List.Perm.refl _) (Fin.s1 (.inl rfl) rfl rfl ⟨b_,rfl,Dv.new_ok n,bw,_,_,[],[],Sl.nil _ _,Sl.nil _ _,?_⟩)
 have hz:(Dv.new n).ws.length=(8*min (max n 0) 1024).toNat:=by simp [Dv.new]
 have hw:(Dv.new n).ws.flatMap wc=zs (wc Wd.zero) (8*min (max n 0) 1024).toNat:=by simp only [Dv.new,zs,fM,dJ]
 rw [hz,hw]
 rfl
structure Rg where
 c:Int
 root:List UInt8
def rgc(r:Rg):List Value:=.int .u64 r.c::r.root.map bv
instance(r:Rg):OC (rgc r):=by unfold rgc;infer_instance
structure Rg.Ok(r:Rg):Prop where
 len:r.root.length=32
 c0:0≤r.c
 c1:r.c≤18446744073709551615
theorem mY{r:Rg}(h:r.Ok):(rgc r).length=33:=by simp [rgc,h.len]
def fnc(f p:Nat):Value:=.func (.func f) #[.pointer (some ⟨p,0,none⟩)] #[]
def trc(p:Nat)(r:Rg):List Value:=rgc r++[fnc 93 p,fnc 94 p]
theorem xW(p:Nat){r:Rg}(h:r.Ok):((trc p r).drop (0+0)).take 33=rgc r∧(rgc r).length=33∧(trc p r)[0+33]?=some (fnc 93 p)∧(trc p r)[0+34]?=some (fnc 94 p)∧(trc p r)[0+0+0]?=some (.int .u64 r.c)∧(trc p r).length=35:=by
 have hl:=mY h
 refine⟨?_,hl,?_,?_,rfl,by simp [trc,hl]⟩
 ·rw [trc,bN,dG hl]
 ·rw [trc,aO oQ,hl];rfl
 ·rw [trc,aO oQ,hl];rfl
theorem aIo(p:Nat){r r':Rg}(h:r.Ok)(h':r'.Ok):(trc p r).take (0+0)++rgc r'++(trc p r).drop (0+0+33)=trc p r':=by
 rw [trc,dF,List.nil_append,iC (by rw [mY h])];rfl
theorem aAm(tp p:Nat)(r:Rg)(h:r.Ok):Tri prog 110 [.pointer (some ⟨tp,0,none⟩)] [(tp,cl (trc p r) 200)] (fun _=>True) (fun v H=>v=.agg (rgc r).toArray∧H=[(tp,cl (trc p r) 200)]):=by
 obtain⟨f1,f2,f3,f4,f5,f6⟩:=xW p h
 refine Tri.mk func110 rfl ntmps110 rfl fun w hw=>?_
 refine W.o fun b_=>?_
 exact Fin.c1e (.inl rfl) (rgc r) rfl rfl (by simp [rgc,h.len]) (by rw [f2]) ⟨rfl,rfl⟩
theorem aJz(tp p:Nat)(r:Rg)(h:r.Ok):Tri prog 108 [.pointer (some ⟨tp,0,none⟩)] [(tp,cl (trc p r) 200)] (fun _=>True) (fun v H=>v=.bool (decide (r.c=18446744073709551615))∧H=[(tp,cl (trc p r) 200)]):=by
 obtain⟨f1,f2,f3,f4,f5,f6⟩:=xW p h
 refine Tri.mk func108 rfl ntmps108 rfl fun w hw=>?_
 by_cases hc:r.c=18446744073709551615
 ·refine W.o ?_
  exact Fin.s1 (.inl rfl) rfl rfl ⟨by simp [hc],rfl⟩
 ·refine W.o ?_
  exact Fin.s1 (.inl rfl) rfl rfl ⟨by simp [hc],rfl⟩
theorem aLi(p:Nat)(r:Rg)(h:r.Ok):Tri prog 47 [.pointer (some ⟨p,0,none⟩),.agg (rgc r).toArray] [] (fun _=>True) (fun v H=>∃ tp,v=.pointer (some ⟨tp,0,none⟩)∧H=[(tp,cl (trc p r) 200)]):=by
 have hl:=mY h
 have hr:((rgc r).drop 0).take 33=rgc r:=by rw [bN,aG oQ]
 refine Tri.mk func47 rfl ntmps47 rfl fun w hw=>?_
 refine W.o fun b_=>?_
 refine bD (mJ (r:=trc p r) rfl rfl ?_) rfl rfl ?_
 ·refine rF (rgc r++[.nilFunc,.nilFunc]) rfl hl dQ (by rfl) ?_
  refine rF (rgc r++[fnc 93 p,.nilFunc]) rfl rfl (by simp [hl]) (by simp [hl,vl,fnc,gR,fK]) ?_
  refine rF (trc p r) rfl rfl (by simp [hl]) (by simp [hl,vl,fnc,trc,gR,fK,aG,cD]) rfl
 refine W.o fun b_=>?_
 rename_i b1
 exact Fin.rm b1 (Fin.s1 (.inl rfl) rfl rfl ⟨b_,rfl,rfl⟩)
end
def Wd.put(j:Nat)(c:UInt8)(w:Wd):Wd:={ w with now:=w.now.set j c }
theorem Wd.put_ok(j:Nat)(c:UInt8){w:Wd}(h:w.Ok):(w.put j c).Ok:=⟨⟨h.1.1,by simp [Wd.put,h.1.2]⟩,h.2⟩
def qM(f:Nat→UInt8→Wd→Wd)(ws:List Wd)(i:Nat)(c:UInt8):List Wd:=ws.modify (i/8) (f (i%8) c)
def gP(f:Nat→UInt8→Wd→Wd):List Wd→Nat→List UInt8→List Wd
 | ws,_,[]=>ws
 | ws,i,c::t=>gP f (qM f ws i c) (i+1) t
theorem qN(f:Nat→UInt8→Wd→Wd):∀ (l:List UInt8) (ws:List Wd) (i:Nat) (c:UInt8),gP f ws i (l++[c])=qM f (gP f ws i l) (i+l.length) c
 | [],ws,i,c=>rfl
 | x::l,ws,i,c=>by
  show gP f (qM f ws i x) (i+1) (l++[c])=_
  rw [qN f l]
  show qM f (gP f (qM f ws i x) (i+1) l) (i+1+l.length) c=qM f (gP f (qM f ws i x) (i+1) l) (i+(l.length+1)) c
  congr 1;omega
theorem aCH(f:Nat→UInt8→Wd→Wd)(ws:List Wd)(i:Nat)(c:UInt8):(qM f ws i c).length=ws.length:=by simp [qM]
theorem nG(f:Nat→UInt8→Wd→Wd):∀ (l:List UInt8) (ws:List Wd) (i:Nat),(gP f ws i l).length=ws.length
 | [],ws,i=>rfl
 | x::l,ws,i=>by show (gP f (qM f ws i x) (i+1) l).length=_;rw [nG f l,aCH]
theorem aA8{f:Wd→Wd}(hf:∀ w,w.Ok→(f w).Ok){ws:List Wd}(m:Nat)(h:∀ w∈ws,w.Ok):∀ w∈ws.modify m f,w.Ok:=by
 intro w hw
 obtain⟨k,hk⟩:=dI.1 hw
 rw [kP] at hk
 cases hu:ws[k]? with
 | none=>rw [hu] at hk;simp at hk
 | some u=>
  rw [hu] at hk
  have hm:=h u (aQ hu)
  simp only [pJ,Option.map_some,dA] at hk
  rw [← hk]
  split
  ·exact hf u hm
  ·exact hm
theorem yY{f:Nat→UInt8→Wd→Wd}(hf:∀ j c w,w.Ok→(f j c w).Ok):∀ (l:List UInt8) (ws:List Wd) (i:Nat),(∀ w∈ws,w.Ok)→∀ w∈gP f ws i l,w.Ok
 | [],ws,i,h=>h
 | x::l,ws,i,h=>yY hf l _ _ (aA8 (hf _ _) _ h)
theorem aKo{ws:List Wd}(hok:∀ w∈ws,w.Ok){m j:Nat}{u:Wd}(hu:ws[m]?=some u)(hj:j<18):(ws.flatMap wc)[m*18+j]?=(wc u)[j]?:=by
 have hm:m<ws.length:=(aD.1 hu).1
 have hA:((ws.take m).flatMap wc).length=m*18:=by
  rw [pR wc 18 _ (fun w hw=>lM (hok w (eE hw)).1),aI];congr 1;omega
 rw [sS wc ws m u hu]
 exact aBy _ _ _ j _ oQ (by rw [lM (hok u (aQ hu)).1];exact hj)
theorem aKq{ws:List Wd}(hok:∀ w∈ws,w.Ok){m j:Nat}{u u':Wd}{v:Value}(hu:ws[m]?=some u)(hj:j<18)(h:(wc u).set j v=wc u'):(ws.flatMap wc).set (m*18+j) v=(ws.set m u').flatMap wc:=by
 have hm:m<ws.length:=(aD.1 hu).1
 have hA:((ws.take m).flatMap wc).length=m*18:=by
  rw [pR wc 18 _ (fun w hw=>lM (hok w (eE hw)).1),aI];congr 1;omega
 rw [sS wc ws m u hu,aBR _ _ _ j _ v oQ (by rw [lM (hok u (aQ hu)).1];exact hj),h,aDl wc ws m u' hm]
theorem aKp{ws:List Wd}(hok:∀ w∈ws,w.Ok):(ws.flatMap wc).length=ws.length*18:=pR wc 18 _ (fun w hw=>lM (hok w hw).1)
theorem aIq{u:Wd}(h:u.Len){j:Nat}(hj:j<8):(wc u)[8+j]?=u.now[j]?.map bv∧(wc u)[j]?=u.lasts[j]?.map bv:=by
 unfold wc
 have h1:(u.lasts.map bv).length=8:=by simpa using h.1
 have h2:(u.now.map bv).length=8:=by simpa using h.2
 constructor
 ·rw [aO oQ,h1,aK oQ,aL]
  congr 2;omega
 ·rw [aK oQ,aL]
theorem aIr{u:Wd}(h:u.Len){j:Nat}(hj:j<8)(c:UInt8):(wc u).set (8+j) (bv c)=wc (u.put j c)∧(wc u).set j (bv c)=wc { u with lasts:=u.lasts.set j c }:=by
 unfold wc Wd.put
 have h1:(u.lasts.map bv).length=8:=by simpa using h.1
 have h2:(u.now.map bv).length=8:=by simpa using h.2
 constructor
 ·rw [bL _ _ oQ,h1,fG _ _ oQ,gC]
  congr 3;omega
 ·rw [fG _ _ oQ,gC]
theorem vD{ws:List Wd}{m:Nat}{u:Wd}(f:Wd→Wd)(hu:ws[m]?=some u):ws.modify m f=ws.set m (f u):=by
 apply cJ
 intro k
 rw [kP,fD]
 by_cases hk:m=k
 ·subst hk
  obtain⟨hm,rfl⟩:=aD.1 hu
  simp [hm]
 ·simp [hk]
def lQ(ws:List Wd):List UInt8:=ws.flatMap Wd.now
def aAd(ws:List Wd):List UInt8:=ws.flatMap Wd.lasts
theorem fmU{α:Type}(f:Wd→List α){ws:List Wd}(hf:∀ w∈ws,(f w).length=8){m j:Nat}{u:Wd}(hu:ws[m]?=some u)(hj:j<8):(ws.flatMap f)[m*8+j]?=(f u)[j]?:=by
 induction ws generalizing m with
 | nil=>simp at hu
 | cons w t ih=>
  have hw:=hf w (by simp)
  rw [eQ]
  cases m with
  | zero=>simp at hu;subst hu;rw [aK oQ];congr 1;omega
  | succ m=>
   rw [aO oQ,hw]
   have:=ih (fun x hx=>hf x (by simp [hx])) (m:=m) (by simpa using hu)
   rw [← this];congr 1;omega
theorem yW{α:Type}(f:Wd→List α):∀ {ws:List Wd},(∀ w∈ws,(f w).length=8)→(ws.flatMap f).length=8*ws.length
 | [],_=>rfl
 | w::t,h=>by rw [eQ,aB,h w (by simp),yW f (fun x hx=>h x (by simp [hx])),aY];omega
theorem aGn{ws:List Wd}(hok:∀ w∈ws,w.Ok){i:Nat}{u:Wd}(hu:ws[i/8]?=some u):(lQ ws)[i]?=u.now[i%8]?:=by
 have:=fmU Wd.now (fun w hw=>(hok w hw).1.2) hu (Nat.mod_lt i (by decide:0<8))
 rw [← this];unfold lQ;congr 1;omega
theorem tB{ws:List Wd}(hok:∀ w∈ws,w.Ok):(lQ ws).length=8*ws.length:=yW _ fun w hw=>(hok w hw).1.2
def Dv.setWs(σ:Dv)(ws:List Wd):Dv:={ σ with ws:=ws }
def nS(ws:List Wd)(i:Nat)(bs:List UInt8):List Wd:=if bs.length=0 then ws else gV Wd.stored (i/8) ((i+bs.length-1)/8+1) (gP Wd.put ws i bs)
def Dv.store(σ:Dv)(i:Int)(bs:List UInt8):Dv:=if σ.rdy i bs.length=0 then (if σ.actE=0 then (σ.act (1,i,bs.length)).setWs (nS (σ.act (1,i,bs.length)).ws i.toNat bs) else σ.act (1,i,bs.length)) else σ
def Dv.actR(σ:Dv)(i n:Int):Int:=if σ.rdy i n=0 then σ.actE else σ.rdy i n
def jP(ws:List Wd)(i n:Nat):List Wd:=if n=0 then ws else gV Wd.flushed (i/64*8) (((i+n-1)/64+1)*8) ws
def Dv.flush(σ:Dv)(i n:Int):Dv:=if σ.rdy i n=0 then (if σ.actE=0 then (σ.act (2,i,n)).setWs (jP (σ.act (2,i,n)).ws i.toNat n.toNat) else σ.act (2,i,n)) else σ
def Dv.fence(σ:Dv):Dv:=if σ.rdy 0 0=0 then (if σ.actE=0 then (σ.act (3,0,0)).setWs ((σ.act (3,0,0)).ws.map Wd.fenced) else σ.act (3,0,0)) else σ
theorem Dv.setWs_ok{σ:Dv}{ws:List Wd}(h:σ.Ok)(hn:ws.length=σ.ws.length)(hok:∀ w∈ws,w.Ok):(σ.setWs ws).Ok:=⟨by show ws.length≤_;rw [hn];exact h.n,hok,h.f0,h.f1,h.a⟩
theorem aDG(ws:List Wd)(i:Nat)(bs:List UInt8):(nS ws i bs).length=ws.length:=by
 unfold nS
 split
 ·rfl
 ·rw [mI,nG]
theorem aCE(h:Wd→Wd)(ws:List Wd):gV h 0 ws.length ws=ws.map h:=by
 apply cJ
 intro i
 simp only [gV,eU,aL]
 cases hw:ws[i]? with
 | none=>rfl
 | some w=>
  have:=(aD.1 hw).1
  simp only [Option.map_some];rw [if_pos oQ]
theorem aFY(q:List UInt8)(σ:Dv):(σ.crash q).ws.length=σ.ws.length:=by unfold Dv.crash;cases σ.down <;> simp [uX]
theorem nQ(σ:Dv)(a:Int×Int×Int):(σ.act a).ws.length=σ.ws.length:=by
 unfold Dv.act Dv.push
 split
 ·split
  ·rw [aFY]
  ·split <;> rfl
 ·split <;> rfl
theorem oZ{σ:Dv}{x n:Int}(h:σ.rdy x n=0):σ.down=false∧0≤x∧0≤n∧n≤σ.len∧x≤σ.len-n:=by
 unfold Dv.rdy at h
 split at h
 ·cases h
 ·rename_i hd
  split at h
  ·cases h
  ·exact⟨by simpa using hd,by omega,by omega,by omega,by omega⟩
section
attribute [local irreducible] SW SL SQ SH SA SS Pu Fin bU aP
theorem aIm{p:Nat}{σ:Dv}{H:Hp}(hD:gO p σ H)(x:Int)(v:Value)(bs:List UInt8)(hbs:bs.length≤1048576):Tri prog 165 [.pointer (some ⟨p,0,none⟩),.int .i64 x,v] H (fun w=>Rd (H.map Prod.fst) w 1 v (bs.map bv))
  (fun v' H'=>v'=.int .i64 (σ.actR x bs.length)∧gO p (σ.store x bs) H'):=by
 have hr:=wF hD x bs.length
 have ha:=aDS hD (1,x,bs.length)
 refine Tri.mk func165 rfl ntmps165 rfl fun w hw=>?_
 obtain⟨aa,len,cap,rfl,hlen,hcap,hrd⟩:=hw.get
 rw [aJ,Nat.mul_one] at hlen
 subst hlen
 refine W.k ?_
 refine W.cq hr ?_
 by_cases h0:σ.rdy x bs.length=0
 ·obtain⟨hdn,hx0,-,hn,hxn⟩:=oZ h0
  rw [h0]
  refine W.k ?_
  refine aH ha ?_
  rintro _ H1 ⟨rfl,hD1⟩
  by_cases h1:σ.actE=0
  ·rw [h1]
   refine W.j ?_
   have hwl:(σ.act (1,x,bs.length)).ws.length=σ.ws.length:=nQ _ _
   have hres:σ.store x bs=(σ.act (1,x,bs.length)).setWs (nS (σ.act (1,x,bs.length)).ws x.toNat bs):=by unfold Dv.store;rw [if_pos h0,if_pos h1]
   have hresE:σ.actR x bs.length=0:=by unfold Dv.actR;rw [if_pos h0,h1]
   rw [hres,hresE]
   have hlen:σ.len=8*σ.ws.length:=rfl
   generalize σ.act (1,x,bs.length)=τ at hD1 hwl ⊢
   obtain⟨i,rfl⟩:∃ i:Nat,x=i:=⟨x.toNat,by omega⟩
   rw [aX]
   have hN:=hD1.1.n
   obtain⟨hO,bw,vp,va,Hq,Ha,h2,h3,rfl⟩:=hD1
   refine SW.cut [0,1,2] [bw] (fun _:Unit=>[]) (fun _=>[(bw,cl ((gP Wd.put τ.ws i bs).flatMap wc) 146)]) (fun _=>True) ?_ ?_
   ·refine W.k ?_
    refine bX [0,1,2,28,29] [bw] (fun k:Nat=>[(30,.int .i64 k)]) (fun k=>[(bw,cl ((gP Wd.put τ.ws i (bs.take k)).flatMap wc) 146)]) (fun k=>bs.length-k) (fun k=>k≤bs.length) 0 (Nat.zero_le _) ?_
    intro k hk
    have hok:=yY (fun j c w=>Wd.put_ok j c) (bs.take k) τ.ws i hO.ok
    have hml:=nG Wd.put (bs.take k) τ.ws i
    by_cases hkl:k<bs.length
    ·obtain⟨b,o,l,T,fz,rfl,hb,hbk,hys⟩:=hrd oQ
     obtain⟨c,hc⟩:∃ c,bs[k]?=some c:=⟨_,aA hkl⟩
     have hlc:l[o+k]?=some (bv c):=aAF hys (by simp [hc])
     have hm:(i+k)/8<(gP Wd.put τ.ws i (bs.take k)).length:=oQ
     obtain⟨u,hu⟩:∃ u,(gP Wd.put τ.ws i (bs.take k))[(i+k)/8]?=some u:=⟨_,aA hm⟩
     have hj:(i+k)%8<8:=Nat.mod_lt _ dQ
     have hset:=aKq hok (v:=bv c) hu (j:=8+(i+k)%8) oQ (aIr (hok u (aQ hu)).1 hj c).1
     have hlt:(i+k)/8*18+8+(i+k)%8<((gP Wd.put τ.ws i (bs.take k)).flatMap wc).length:=by rw [aKp hok];omega
     refine W.k ?_
     rw [pQ,hset,← vD (Wd.put ((i+k)%8) c) hu]
     have hsn:(gP Wd.put τ.ws i (bs.take k)).modify ((i+k)/8) (Wd.put ((i+k)%8) c)=gP Wd.put τ.ws i (bs.take (k+1)):=by
      rw [bG,hc,dT,qN,aI,cU hk];rfl
     rw [hsn]
     refine aP.mk (k+1) ?_
     omega
    ·have:k=bs.length:=oQ
     subst this
     rw [cK]
     refine W.k ?_
     refine bU.mk () ?_
     trivial
   ·intro _ _
    have hD2:gO p (τ.setWs (gP Wd.put τ.ws i bs)) ((p,cl [.slice (some ⟨bw,0,none⟩) τ.ws.length τ.ws.length,.bool τ.down,.int .i64 τ.fuse,vp,va] 133)::(bw,cl ((gP Wd.put τ.ws i bs).flatMap wc) 146)::(Hq++Ha)):=
     ⟨Dv.setWs_ok hO (nG _ _ _ _) (yY (fun j c w=>Wd.put_ok j c) bs τ.ws i hO.ok),bw,vp,va,Hq,Ha,h2,h3,by simp [Dv.setWs,nG]⟩
    by_cases hz:bs.length=0
    ·refine W.k ?_
     refine Fin.perm (List.Perm.swap _ _ _) (F.f1 ?_)
     have:bs=[]:=cE hz
     subst this
     exact⟨rfl,by simpa [nS,gP] using hD2⟩
    ·have he:=zU aG0 (fun w=>Wd.stored_ok) hD2 (i/8) ((i+bs.length-1)/8+1) oQ (by show _≤(gP Wd.put τ.ws i bs).length;rw [nG];omega)
     refine W.k ?_
     refine dL he ?_ ?_
     ·simp;omega
     rintro _ H3 ⟨rfl,hD3⟩
     refine W.k ?_
     refine F.f1 ?_
     refine⟨rfl,?_⟩
     have:nS τ.ws i bs=gV Wd.stored (i/8) ((i+bs.length-1)/8+1) (gP Wd.put τ.ws i bs):=by unfold nS;rw [if_neg hz]
     rw [this];simp only [aE];exact hD3
  ·refine W.k ?_
   refine F.f1 ?_
   rw [aE]
   have hres:σ.store x bs=σ.act (1,x,bs.length):=by unfold Dv.store;rw [if_pos h0,if_neg h1]
   have hresE:σ.actR x bs.length=σ.actE:=by unfold Dv.actR;rw [if_pos h0]
   rw [hres,hresE];exact⟨rfl,hD1⟩
 ·refine W.k ?_
  refine F.f1 ?_
  rw [aE]
  have hres:σ.store x bs=σ:=by unfold Dv.store;rw [if_neg h0]
  have hresE:σ.actR x bs.length=σ.rdy x bs.length:=by unfold Dv.actR;rw [if_neg h0]
  rw [hres,hresE];exact⟨rfl,hD⟩
theorem aHM{p:Nat}{σ:Dv}{H:Hp}(hD:gO p σ H)(h8:σ.ws.length%8=0)(x n:Int):Tri prog 166 [.pointer (some ⟨p,0,none⟩),.int .i64 x,.int .i64 n] H (fun _=>True)
  (fun v' H'=>v'=.int .i64 (σ.actR x n)∧gO p (σ.flush x n) H'):=by
 have hr:=wF hD x n
 have ha:=aDS hD (2,x,n)
 refine Tri.mk func166 rfl ntmps166 rfl fun w hw=>?_
 refine W.k ?_
 refine W.cq hr ?_
 by_cases h0:σ.rdy x n=0
 ·obtain⟨hdn,hx0,hn0,hn,hxn⟩:=oZ h0
  rw [h0]
  refine W.k ?_
  refine aH ha ?_
  rintro _ H1 ⟨rfl,hD1⟩
  have hwl:(σ.act (2,x,n)).ws.length=σ.ws.length:=nQ _ _
  by_cases h1:σ.actE=0
  ·rw [h1]
   have hres:σ.flush x n=(σ.act (2,x,n)).setWs (jP (σ.act (2,x,n)).ws x.toNat n.toNat):=by unfold Dv.flush;rw [if_pos h0,if_pos h1]
   have hresE:σ.actR x n=0:=by unfold Dv.actR;rw [if_pos h0,h1]
   rw [hres,hresE]
   have hlen:σ.len=8*σ.ws.length:=rfl
   have hN:=hD1.1.n
   generalize σ.act (2,x,n)=τ at hD1 hwl hN ⊢
   obtain⟨i,rfl⟩:∃ i:Nat,x=i:=⟨x.toNat,by omega⟩
   obtain⟨m,rfl⟩:∃ m:Nat,n=m:=⟨n.toNat,by omega⟩
   rw [aX,aX]
   by_cases hz:m=0
   ·refine W.k ?_
    refine F.f1 ?_
    subst hz
    refine⟨rfl,?_⟩
    simp only [aE]
    exact hD1
   ·have he:=zU aEL (fun w=>Wd.flushed_ok) hD1 (i/64*8) (((i+m-1)/64+1)*8) oQ oQ
    refine W.k ?_
    refine dL he ?_ ?_
    ·simp;omega
    rintro _ H3 ⟨rfl,hD3⟩
    refine W.k ?_
    refine F.f1 ?_
    refine⟨rfl,?_⟩
    unfold jP
    rw [if_neg hz]
    simp only [aE];exact hD3
  ·refine W.k ?_
   refine F.f1 ?_
   have hres:σ.flush x n=σ.act (2,x,n):=by unfold Dv.flush;rw [if_pos h0,if_neg h1]
   have hresE:σ.actR x n=σ.actE:=by unfold Dv.actR;rw [if_pos h0]
   rw [hres,hresE];refine⟨rfl,?_⟩;simp only [aE];exact hD1
 ·refine W.k ?_
  refine F.f1 ?_
  have hres:σ.flush x n=σ:=by unfold Dv.flush;rw [if_neg h0]
  have hresE:σ.actR x n=σ.rdy x n:=by unfold Dv.actR;rw [if_neg h0]
  rw [hres,hresE];refine⟨rfl,?_⟩;simp only [aE];exact hD
theorem aDY{p:Nat}{σ:Dv}{H:Hp}(hD:gO p σ H):Tri prog 120 [.pointer (some ⟨p,0,none⟩)] H (fun _=>True)
  (fun v' H'=>v'=.int .i64 (σ.actR 0 0)∧gO p σ.fence H'):=by
 have hr:=wF hD 0 0
 have ha:=aDS hD (3,0,0)
 refine Tri.mk func120 rfl ntmps120 rfl fun w hw=>?_
 refine W.k ?_
 refine W.cq hr ?_
 by_cases h0:σ.rdy 0 0=0
 ·rw [h0]
  refine W.k ?_
  refine aH ha ?_
  rintro _ H1 ⟨rfl,hD1⟩
  by_cases h1:σ.actE=0
  ·rw [h1]
   have hres:σ.fence=(σ.act (3,0,0)).setWs ((σ.act (3,0,0)).ws.map Wd.fenced):=by unfold Dv.fence;rw [if_pos h0,if_pos h1]
   have hresE:σ.actR 0 0=0:=by unfold Dv.actR;rw [if_pos h0,h1]
   rw [hres,hresE]
   generalize σ.act (3,0,0)=τ at hD1 ⊢
   have he:=zU aF3 (fun w=>Wd.fenced_ok) hD1 0 τ.ws.length (Nat.zero_le _) (Nat.le_refl _)
   have hat:∃ bw x1 x2 x3 x4,At H1 p (cl [.slice (some ⟨bw,0,none⟩) τ.ws.length τ.ws.length,x1,x2,x3,x4] 133):=by
    obtain⟨hO,bw,vp,va,Hq,Ha,h2,h3,rfl⟩:=hD1
    exact⟨bw,_,_,_,_,inferInstance⟩
   obtain⟨bw,x1,x2,x3,x4,hat⟩:=hat
   refine W.k ?_
   refine aH he ?_
   rintro _ H3 ⟨rfl,hD3⟩
   refine W.k ?_
   refine F.f1 ?_
   refine⟨rfl,?_⟩
   rw [aCE] at hD3
   simp only [aE];exact hD3
  ·refine W.k ?_
   refine F.f1 ?_
   have hres:σ.fence=σ.act (3,0,0):=by unfold Dv.fence;rw [if_pos h0,if_neg h1]
   have hresE:σ.actR 0 0=σ.actE:=by unfold Dv.actR;rw [if_pos h0]
   rw [hres,hresE];refine⟨rfl,?_⟩;simp only [aE];exact hD1
 ·refine W.k ?_
  refine F.f1 ?_
  have hres:σ.fence=σ:=by unfold Dv.fence;rw [if_neg h0]
  have hresE:σ.actR 0 0=σ.rdy 0 0:=by unfold Dv.actR;rw [if_neg h0]
  rw [hres,hresE];refine⟨rfl,?_⟩;simp only [aE];exact hD
theorem xD(A:List Value)(m:Nat)(z v:Value):(A++List.replicate (m+1) z).set A.length v=A++[v]++List.replicate m z:=by
 rw [bL _ _ (Nat.le_refl _),cZ,eL,fH];simp
def Dv.loadB(σ:Dv)(i n:Int):List UInt8:=if σ.rdy i n=0 then ((lQ σ.ws).drop i.toNat).take n.toNat else []
theorem aGh{p:Nat}{σ:Dv}{H:Hp}(hD:gO p σ H)(x n:Int):Tri prog 38 [.pointer (some ⟨p,0,none⟩),.int .i64 x,.int .i64 n] H (fun _=>True)
  (fun v' H'=>∃ sv Hs,v'=.tuple #[sv,.int .i64 (σ.rdy x n)]∧Sl 5 1 sv ((σ.loadB x n).map bv) Hs∧H'=Hs++H):=by
 have hr:=wF hD x n
 refine Tri.mk func38 rfl ntmps38 rfl fun w hw=>?_
 refine W.k ?_
 refine W.cq hr ?_
 by_cases h0:σ.rdy x n=0
 ·obtain⟨hdn,hx0,hn0,hn,hxn⟩:=oZ h0
  have hb:σ.loadB x n=((lQ σ.ws).drop x.toNat).take n.toNat:=by unfold Dv.loadB;rw [if_pos h0]
  rw [h0,hb]
  have hlen:σ.len=8*σ.ws.length:=rfl
  obtain⟨i,rfl⟩:∃ i:Nat,x=i:=⟨x.toNat,by omega⟩
  obtain⟨m,rfl⟩:∃ m:Nat,n=m:=⟨n.toNat,by omega⟩
  rw [aX,aX]
  have hN:=hD.1.n
  obtain⟨hO,bw,vp,va,Hq,Ha,h2,h3,rfl⟩:=hD
  have hnl:=tB hO.ok
  refine W.k fun b_=>?_
  refine bX [0,1,9,21] [b_] (fun k:Nat=>[(22,.int .i64 k)]) (fun k=>[(b_,cl ((((lQ σ.ws).drop i).take k).map bv++List.replicate (m-k) (.int .u8 0)) 5)]) (fun k=>m-k) (fun k=>k≤m) 0 (Nat.zero_le _) ?_ (by simp [kG])
  intro k hk
  by_cases hkl:k<m
  ·obtain⟨u,hu⟩:∃ u,σ.ws[(i+k)/8]?=some u:=⟨_,aA oQ⟩
   have hj:(i+k)%8<8:=Nat.mod_lt _ dQ
   have hul:=(hO.ok u (aQ hu)).1
   obtain⟨c,hc⟩:∃ c,u.now[(i+k)%8]?=some c:=⟨_,aA (by rw [hul.2];exact hj)⟩
   have hg:(σ.ws.flatMap wc)[(i+k)/8*18+8+(i+k)%8]?=some (bv c):=by
    rw [pQ,aKo hO.ok hu oQ,(aIq hul hj).1,hc];rfl
   have hnb:(lQ σ.ws)[i+k]?=some c:=by rw [aGn hO.ok hu,hc]
   have hAl:((((lQ σ.ws).drop i).take k).map bv).length=k:=by simp;omega
   have hst:k<(((((lQ σ.ws).drop i).take k).map bv)++List.replicate (m-k) (Value.int .u8 0)).length:=by rw [aB,hAl];simp;omega
   refine W.k ?_
   have hf:=xD ((((lQ σ.ws).drop i).take k).map bv) (m-(k+1)) (.int .u8 0) (bv c)
   rw [hAl,show m-(k+1)+1=m-k by omega] at hf
   have hf2:(((lQ σ.ws).drop i).take k).map bv++[bv c]=(((lQ σ.ws).drop i).take (k+1)).map bv:=by
    rw [bG,bA,hnb];simp
   rw [hf,hf2]
   refine aP.mk (k+1) ?_
   omega
  ·have:k=m:=oQ
   subst this
   refine W.k ?_
   refine F.f2 ?_
   refine⟨_,[(b_,cl ((((lQ σ.ws).drop i).take k).map bv) 5)],rfl,  .inr ⟨b_,k,k,[],rfl,by simp;omega,by simp,Nat.le_refl _,by simp⟩,?_⟩
   simp
 ·have hb:σ.loadB x n=[]:=by unfold Dv.loadB;rw [if_neg h0]
  refine W.k ?_
  refine F.f2 ?_
  refine⟨_,[],rfl,?_,by simp⟩
  rw [hb];exact Sl.nil _ _
end
section
attribute [local irreducible] SW SL SQ SH SA Pu Fin
def sD(σ:Dv)(r r':Rg):Dv:=if σ.down=true then σ else if r'.c≤r.c then σ else σ.doo
def pG(σ:Dv)(r r':Rg):Rg:=if σ.down=true then r else if r'.c≤r.c then r else if σ.dooE=0 then r' else r
def sE(σ:Dv)(r r':Rg):Int:=if σ.down=true then 8 else if r'.c≤r.c then 3 else σ.dooE
theorem aIN(tp p:Nat)(r r':Rg)(h:r.Ok)(h':r'.Ok){σ:Dv}{H:Hp}(hD:gO p σ H):Tri prog 121 [.pointer (some ⟨tp,0,none⟩),.agg (rgc r').toArray] ((tp,cl (trc p r) 200)::H) (fun _=>True)
  (fun v H'=>v=.int .i64 (sE σ r r')∧∃ H2,H'=(tp,cl (trc p (pG σ r r')) 200)::H2∧gO p (sD σ r r') H2):=by
 obtain⟨f1,f2,f3,f4,f5,f6⟩:=xW p h
 have hl':=mY h'
 have hr':((rgc r').drop 0).take 33=rgc r':=by rw [bN,aG oQ]
 have fp:=aIo p h h'
 have hdn:=aHS hD
 have hdo:=aKN hD
 have b1:0+0+33≤(trc p r).length:=oQ
 refine Tri.mk func121 rfl ntmps121 rfl fun w hw=>?_
 refine W.o fun b_=>?_
 refine dN H rfl rfl rfl rfl rfl rfl hdn (fun _ _=>trivial) ?_
 rintro _ Hx ⟨rfl,rfl⟩
 cases hd:σ.down
 ·repeat' (first|(refine tM ?_;refine zN rfl rfl ?_)|(refine aAU ?_;refine bD (dW rfl rfl) rfl rfl ?_)|(refine xY ?_;refine bD (nH rfl rfl) rfl rfl ?_)|(refine aCc ?_;refine bD (oA rfl rfl) rfl rfl ?_)|(refine aAR ?_;refine bD (fA rfl rfl rfl) rfl rfl ?_)|(refine aAS ?_;(first|refine bD (gZ rfl rfl rfl) rfl rfl ?_|refine bD (gZ rfl rfl (by assumption)) rfl rfl ?_|refine bD (lA rfl rfl rfl rfl) rfl rfl ?_|refine bD (lA rfl rfl (by assumption) (by assumption)) rfl rfl ?_))|(refine zL ?_;(first|refine bD (lZ rfl rfl) rfl rfl ?_|refine bD (oL rfl rfl) rfl rfl ?_|refine bD (oK rfl rfl) rfl rfl ?_|refine bD (lW rfl rfl) rfl rfl ?_|refine bD (aA9 rfl rfl rfl rfl) rfl rfl ?_|refine bD (aBa rfl rfl rfl rfl) rfl rfl ?_))|(refine aAV ?_;(first|refine bD (qS rfl rfl rfl) rfl rfl ?_|refine bD (qR rfl rfl rfl) rfl rfl ?_))|(refine aAT ?_;refine bD (mT rfl rfl rfl) rfl rfl ?_)|(refine aDO ?_;refine bD (aBb rfl rfl) rfl rfl ?_)|(refine zK ?_;(first|refine bD (mJ rfl rfl (by rfl)) rfl rfl ?_|refine bD (kZ rfl rfl (by rfl)) rfl rfl ?_))|(refine aCb ?_;(first|refine bD (oE rfl rfl rfl) rfl rfl ?_|refine bD (oE rfl rfl (by assumption)) rfl rfl ?_|refine bD (oJ rfl rfl rfl) rfl rfl ?_))|(refine aBY ?_;refine bD (pM rfl rfl rfl (w64 oQ)) rfl rfl ?_)|(refine aB8 ?_;refine bD (aAj rfl rfl rfl (w64 oQ)) rfl rfl ?_)|(refine aB4 ?_;refine bD (iU rfl rfl rfl (w64 oQ)) rfl rfl ?_)|(refine aB6 ?_;refine bD (aBc rfl rfl rfl dQ (w64 oQ)) rfl rfl ?_)|(refine aB7 ?_;refine bD (aAi rfl rfl rfl dQ rfl) rfl rfl ?_)|(refine aB3 ?_;(first|refine bD (Pu.t (nY rfl rfl rfl) oQ) rfl rfl ?_|refine bD (Pu.f (nY rfl rfl rfl) oQ) rfl rfl ?_|refine dP (nY rfl rfl rfl) rfl rfl (fun h_=>?_) (fun h_=>?_)))|(refine aB2 ?_;(first|refine bD (Pu.t (nX rfl rfl rfl) oQ) rfl rfl ?_|refine bD (Pu.f (nX rfl rfl rfl) oQ) rfl rfl ?_|refine dP (nX rfl rfl rfl) rfl rfl (fun h_=>?_) (fun h_=>?_)))|(refine aB1 ?_;(first|refine bD (Pu.t (nW rfl rfl rfl) oQ) rfl rfl ?_|refine bD (Pu.f (nW rfl rfl rfl) oQ) rfl rfl ?_|refine dP (nW rfl rfl rfl) rfl rfl (fun h_=>?_) (fun h_=>?_)))|(refine aB0 ?_;(first|refine bD (Pu.t (nV rfl rfl rfl) oQ) rfl rfl ?_|refine bD (Pu.f (nV rfl rfl rfl) oQ) rfl rfl ?_|refine dP (nV rfl rfl rfl) rfl rfl (fun h_=>?_) (fun h_=>?_)))|(refine aBZ ?_;(first|refine bD (tW rfl rfl rfl) rfl rfl ?_|refine bD (oI rfl rfl rfl) rfl rfl ?_|refine bD (Pu.t (lX rfl rfl rfl) oQ) rfl rfl ?_|refine bD (Pu.f (lX rfl rfl rfl) oQ) rfl rfl ?_|refine dP (lX rfl rfl rfl) rfl rfl (fun h_=>?_) (fun h_=>?_)))|(refine aB5 ?_;(first|refine bD (tX rfl rfl rfl) rfl rfl ?_|refine bD (oM rfl rfl rfl) rfl rfl ?_|refine bD (Pu.t (nZ rfl rfl rfl) oQ) rfl rfl ?_|refine bD (Pu.f (nZ rfl rfl rfl) oQ) rfl rfl ?_|refine dP (nZ rfl rfl rfl) rfl rfl (fun h_=>?_) (fun h_=>?_)))|(refine aCa ?_;(first|refine aC4 rfl rfl rfl rfl (fun b_=>?_)|refine zH rfl rfl rfl rfl (fun b_=>?_)))|(refine zJ ?_;refine SL.alloc rfl rfl rfl (fun b_=>?_))|(refine zM ?_;(first|refine SL.store rfl rfl rfl rfl rfl (by first|assumption|exact eK rfl) ?_|refine uU rfl rfl rfl rfl rfl (by first|assumption|rfl) (by rfl) ?_|refine rE rfl rfl rfl rfl rfl (by first|rfl|assumption) (by first|assumption|exact eK rfl) (by first|assumption|rfl) ?_))|refine gW ?_|refine mQ ?_|refine lE ?_|refine SW.block ?_|refine wX rfl ?_|refine wW rfl ?_|refine aDa ?_|refine aBp ?_|refine aBo ?_|refine jL rfl (fun h_=>?_) (fun h_=>?_)|refine aC8 aKR kQ ?_|(refine SQ.isGd ?_;refine SQ.sk rfl rfl ?_)|(refine aEx ?_;refine fJ (dW rfl rfl) rfl rfl ?_)|(refine aCd ?_;refine fJ (nH rfl rfl) rfl rfl ?_)|(refine aFu ?_;refine fJ (oA rfl rfl) rfl rfl ?_)|(refine aEv ?_;refine fJ (fA rfl rfl rfl) rfl rfl ?_)|(refine aEw ?_;(first|refine fJ (gZ rfl rfl rfl) rfl rfl ?_|refine fJ (gZ rfl rfl (by assumption)) rfl rfl ?_|refine fJ (lA rfl rfl rfl rfl) rfl rfl ?_|refine fJ (lA rfl rfl (by assumption) (by assumption)) rfl rfl ?_))|(refine SQ.isCallB ?_;(first|refine fJ (lZ rfl rfl) rfl rfl ?_|refine fJ (oL rfl rfl) rfl rfl ?_|refine fJ (oK rfl rfl) rfl rfl ?_|refine fJ (lW rfl rfl) rfl rfl ?_|refine fJ (aA9 rfl rfl rfl rfl) rfl rfl ?_|refine fJ (aBa rfl rfl rfl rfl) rfl rfl ?_))|(refine SQ.isPick ?_;(first|refine fJ (qS rfl rfl rfl) rfl rfl ?_|refine fJ (qR rfl rfl rfl) rfl rfl ?_))|(refine SQ.isMkFn ?_;refine fJ (mT rfl rfl rfl) rfl rfl ?_)|(refine SQ.isUn ?_;refine fJ (aBb rfl rfl) rfl rfl ?_)|(refine SQ.isBuild ?_;(first|refine fJ (mJ rfl rfl (by rfl)) rfl rfl ?_|refine fJ (kZ rfl rfl (by rfl)) rfl rfl ?_))|(refine SQ.isFld ?_;(first|refine fJ (oE rfl rfl rfl) rfl rfl ?_|refine fJ (oE rfl rfl (by assumption)) rfl rfl ?_|refine fJ (oJ rfl rfl rfl) rfl rfl ?_))|(refine SQ.b_add ?_;refine fJ (pM rfl rfl rfl (w64 oQ)) rfl rfl ?_)|(refine SQ.b_sub ?_;refine fJ (aAj rfl rfl rfl (w64 oQ)) rfl rfl ?_)|(refine SQ.b_mul ?_;refine fJ (iU rfl rfl rfl (w64 oQ)) rfl rfl ?_)|(refine SQ.b_quo ?_;refine fJ (aBc rfl rfl rfl dQ (w64 oQ)) rfl rfl ?_)|(refine SQ.b_rem ?_;refine fJ (aAi rfl rfl rfl dQ rfl) rfl rfl ?_)|(refine SQ.b_lss ?_;(first|refine fJ (Pu.t (nY rfl rfl rfl) oQ) rfl rfl ?_|refine fJ (Pu.f (nY rfl rfl rfl) oQ) rfl rfl ?_|refine wV (nY rfl rfl rfl) rfl rfl (fun h_=>?_) (fun h_=>?_)))|(refine aFt ?_;(first|refine fJ (Pu.t (nX rfl rfl rfl) oQ) rfl rfl ?_|refine fJ (Pu.f (nX rfl rfl rfl) oQ) rfl rfl ?_|refine wV (nX rfl rfl rfl) rfl rfl (fun h_=>?_) (fun h_=>?_)))|(refine SQ.b_gtr ?_;(first|refine fJ (Pu.t (nW rfl rfl rfl) oQ) rfl rfl ?_|refine fJ (Pu.f (nW rfl rfl rfl) oQ) rfl rfl ?_|refine wV (nW rfl rfl rfl) rfl rfl (fun h_=>?_) (fun h_=>?_)))|(refine SQ.b_geq ?_;(first|refine fJ (Pu.t (nV rfl rfl rfl) oQ) rfl rfl ?_|refine fJ (Pu.f (nV rfl rfl rfl) oQ) rfl rfl ?_|refine wV (nV rfl rfl rfl) rfl rfl (fun h_=>?_) (fun h_=>?_)))|(refine SQ.b_eql ?_;(first|refine fJ (tW rfl rfl rfl) rfl rfl ?_|refine fJ (oI rfl rfl rfl) rfl rfl ?_|refine fJ (Pu.t (lX rfl rfl rfl) oQ) rfl rfl ?_|refine fJ (Pu.f (lX rfl rfl rfl) oQ) rfl rfl ?_|refine wV (lX rfl rfl rfl) rfl rfl (fun h_=>?_) (fun h_=>?_)))|(refine SQ.b_neq ?_;(first|refine fJ (tX rfl rfl rfl) rfl rfl ?_|refine fJ (oM rfl rfl rfl) rfl rfl ?_|refine fJ (Pu.t (nZ rfl rfl rfl) oQ) rfl rfl ?_|refine fJ (Pu.f (nZ rfl rfl rfl) oQ) rfl rfl ?_|refine wV (nZ rfl rfl rfl) rfl rfl (fun h_=>?_) (fun h_=>?_)))|refine aI0 ?_)
  ·exact Fin.rm b_ (Fin.perm bT (Fin.s1 (.inl rfl) rfl rfl ⟨by simp [sE,hd,h_],Hx,by simp [pG,hd,h_],by simpa [sD,hd,h_] using hD⟩))
  ·refine W.o ?_
   refine dN Hx rfl rfl rfl rfl rfl rfl hdo (fun _ _=>trivial) ?_
   rintro _ H2 ⟨rfl,hD2⟩
   have hD3:gO p (sD σ r r') H2:=by simpa [sD,hd,h_] using hD2
   by_cases he:σ.dooE=0
   ·refine W.o ?_
    refine Fin.rm b_ (Fin.perm bT (Fin.s1 (.inl rfl) rfl rfl ⟨by simp [sE,hd,h_,he],H2,by simp [pG,hd,h_,he],hD3⟩))
   ·refine W.o ?_
    refine Fin.rm b_ (Fin.perm bT (Fin.s1 (.inl rfl) rfl rfl ⟨by simp [sE,hd,h_],H2,by simp [pG,hd,h_,he],hD3⟩))
 ·refine W.o ?_
  exact Fin.rm b_ (Fin.perm bT (Fin.s1 (.inl rfl) rfl rfl ⟨by simp [sE,hd],Hx,by simp [pG,hd],by simpa [sD,hd] using hD⟩))
end
section
attribute [local irreducible] SW SL SQ SH SA SS Pu Fin bU aP
end
theorem aAD(σ:Dv)(x:Int)(bs:List UInt8):(σ.store x bs).ws.length=σ.ws.length:=by
 unfold Dv.store
 split
 ·split
  ·show (nS _ _ _).length=_
   rw [aDG,nQ]
  ·exact nQ _ _
 ·rfl
theorem aCw(σ:Dv)(x n:Int):(σ.flush x n).ws.length=σ.ws.length:=by
 unfold Dv.flush
 split
 ·split
  ·show (jP _ _ _).length=_
   unfold jP
   split
   ·exact nQ _ _
   ·rw [mI,nQ]
  ·exact nQ _ _
 ·rfl
theorem sQ(σ:Dv):σ.fence.ws.length=σ.ws.length:=by
 unfold Dv.fence
 split
 ·split
  ·show (List.map _ _).length=_
   rw [aJ,nQ]
  ·exact nQ _ _
 ·rfl
theorem aJk(σ:Dv):σ.doo.ws.length=σ.ws.length:=by
 unfold Dv.doo
 split
 ·rfl
 ·exact nQ _ _
end Go.Proofs.YtmceanmblcadcaaGreat
