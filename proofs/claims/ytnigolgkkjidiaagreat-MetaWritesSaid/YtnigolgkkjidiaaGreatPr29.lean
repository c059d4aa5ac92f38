/- The memory that lasts: its model, and words. The memory that lasts: the program's small methods. The memory that lasts: the power goes. The memory that lasts: an act. The memory that lasts: Do, Flush, Fence, Arm, New, Acts. The memory that lasts: Arm, New, Acts. A register beside a device. The memory that lasts, byte by byte: what is stored, and read (no program in sight but the cells). The memory that lasts: Store, Flush, Fence. The memory that lasts: Flush, Fence, Load. -/
import Derived.Test.YtnigolgkkjidiaaGreatPr0
import Derived.Test.YtnigolgkkjidiaaGreatPr1
import Derived.Test.YtnigolgkkjidiaaGreatPr2
import Derived.Test.YtnigolgkkjidiaaGreatPr4
import Derived.Test.YtnigolgkkjidiaaGreatPr17
import Derived.Test.YtnigolgkkjidiaaGreatPr26
set_option linter.unusedVariables false
set_option linter.unusedSimpArgs false
set_option linter.unusedSectionVars false
set_option maxHeartbeats 1600000
namespace Go.Proofs.YtnigolgkkjidiaaGreat
open Go Go.Proofs.Tryz
section
attribute [local irreducible] SW SL SQ SH SA Pu Fin
structure Wd where
 lasts:List UInt8
 now:List UInt8
 pend:Bool
 mark:Bool
structure Dv where
 ws:List Wd
 down:Bool
 fuse:Int
 picks:List UInt8
 acts:List (Int×Int×Int)
def bv(b:UInt8):Value:=.int .u8 (b.toNat:Int)
instance(b:UInt8):One (bv b):=⟨rfl⟩
def wc(w:Wd):List Value:=w.lasts.map bv++(w.now.map bv++[.bool w.pend,.bool w.mark])
def ac(a:Int×Int×Int):List Value:=[.int .i64 a.1,.int .i64 a.2.1,.int .i64 a.2.2]
instance(a:Int×Int×Int):OC (ac a):=by unfold ac;infer_instance
def Wd.Len(w:Wd):Prop:=w.lasts.length=8∧w.now.length=8
def Wd.Ok(w:Wd):Prop:=w.Len∧(w.mark=true→w.pend=true)
theorem nH{w:Wd}(h:w.Len):(wc w).length=18:=by simp [wc,h.1,h.2]
structure Dv.Ok(σ:Dv):Prop where
 n:σ.ws.length≤8192
 ok:∀ w∈σ.ws,w.Ok
 f0:0≤σ.fuse
 f1:σ.fuse≤9223372036854775807
 a:σ.acts.length≤16384
def iQ(p:Nat)(σ:Dv)(H:Hp):Prop:=
 σ.Ok∧∃ bw vp va Hq Ha,Sl 5 1 vp (σ.picks.map bv) Hq∧Sl 166 3 va (σ.acts.flatMap ac) Ha ∧
  H=(p,cl [.slice (some ⟨bw,0,none⟩) σ.ws.length σ.ws.length,.bool σ.down,.int .i64 σ.fuse,vp,va] 152)::(bw,cl (σ.ws.flatMap wc) 271)::(Hq++Ha)
theorem Sl.one{e n:Nat}{v:Value}{xs:List Value}{H:Hp}(h:Sl e n v xs H):One v:=by
 rcases h with ⟨rfl,_,_⟩|⟨b,len,cap,junk,rfl,_⟩ <;> exact⟨rfl⟩
def Wd.stored(w:Wd):Wd:={ w with pend:=true,mark:=false }
def Wd.flushed(w:Wd):Wd:={ w with mark:=w.pend }
def Wd.fenced(w:Wd):Wd:=bif w.mark then { lasts:=w.now,now:=w.now,pend:=false,mark:=false } else w
theorem Wd.stored_ok{w:Wd}(h:w.Ok):w.stored.Ok:=⟨h.1,by simp [Wd.stored]⟩
theorem Wd.flushed_ok{w:Wd}(h:w.Ok):w.flushed.Ok:=⟨h.1,by simp [Wd.flushed]⟩
theorem Wd.fenced_ok{w:Wd}(h:w.Ok):w.fenced.Ok:=by
 unfold Wd.fenced
 cases hm:w.mark
 ·exact h
 ·exact⟨⟨h.1.2,h.1.2⟩,by simp⟩
def aBC(g:FuncId)(h:Wd→Wd):Prop:=∀ (b:Nat) (A B:List Value) (u:Wd),u.Ok →
 Tri prog g [.pointer (some ⟨b,A.length,none⟩)] [(b,cl (A++(wc u++B)) 271)] (fun _=>True) (fun v H'=>v=.tuple #[]∧H'=[(b,cl (A++(wc (h u)++B)) 271)])
theorem aGo(A B:List Value){u:Wd}(h:u.Len):(A++(wc u++B))[A.length+16]?=some (.bool u.pend)∧(A++(wc u++B))[A.length+17]?=some (.bool u.mark):=by
 constructor
 ·rw [aDH A _ B 16 _ rfl (by rw [nH h];omega)];simp [wc,List.getElem?_append,h.1,h.2]
 ·rw [aDH A _ B 17 _ rfl (by rw [nH h];omega)];simp [wc,List.getElem?_append,h.1,h.2]
theorem yW(A B:List Value){u:Wd}(h:u.Len)(p:Bool):(A++(wc u++B)).set (A.length+16) (.bool p)=A++(wc { u with pend:=p }++B)∧(A++(wc u++B)).set (A.length+17) (.bool p)=A++(wc { u with mark:=p }++B):=by
 constructor
 ·rw [aEg A _ B 16 _ _ rfl (by rw [nH h];omega)];simp [wc,List.set_append,h.1,h.2]
 ·rw [aEg A _ B 17 _ _ rfl (by rw [nH h];omega)];simp [wc,List.set_append,h.1,h.2]
theorem aGp(A B:List Value){u:Wd}(h:u.Len):((A++(wc u++B)).drop (A.length+8)).take 8=u.now.map bv∧((A++(wc u++B)).drop (A.length+0)).take 8=u.lasts.map bv:=by
 constructor
 ·rw [aFy A _ B 8 8 _ rfl (by rw [nH h];omega)]
  simp [wc,eZ,h.1,h.2,cY,aB]
 ·rw [aFy A _ B 0 8 _ rfl (by rw [nH h];omega)]
  simp [wc,h.1,h.2,aB]
theorem aGq(A B:List Value){u:Wd}(h:u.Len)(r:List UInt8)(hr:r.length=8) :
  (A++(wc u++B)).take (A.length+0)++r.map bv++(A++(wc u++B)).drop (A.length+0+8)=A++(wc { u with lasts:=r }++B) ∧
  (A++(wc u++B)).take (A.length+8)++r.map bv++(A++(wc u++B)).drop (A.length+8+8)=A++(wc { u with now:=r }++B):=by
 have hl:(r.map bv).length=8:=by simpa using hr
 constructor
 ·have:=aCq A (wc u) B (r.map bv) 0 (A.length+0) rfl (by rw [nH h,hl];omega)
  rw [hl] at this
  rw [this]
  simp [wc,h.1,h.2,eZ,cY]
 ·have:=aCq A (wc u) B (r.map bv) 8 (A.length+8) rfl (by rw [nH h,hl];omega)
  rw [hl] at this
  rw [this]
  simp [wc,h.1,h.2,jA,eZ,cY,aB]
theorem aBU(A B:List Value){u:Wd}(h:u.Len):(A++(wc u++B)).length=A.length+(18+B.length):=by simp [nH h]
theorem aKi:aBC 275 Wd.stored:=fun b A B u hu=>by
 have hl:=aBU A B hu.1
 have h16:A.length+16<(A++(wc u++B)).length:=by rw [hl];omega
 have h17:A.length+17<((A++(wc u++B)).set (A.length+16) (.bool true)).length:=by rw [cP,hl];omega
 refine Tri.mk func275 rfl ntmps275 rfl fun w hw=>?_
 refine W.o ?_
 refine Fin.s0 (.inr rfl) rfl ⟨rfl,?_⟩
 rw [(yW A B hu.1 true).1,(yW A B (u:={ u with pend:=true }) hu.1 false).2]
 rfl
theorem aHD:aBC 276 Wd.flushed:=fun b A B u hu=>by
 have hl:=aBU A B hu.1
 have h17:A.length+17<(A++(wc u++B)).length:=by rw [hl];omega
 have g16:=(aGo A B hu.1).1
 refine Tri.mk func276 rfl ntmps276 rfl fun w hw=>?_
 refine W.o ?_
 refine Fin.s0 (.inr rfl) rfl ⟨rfl,?_⟩
 rw [(yW A B hu.1 _).2]
 rfl
theorem aIW:aBC 188 Wd.fenced:=fun b A B u hu=>by
 have hl:=aBU A B hu.1
 have g17:=(aGo A B hu.1).2
 have gn:=(aGp A B hu.1).1
 have hn:(u.now.map bv).length=8:=by simpa using hu.1.2
 have h0:A.length+0+8≤(A++(wc u++B)).length:=by rw [hl];omega
 have gp:=(aGq A B hu.1 u.now hu.1.2).1
 have hu2:({ u with lasts:=u.now }:Wd).Len:=⟨hu.1.2,hu.1.2⟩
 have hl2:=aBU A B hu2
 have h16:A.length+16<(A++(wc { u with lasts:=u.now }++B)).length:=by rw [hl2];omega
 have h17:A.length+17<((A++(wc { u with lasts:=u.now }++B)).set (A.length+16) (.bool false)).length:=by rw [cP,hl2];omega
 refine Tri.mk func188 rfl ntmps188 rfl fun w hw=>?_
 refine W.o ?_
 refine lC rfl (fun hm=>?_) (fun hm=>?_)
 ·refine W.o ?_
  refine Fin.s0 (.inr rfl) rfl ⟨rfl,?_⟩
  rw [(yW A B hu2 false).1]
  rw [(yW A B (u:={ u with lasts:=u.now,pend:=false }) hu2 false).2]
  simp [Wd.fenced,hm]
 ·refine W.o ?_
  refine Fin.s0 (.inr rfl) rfl ⟨rfl,?_⟩
  simp [Wd.fenced,hm]
theorem aLi{p:Nat}{σ:Dv}{H:Hp}(hD:iQ p σ H):Tri prog 107 [.pointer (some ⟨p,0,none⟩)] H (fun _=>True) (fun v H'=>v=.bool σ.down∧H'=H):=by
 obtain⟨hO,bw,vp,va,Hq,Ha,h1,h2,rfl⟩:=hD
 refine Tri.mk func107 rfl ntmps107 rfl fun w hw=>?_
 refine W.o ?_
 exact Fin.s1 (.inl rfl) rfl rfl ⟨rfl,rfl⟩
def Dv.len(σ:Dv):Nat:=8*σ.ws.length
theorem aJg{p:Nat}{σ:Dv}{H:Hp}(hD:iQ p σ H):Tri prog 14 [.pointer (some ⟨p,0,none⟩)] H (fun _=>True) (fun v H'=>v=.int .i64 σ.len∧H'=H):=by
 obtain⟨hO,bw,vp,va,Hq,Ha,h1,h2,rfl⟩:=hD
 have hn:=hO.n
 refine Tri.mk func14 rfl ntmps14 rfl fun w hw=>?_
 refine W.o ?_
 exact Fin.s1 (.inl rfl) rfl rfl ⟨by simp [Dv.len],rfl⟩
def Dv.rdy(σ:Dv)(x n:Int):Int:=if σ.down=true then 8 else if x<0∨n<0∨(σ.len:Int)<n∨(σ.len:Int)-n<x then 3 else 0
theorem zY{p:Nat}{σ:Dv}{H:Hp}(hD:iQ p σ H)(x n:Int):Tri prog 140 [.pointer (some ⟨p,0,none⟩),.int .i64 x,.int .i64 n] H (fun _=>True) (fun v H'=>v=.int .i64 (σ.rdy x n)∧H'=H):=by
 have hlen:=aJg hD
 obtain⟨hO,bw,vp,va,Hq,Ha,h1,h2,hH⟩:=hD
 have hn:σ.len≤65536:=by have:=hO.n;simp only [Dv.len];omega
 subst hH
 refine Tri.mk func140 rfl ntmps140 rfl fun w hw=>?_
 repeat' (first|(refine wQ ?_;refine aBy rfl rfl ?_)|(refine uB ?_;((refine qK _ rfl rfl rfl rfl hlen (fun _ _=>trivial) ?_;rintro _ _ ⟨rfl,rfl⟩)))|(refine W.ow ?_;try intro b_)  | refine eL (qE rfl rfl rfl) rfl rfl (fun h_=>?_) (fun h_=>?_)|refine eL (qD rfl rfl rfl) rfl rfl (fun h_=>?_) (fun h_=>?_)|refine eL (qC rfl rfl rfl) rfl rfl (fun h_=>?_) (fun h_=>?_)|refine eL (qB rfl rfl rfl) rfl rfl (fun h_=>?_) (fun h_=>?_)|refine eL (nX rfl rfl rfl) rfl rfl (fun h_=>?_) (fun h_=>?_)|refine eL (qF rfl rfl rfl) rfl rfl (fun h_=>?_) (fun h_=>?_)|refine lC rfl (fun h_=>?_) (fun h_=>?_))
 all_goals (refine Fin.r1 (.inl rfl) rfl rfl _ ⟨?_,rfl⟩;unfold Dv.rdy;congr 1)
 all_goals (repeat' split)
 all_goals first|rfl|(exfalso;simp_all;done)|(exfalso;omega)
def jD(h:Wd→Wd)(x y:Nat)(ws:List Wd):List Wd:=ws.mapIdx fun i w=>if x≤i∧i<y then h w else w
theorem qR(h:Wd→Wd)(x:Nat)(ws:List Wd):jD h x x ws=ws:=by
 apply cM
 intro i
 simp only [jD,fM]
 cases ws[i]? with
 | none=>rfl
 | some w=>simp only [Option.map_some];rw [if_neg om]
theorem aC8(h:Wd→Wd)(x y:Nat)(ws:List Wd)(w:Wd)(hxy:x≤y)(hw:ws[y]?=some w):(jD h x y ws)[y]?=some w∧(jD h x y ws).set y (h w)=jD h x (y+1) ws:=by
 constructor
 ·simp only [jD,fM,hw,Option.map_some];rw [if_neg om]
 ·apply cM
  intro i
  simp only [jD,fW,List.length_mapIdx,fM]
  by_cases hi:y=i
  ·subst hi
   have hlt:y<ws.length:=(aG.1 hw).1
   simp only [hlt,if_true,hw,Option.map_some]
   rw [if_pos om]
  ·rw [if_neg hi]
   cases ws[i]? with
   | none=>rfl
   | some u=>
    simp only [Option.map_some,dQ]
    by_cases h1:x≤i∧i<y
    ·rw [if_pos h1,if_pos om]
    ·rw [if_neg h1,if_neg om]
theorem oI(h:Wd→Wd)(x y:Nat)(ws:List Wd):(jD h x y ws).length=ws.length:=by simp [jD]
theorem wV{h:Wd→Wd}(hh:∀ w,w.Ok→(h w).Ok)(x y:Nat){ws:List Wd}(hw:∀ w∈ws,w.Ok):∀ w∈jD h x y ws,w.Ok:=by
 intro w hm
 obtain⟨i,hi⟩:=eE.1 hm
 simp only [jD,fM] at hi
 cases hu:ws[i]? with
 | none=>rw [hu] at hi;simp at hi
 | some u=>
  rw [hu] at hi
  simp only [Option.map_some,dQ] at hi
  have hm:u∈ws:=aP hu
  rw [← hi]
  split
  ·exact hh u (hw u hm)
  ·exact hw u hm
theorem aMX{g:FuncId} [aZ prog g]{h:Wd→Wd}(hg:aBC g h)(hh:∀ w,w.Ok→(h w).Ok)(p bw n:Nat)(x1 x2 x3 x4:Value)(ws:List Wd)(hn:ws.length=n)(hn2:n≤8192)(hok:∀ w∈ws,w.Ok)(x y:Nat)(hxy:x≤y)(hy:y≤n) :
  Tri prog 187 [.pointer (some ⟨p,0,none⟩),.int .i64 x,.int .i64 y,.func (.func g) #[] #[]] [(p,cl [.slice (some ⟨bw,0,none⟩) n n,x1,x2,x3,x4] 152),(bw,cl (ws.flatMap wc) 271)] (fun _=>True)
   (fun v H'=>v=.tuple #[]∧H'=[(p,cl [.slice (some ⟨bw,0,none⟩) n n,x1,x2,x3,x4] 152),(bw,cl ((jD h x y ws).flatMap wc) 271)]):=by
 refine Tri.mk func187 rfl ntmps187 rfl fun w hw=>?_
 repeat' (first|(refine W.ow ?_;try intro b_)  | refine eL (qE rfl rfl rfl) rfl rfl (fun h_=>?_) (fun h_=>?_)|refine eL (qD rfl rfl rfl) rfl rfl (fun h_=>?_) (fun h_=>?_)|refine eL (qC rfl rfl rfl) rfl rfl (fun h_=>?_) (fun h_=>?_)|refine eL (qB rfl rfl rfl) rfl rfl (fun h_=>?_) (fun h_=>?_)|refine eL (nX rfl rfl rfl) rfl rfl (fun h_=>?_) (fun h_=>?_)|refine eL (qF rfl rfl rfl) rfl rfl (fun h_=>?_) (fun h_=>?_)|refine lC rfl (fun h_=>?_) (fun h_=>?_))
 refine zF (fun k:Nat=>[(0,.pointer (some ⟨p,0,none⟩)),(2,.int .i64 y),(3,.func (.func g) #[] #[]),(8,.int .i64 k)])
  (fun k=>[(p,cl [.slice (some ⟨bw,0,none⟩) n n,x1,x2,x3,x4] 152),(bw,cl ((jD h x k ws).flatMap wc) 271)])
  (fun k=>y-k) (fun k=>x≤k∧k≤y) x ⟨rfl,rfl,rfl,rfl,trivial⟩ (by rw [qR];infer_instance) ⟨Nat.le_refl _,hxy⟩ ?_
 rintro k ⟨hk1,hk2⟩
 repeat' (first|(refine W.ow ?_;try intro b_)  | refine eL (qE rfl rfl rfl) rfl rfl (fun h_=>?_) (fun h_=>?_)|refine eL (qD rfl rfl rfl) rfl rfl (fun h_=>?_) (fun h_=>?_)|refine eL (qC rfl rfl rfl) rfl rfl (fun h_=>?_) (fun h_=>?_)|refine eL (qB rfl rfl rfl) rfl rfl (fun h_=>?_) (fun h_=>?_)|refine eL (nX rfl rfl rfl) rfl rfl (fun h_=>?_) (fun h_=>?_)|refine eL (qF rfl rfl rfl) rfl rfl (fun h_=>?_) (fun h_=>?_)|refine lC rfl (fun h_=>?_) (fun h_=>?_))
 ·have hlt:k<ws.length:=om
  obtain⟨u,hu⟩:∃ u,ws[k]?=some u:=⟨_,aA hlt⟩
  obtain⟨h1,h2⟩:=aC8 h x k ws u hk1 hu
  have hok2:=wV hh x k hok
  have hl2:(jD h x k ws).length=n:=by rw [oI,hn]
  have hwl:∀ w∈jD h x k ws,(wc w).length=18:=fun w hw=>nH (hok2 w hw).1
  rw [vT wc _ k u h1]
  have hA:(((jD h x k ws).take k).flatMap wc).length=k*18:=by rw [sM wc 18 _ (fun w hw=>hwl w (cX hw)),aD];congr 1;omega
  have hf:=hg bw (((jD h x k ws).take k).flatMap wc) (((jD h x k ws).drop (k+1)).flatMap wc) u (hok2 _ (aP h1))
  rw [hA] at hf
  refine W.o ?_
  refine bJ (gL rfl rfl rfl om om (j':=k*18) om) rfl rfl ?_
  refine dH [(bw,_)] rfl rfl rfl rfl rfl rfl hf (fun _ _=>trivial) ?_
  rintro _ _ ⟨rfl,rfl⟩
  rw [← aFT wc _ k _ om,h2]
  refine W.o ?_
  refine rV.mk (k+1) om ⟨rfl,rfl,rfl,rfl,trivial⟩ inferInstance ⟨by omega,by omega⟩
 ·refine Fin.s0 (.inr rfl) rfl ⟨rfl,?_⟩
  have:k=y:=om
  rw [this]
def yE(q:List UInt8)(j:Nat):Bool:=match q[j%q.length]? with
 | some b=>(b &&& 1) == 1
 | none=>false
def Wd.crash(b:Bool)(w:Wd):Wd:=⟨bif b then w.now else w.lasts,bif b then w.now else w.lasts,false,false⟩
def kI(q:List UInt8):Nat→List Wd→List Wd
 | _,[]=>[]
 | j,w::t=>bif w.pend then w.crash (yE q j)::kI q (j+1) t else w::kI q j t
def Dv.crash(q:List UInt8)(σ:Dv):Dv:=bif σ.down then σ else { σ with ws:=kI q 0 σ.ws,down:=true,fuse:=0 }
theorem yG(q:List UInt8):∀ (j:Nat) (l:List Wd),(kI q j l).length=l.length
 | _,[]=>rfl
 | j,w::t=>by unfold kI;cases w.pend <;> simp [yG q _ t]
theorem Wd.crash_ok{w:Wd}(b:Bool)(h:w.Ok):(w.crash b).Ok:=by
 cases b
 ·exact⟨⟨h.1.1,h.1.1⟩,by simp [Wd.crash]⟩
 ·exact⟨⟨h.1.2,h.1.2⟩,by simp [Wd.crash]⟩
theorem aAt(q:List UInt8):∀ (j:Nat) (l:List Wd),(∀ w∈l,w.Ok)→∀ w∈kI q j l,w.Ok
 | _,[],_=>by simp [kI]
 | j,w::t,h=>by
  unfold kI
  have ht:∀ w∈t,w.Ok:=fun x hx=>h x (by simp [hx])
  cases w.pend
  ·intro x hx
   simp only [cond_false,cT] at hx
   rcases hx with rfl|hx
   ·exact h x (by simp)
   ·exact aAt q _ t ht x hx
  ·intro x hx
   simp only [cond_true,cT] at hx
   rcases hx with rfl|hx
   ·exact Wd.crash_ok _ (h w (by simp))
   ·exact aAt q _ t ht x hx
theorem Dv.crash_ok{σ:Dv}(q:List UInt8)(h:σ.Ok):(σ.crash q).Ok:=by
 unfold Dv.crash
 cases σ.down
 ·exact⟨by simp only [cond_false];rw [yG];exact h.n,aAt q 0 _ h.ok,Int.le_refl _,by simp,h.a⟩
 ·exact h
theorem aEH(b:UInt8):(IntKind.u8.wrap (((BitVec.ofInt IntKind.u8.bits ((b.toNat:Nat):Int)) &&& (BitVec.ofInt IntKind.u8.bits 1)).toNat)=1)↔((b &&& 1) == 1)=true:=by
 have hp:(0:Nat)<2^8:=by decide
 have h1:((b &&& 1) == 1)=true↔b.toNat%2=1:=by
  rw [beq_iff_eq,← fA,UInt8.toNat_and,UInt8.toNat_one,rA]
 rw [h1]
 have h2:(((BitVec.ofInt IntKind.u8.bits ((b.toNat:Nat):Int)) &&& (BitVec.ofInt IntKind.u8.bits 1)).toNat)=b.toNat%2:=by
  have e1:BitVec.ofInt IntKind.u8.bits ((b.toNat:Nat):Int)=b.toBitVec:=by
   apply mA;rw [jV];have:=b.toNat_lt;show ((b.toNat:Int)%(256:Int)).toNat=b.toNat;omega
  have e2:BitVec.ofInt IntKind.u8.bits 1=(1:BitVec 8):=rfl
  rw [e1,e2]
  show (b.toBitVec &&& (1:BitVec 8)).toNat=_
  rw [lA]
  exact rA _
 rw [h2]
 have h3:IntKind.u8.wrap ((b.toNat%2:Nat):Int)=((b.toNat%2:Nat):Int):=by
  show (((b.toNat%2:Nat):Int)%256)=_
  omega
 rw [h3];omega
def hdr(bw n:Nat)(d:Bool)(f:Int)(vp va:Value):Obj:=cl [.slice (some ⟨bw,0,none⟩) n n,.bool d,.int .i64 f,vp,va] 152
theorem aFP{p bw:Nat}{σ:Dv}(hO:σ.Ok)(vp va q:Value)(qs:List UInt8) :
  Tri prog 223 [.pointer (some ⟨p,0,none⟩),q] [(p,hdr bw σ.ws.length σ.down σ.fuse vp va),(bw,cl (σ.ws.flatMap wc) 271)] (fun w=>Rd [p,bw] w 1 q (qs.map bv))
   (fun v H'=>v=.tuple #[]∧H'=[(p,hdr bw (σ.crash qs).ws.length (σ.crash qs).down (σ.crash qs).fuse vp va),(bw,cl ((σ.crash qs).ws.flatMap wc) 271)]):=by
 unfold hdr
 obtain⟨ws,dn,fu,pk,ak⟩:=σ
 have hn:=hO.n
 have hok:=hO.ok
 simp only at hn hok
 refine Tri.mk func223 rfl ntmps223 rfl fun w hw=>?_
 obtain⟨a,len,cap,rfl,hlen,hcap,hrd⟩:=hw
 rw [aE,Nat.mul_one] at hlen
 cases dn
 ·dsimp only
  refine W.o ?_
  refine zF (fun x:List Wd×List Wd×Nat=>[(0,.pointer (some ⟨p,0,none⟩)),(1,.slice a len cap),(4,.int .i64 x.2.2),(19,.int .i64 ws.length),(20,.int .i64 x.1.length)])
   (fun x=>[(p,cl [.slice (some ⟨bw,0,none⟩) ws.length ws.length,.bool false,.int .i64 fu,vp,va] 152),(bw,cl ((x.1++x.2.1).flatMap wc) 271)])
   (fun x=>x.2.1.length) (fun x=>kI qs 0 ws=x.1++kI qs x.2.2 x.2.1∧x.1.length+x.2.1.length=ws.length∧x.2.2≤x.1.length∧(∀ w∈x.1++x.2.1,w.Ok))
   ([],ws,0) ⟨rfl,rfl,rfl,rfl,rfl,trivial⟩ (by dsimp only [List.nil_append];infer_instance) ⟨rfl,by simp,Nat.le_refl _,hok⟩ ?_
  rintro⟨done,todo,j⟩ ⟨hc,hl,hj,hk⟩
  dsimp only at hc hl hj hk ⊢
  cases todo with
  | nil=>
   have hl2:done.length=ws.length:=by simpa using hl
   refine W.o ?_
   refine Fin.s0 (.inr rfl) rfl ⟨rfl,?_⟩
   simp [Dv.crash,hc,kI,hl2]
  | cons u t=>
   have hl2:done.length+(t.length+1)=ws.length:=by simpa using hl
   have hu:u.Ok:=hk u (by simp)
   have hA:(done.flatMap wc).length=done.length*18:=sM wc 18 _ (fun w hw=>nH (hk w (by simp [hw])).1)
   rw [dJ,fK]
   have g16:=(aGo (done.flatMap wc) (t.flatMap wc) hu.1).1
   have hL:∀ v:Wd,v.Len→((done.flatMap wc)++(wc v++t.flatMap wc)).length=done.length*18+(18+(t.flatMap wc).length):=fun v hv=>by rw [aBU _ _ hv,hA]
   refine W.o ?_
   refine bJ (gL rfl rfl rfl om om (j':=(done.flatMap wc).length) om) rfl rfl ?_
   obtain⟨la,no,pe,ma⟩:=u
   dsimp only at g16
   cases pe
   ·refine W.o ?_
    refine rV.eq (done++[⟨la,no,false,ma⟩],t,j) (by simp) ⟨rfl,rfl,rfl,rfl,?_,trivial⟩ ?_ ⟨?_,?_,?_,?_⟩
    ·simp [lk,pt]
    ·simp
    ·rw [hc];simp [kI]
    ·simp;omega
    ·simp;omega
    ·simpa using hk
   ·have hn8:(no.map bv).length=8:=by simpa using hu.1.2
    have rn:=(aGp (done.flatMap wc) (t.flatMap wc) hu.1).1
    have b0:(done.flatMap wc).length+0+8≤(done.flatMap wc++(wc ⟨la,no,true,ma⟩++t.flatMap wc)).length:=by rw [hL _ hu.1];omega
    have p0:=(aGq (done.flatMap wc) (t.flatMap wc) hu.1 no hu.1.2).1
    dsimp only at p0 rn
    have key:∀ l:List UInt8,l.length=8→(∀ (l':List UInt8),l'=l→((⟨l',l',false,false⟩:Wd)=Wd.crash (yE qs j) ⟨la,no,true,ma⟩)) →
     let X:=done.flatMap wc++(wc ⟨l,no,true,ma⟩++t.flatMap wc)
     let Y:=done.flatMap wc++(wc ⟨l,l,true,ma⟩++t.flatMap wc)
     (X.drop ((done.flatMap wc).length+0)).take 8=l.map bv∧(l.map bv).length=8∧(done.flatMap wc).length+8+8≤X.length ∧
      X.take ((done.flatMap wc).length+8)++l.map bv++X.drop ((done.flatMap wc).length+8+8)=Y∧(done.flatMap wc).length+16<Y.length∧(done.flatMap wc).length+17<(Y.set ((done.flatMap wc).length+16) (.bool false)).length ∧
      (Y.set ((done.flatMap wc).length+16) (.bool false)).set ((done.flatMap wc).length+17) (.bool false)=((done++[Wd.crash (yE qs j) ⟨la,no,true,ma⟩])++t).flatMap wc:=by
     intro l h8 hcr X Y
     have hX:(⟨l,no,true,ma⟩:Wd).Len:=⟨h8,hu.1.2⟩
     have hY:(⟨l,l,true,ma⟩:Wd).Len:=⟨h8,h8⟩
     have hY2:(⟨l,l,false,ma⟩:Wd).Len:=⟨h8,h8⟩
     have hXl:=hL _ hX
     have hYl:=hL _ hY
     refine⟨(aGp (done.flatMap wc) (t.flatMap wc) hX).2,by simpa using h8,?_,(aGq (done.flatMap wc) (t.flatMap wc) hX l h8).2,?_,?_,?_⟩
     ·show _≤(done.flatMap wc++(wc ⟨l,no,true,ma⟩++t.flatMap wc)).length
      rw [hXl];omega
     ·show _<(done.flatMap wc++(wc ⟨l,l,true,ma⟩++t.flatMap wc)).length
      rw [hYl];omega
     ·show _<((done.flatMap wc++(wc ⟨l,l,true,ma⟩++t.flatMap wc)).set _ _).length
      rw [cP,hYl];omega
     ·rw [(yW (done.flatMap wc) (t.flatMap wc) hY false).1,(yW (done.flatMap wc) (t.flatMap wc) hY2 false).2]
      rw [hcr l rfl];simp
    have fin:∀ ρ:Fr,subF [(0,.pointer (some ⟨p,0,none⟩)),(1,.slice a len cap),(4,.int .i64 (j+1)),(19,.int .i64 ws.length),(20,.int .i64 (done.length+1))] ρ→rV (fun x:List Wd×List Wd×Nat=>[(0,.pointer (some ⟨p,0,none⟩)),(1,.slice a len cap),(4,.int .i64 x.2.2),(19,.int .i64 ws.length),(20,.int .i64 x.1.length)])
      (fun x=>[(p,cl [.slice (some ⟨bw,0,none⟩) ws.length ws.length,.bool false,.int .i64 fu,vp,va] 152),(bw,cl ((x.1++x.2.1).flatMap wc) 271)])
      (fun x=>x.2.1.length) (fun x=>kI qs 0 ws=x.1++kI qs x.2.2 x.2.1∧x.1.length+x.2.1.length=ws.length∧x.2.2≤x.1.length∧(∀ w∈x.1++x.2.1,w.Ok)) (done,⟨la,no,true,ma⟩::t,j) ρ
      [(p,cl [.slice (some ⟨bw,0,none⟩) ws.length ws.length,.bool false,.int .i64 fu,vp,va] 152),(bw,cl (((done++[Wd.crash (yE qs j) ⟨la,no,true,ma⟩])++t).flatMap wc) 271)]:=by
     intro ρ hρ
     refine rV.eq (done++[Wd.crash (yE qs j) ⟨la,no,true,ma⟩],t,j+1) (by simp) (by simpa using hρ) rfl ⟨?_,?_,?_,?_⟩
     ·rw [hc];simp [kI]
     ·simp;omega
     ·simp;omega
     ·have:=Wd.crash_ok (yE qs j) hu
      simp only [cK,cT,dS,or_false] at hk ⊢
      rintro w ((hw|rfl)|hw)
      ·exact hk w (.inl hw)
      ·exact this
      ·exact hk w (.inr (.inr hw))
    rcases gW len with h0|h0
    ·subst h0
     have hq:qs=[]:=cE hlen
     obtain⟨k1,k2,k3,k4,k5,k6,k7⟩:=key la hu.1.1 (fun l' h=>by subst h hq;simp [yE,Wd.crash])
     refine W.o ?_
     rw [k7]
     exact fin _ ⟨rfl,rfl,rfl,rfl,rfl,trivial⟩
    ·obtain⟨b,o,l,T,fz,rfl,hb,hbk,hrow⟩:=hrd.resolve_left om
     obtain⟨x,hx⟩:∃ x,qs[j%qs.length]?=some x:=⟨_,aA (Nat.mod_lt _ om)⟩
     have hlx:l[o+(j%len)*1]?=some (bv x):=by
      have:=congrArg (fun z=>z[j%len]?) hrow
      rw [bI,if_pos (by have:=Nat.mod_lt j h0;omega),bD,aH,← hlen,hx] at this
      rw [Nat.mul_one,← hlen];exact this
     refine W.o ?_
     refine bJ (aB2 rfl rfl rfl om (r:=((j%len:Nat):Int)) (by rw [vL])) rfl rfl ?_
     refine bJ (gL rfl rfl rfl om (by have:=Nat.mod_lt j h0;omega) (j':=o+(j%len)*1) (by rw [bK])) rfl rfl ?_
     refine bJ (tP rfl rfl hb hbk hlx) rfl rfl ?_
     refine bJ (aOG rfl rfl rfl rfl) rfl rfl ?_
     by_cases hbit:((x &&& 1) == 1)=true
     ·obtain⟨k1,k2,k3,k4,k5,k6,k7⟩:=key no hu.1.2 (fun l' h=>by subst h;simp only [yE,hx,hbit];rfl)
      refine bJ (Pu.t (nX rfl rfl rfl) ((aEH x).2 hbit)) rfl rfl ?_
      refine W.o ?_
      rw [k7]
      exact fin _ ⟨rfl,rfl,rfl,rfl,rfl,trivial⟩
     ·obtain⟨k1,k2,k3,k4,k5,k6,k7⟩:=key la hu.1.1 (fun l' h=>by subst h;simp only [Bool.not_eq_true] at hbit;simp only [yE,hx,hbit];rfl)
      refine bJ (Pu.f (nX rfl rfl rfl) (fun h=>hbit ((aEH x).1 h))) rfl rfl ?_
      refine W.o ?_
      rw [k7]
      exact fin _ ⟨rfl,rfl,rfl,rfl,rfl,trivial⟩
 ·dsimp only
  refine W.o ?_
  refine Fin.s0 (.inl rfl) rfl ⟨rfl,rfl⟩
def Dv.push(σ:Dv)(a:Int×Int×Int):Dv:=if σ.acts.length<16384 then { σ with acts:=σ.acts++[a] } else σ
def Dv.act(σ:Dv)(a:Int×Int×Int):Dv:=if 0<σ.fuse then (if σ.fuse=1 then ({ σ with fuse:=0 }:Dv).crash σ.picks else ({ σ with fuse:=σ.fuse-1 }:Dv).push a) else σ.push a
def Dv.actE(σ:Dv):Int:=if σ.fuse=1 then 8 else 0
theorem Dv.fuse_ok{σ:Dv}(f:Int)(h:σ.Ok)(h0:0≤f)(h1:f≤9223372036854775807):({ σ with fuse:=f }:Dv).Ok:=⟨h.n,h.ok,h0,h1,h.a⟩
theorem aGB{p:Nat}{σ:Dv}{H:Hp}(hD:iQ p σ H)(a:Int×Int×Int):Tri prog 171 [.pointer (some ⟨p,0,none⟩),.agg #[.int .i64 a.1,.int .i64 a.2.1,.int .i64 a.2.2]] H (fun _=>True)
  (fun v H'=>v=.int .i64 σ.actE∧iQ p (σ.act a) H'):=by
 obtain⟨hO,bw,vp,va,Hq,Ha,h1,h2,rfl⟩:=hD
 have hf0:=hO.f0
 have hf1:=hO.f1
 have ha:=hO.a
 have hof:One vp:=h1.one
 obtain⟨aa,la,ca,rfl,hla⟩:=h2.form
 have hla2:la=σ.acts.length:=by rw [sM ac 3 _ (fun x _=>rfl)] at hla;omega
 subst hla2
 refine Tri.mk func171 rfl ntmps171 rfl fun w hw=>?_
 by_cases c0:0<σ.fuse
 ·refine W.o fun b_=>?_
  by_cases c1:σ.fuse=1
  ·have e0:σ.fuse-1=0:=om
   have hc:=aFP (p:=p) (bw:=bw) (Dv.fuse_ok (σ.fuse-1) hO om om) vp (.slice aa σ.acts.length ca) vp σ.picks
   unfold hdr at hc
   dsimp only at hc
   refine W.o ?_
   dsimp only [List.set]
   refine aEA [p,bw] rfl rfl rfl rfl hc (fun w hs=>Rd.own (Hc:=[(p,cl [.slice (some ⟨bw,0,none⟩) σ.ws.length σ.ws.length,.bool σ.down,.int .i64 (σ.fuse-1),vp,.slice aa σ.acts.length ca] 152),(bw,cl (σ.ws.flatMap wc) 271)]) h1 hs inferInstance) ?_
   rintro _ _ ⟨rfl,rfl⟩
   refine W.o ?_
   refine Fin.rm b_ (Fin.s1 (.inl rfl) rfl rfl ⟨?_,?_⟩)
   ·simp [Dv.actE,c1]
   ·have he:σ.act a=({ σ with fuse:=σ.fuse-1 }:Dv).crash σ.picks:=by simp [Dv.act,c1]
    rw [he]
    refine⟨Dv.crash_ok _ (Dv.fuse_ok _ hO om om),bw,vp,_,Hq,Ha,?_,?_,rfl⟩
    ·unfold Dv.crash;cases σ.down <;> exact h1
    ·unfold Dv.crash;cases σ.down <;> exact h2
  ·have c3:σ.fuse-1≠0:=om
   by_cases c2:σ.acts.length<16384
   ·refine W.o ?_
    refine mN [p,b_] 10 kr ?_
    refine SA.take 0 rfl kr (fun _ _ _ h=>Fin.np h) rfl rfl (eV rfl rfl) ?_
    refine SA.take 1 rfl kr (fun _ _ _ h=>Fin.np h) rfl rfl (eV rfl rfl) ?_
    refine SA.take 2 rfl kr (fun _ _ _ h=>Fin.np h) rfl rfl (qG rfl rfl) ?_
    refine SA.take 3 rfl kr (fun _ _ _ h=>Fin.np h) rfl rfl (fU rfl rfl rfl) ?_
    refine SA.take 4 rfl kr (fun _ _ _ h=>Fin.np h) rfl rfl (jH rfl rfl rfl) ?_
    refine SA.take 5 rfl kr (fun _ _ _ h=>Fin.np h) rfl rfl (mS rfl rfl rfl rfl) ?_
    refine SA.one 6 rfl kr ?_
    refine lZ (n:=3) rfl rfl rfl rfl (by rfl) dc (by rfl) dc (fun b2=>?_)
    refine iC ?_
    refine Beh.mk ?_
    refine SA.one 7 rfl kr ?_
    refine SL.append (n:=3) (m:=1) (ys:=ac a) Ha rfl rfl rfl rfl rfl h2 (fun w hs=>eR.block (hs.at (b:=b2)) rfl rfl) rfl rfl dc dc ?_ (fun v2 Ha2 h3=>?_)
    ·rw [hla];simp [ac];omega
    have hov:One v2:=h3.one
    refine iC ?_
    refine Beh.mk ?_
    refine SA.one 8 rfl kr ?_
    refine W.o ?_
    refine Beh.mk ?_
    refine SA.one 9 rfl kr ?_
    refine W.o ?_
    refine Beh.mk ?_
    refine aGt rfl kr ?_
    refine W.o ?_
    refine Fin.rm b_ (Fin.rm b2 ?_)
    have he:σ.act a=({ σ with fuse:=σ.fuse-1,acts:=σ.acts++[a] }:Dv):=by simp [Dv.act,Dv.push,c0,c1,c2]
    rw [he]
    have hl2:(σ.acts++[a]).flatMap ac=σ.acts.flatMap ac++ac a:=by simp
    rw [← hl2] at h3
    exact Fin.perm cO (Fin.s1 (.inl rfl) rfl rfl ⟨by simp [Dv.actE,c1],⟨hO.n,hO.ok,by dsimp only;omega,by dsimp only;omega,by simp;omega⟩,bw,vp,v2,Hq,Ha2,h1,h3,by rw [aJ];rfl⟩)
   ·refine W.o ?_
    refine Fin.rm b_ (Fin.s1 (.inl rfl) rfl rfl ⟨?_,?_⟩)
    ·simp [Dv.actE,c1]
    ·have he:σ.act a=({ σ with fuse:=σ.fuse-1 }:Dv):=by simp [Dv.act,Dv.push,c0,c1,c2]
     have hOK:=Dv.fuse_ok (σ.fuse-1) hO om om
     rw [he]
     exact⟨hOK,bw,vp,_,Hq,Ha,h1,h2,rfl⟩
 ·refine W.o fun b_=>?_
  by_cases c2:σ.acts.length<16384
  ·refine W.o ?_
   refine mN [p,b_] 10 kr ?_
   refine SA.take 0 rfl kr (fun _ _ _ h=>Fin.np h) rfl rfl (eV rfl rfl) ?_
   refine SA.take 1 rfl kr (fun _ _ _ h=>Fin.np h) rfl rfl (eV rfl rfl) ?_
   refine SA.take 2 rfl kr (fun _ _ _ h=>Fin.np h) rfl rfl (qG rfl rfl) ?_
   refine SA.take 3 rfl kr (fun _ _ _ h=>Fin.np h) rfl rfl (fU rfl rfl rfl) ?_
   refine SA.take 4 rfl kr (fun _ _ _ h=>Fin.np h) rfl rfl (jH rfl rfl rfl) ?_
   refine SA.take 5 rfl kr (fun _ _ _ h=>Fin.np h) rfl rfl (mS rfl rfl rfl rfl) ?_
   refine SA.one 6 rfl kr ?_
   refine lZ (n:=3) rfl rfl rfl rfl (by rfl) dc (by rfl) dc (fun b2=>?_)
   refine iC ?_
   refine Beh.mk ?_
   refine SA.one 7 rfl kr ?_
   refine SL.append (n:=3) (m:=1) (ys:=ac a) Ha rfl rfl rfl rfl rfl h2 (fun w hs=>eR.block (hs.at (b:=b2)) rfl rfl) rfl rfl dc dc ?_ (fun v2 Ha2 h3=>?_)
   ·rw [hla];simp [ac];omega
   have hov:One v2:=h3.one
   refine iC ?_
   refine Beh.mk ?_
   refine SA.one 8 rfl kr ?_
   refine W.o ?_
   refine Beh.mk ?_
   refine SA.one 9 rfl kr ?_
   refine W.o ?_
   refine Beh.mk ?_
   refine aGt rfl kr ?_
   refine W.o ?_
   refine Fin.rm b_ (Fin.rm b2 ?_)
   have he:σ.act a=({ σ with acts:=σ.acts++[a] }:Dv):=by simp [Dv.act,Dv.push,c0,c2]
   rw [he]
   have hl2:(σ.acts++[a]).flatMap ac=σ.acts.flatMap ac++ac a:=by simp
   rw [← hl2] at h3
   exact Fin.perm cO (Fin.s1 (.inl rfl) rfl rfl ⟨by simp [Dv.actE];omega,⟨hO.n,hO.ok,by dsimp only;omega,by dsimp only;omega,by simp;omega⟩,bw,vp,v2,Hq,Ha2,h1,h3,by rw [aJ];rfl⟩)
  ·refine W.o ?_
   refine Fin.rm b_ (Fin.s1 (.inl rfl) rfl rfl ⟨?_,?_⟩)
   ·simp [Dv.actE];omega
   ·have he:σ.act a=σ:=by simp [Dv.act,Dv.push,c0,c2]
    have hOK:=hO
    rw [he]
    exact⟨hOK,bw,vp,_,Hq,Ha,h1,h2,rfl⟩
theorem aBG{g:FuncId} [aZ prog g]{h:Wd→Wd}(hg:aBC g h)(hh:∀ w,w.Ok→(h w).Ok){p:Nat}{σ:Dv}{H:Hp}(hD:iQ p σ H)(x y:Nat)(hxy:x≤y)(hy:y≤σ.ws.length) :
  Tri prog 187 [.pointer (some ⟨p,0,none⟩),.int .i64 x,.int .i64 y,.func (.func g) #[] #[]] H (fun _=>True) (fun v H'=>v=.tuple #[]∧iQ p { σ with ws:=jD h x y σ.ws } H'):=by
 obtain⟨hO,bw,vp,va,Hq,Ha,h1,h2,rfl⟩:=hD
 refine ((aMX hg hh p bw _ _ _ _ _ σ.ws rfl hO.n hO.ok x y hxy hy).frame (r:=Hq++Ha) (List.Perm.refl _) (fun w _ _=>trivial)).mono ?_
 rintro v H' ⟨H1,rfl,rfl,rfl⟩
 exact⟨rfl,⟨by dsimp only;rw [oI];exact hO.n,wV hh x y hO.ok,hO.f0,hO.f1,hO.a⟩,bw,vp,va,Hq,Ha,h1,h2,by dsimp only;rw [oI];rfl⟩
def Dv.doo(σ:Dv):Dv:=if σ.down=true then σ else σ.act (4,0,0)
def Dv.dooE(σ:Dv):Int:=if σ.down=true then 8 else σ.actE
theorem Dv.rdy00(σ:Dv):σ.rdy 0 0=if σ.down=true then 8 else 0:=by
 unfold Dv.rdy
 split
 ·rfl
 ·rw [if_neg];omega
theorem aOv{p:Nat}{σ:Dv}{H:Hp}(hD:iQ p σ H):Tri prog 108 [.pointer (some ⟨p,0,none⟩)] H (fun _=>True) (fun v H'=>v=.int .i64 σ.dooE∧iQ p σ.doo H'):=by
 have hr:=zY hD 0 0
 have ha:=aGB hD (4,0,0)
 rw [Dv.rdy00] at hr
 refine Tri.mk func108 rfl ntmps108 rfl fun w hw=>?_
 by_cases hd:σ.down=true
 ·rw [if_pos hd] at hr
  repeat' (first|(refine wQ ?_;refine aBy rfl rfl ?_)|(refine uB ?_;((refine qK _ rfl rfl rfl rfl hr (fun _ _=>trivial) ?_;rintro _ _ ⟨rfl,rfl⟩)))|(refine W.ow ?_;try intro b_)  | refine eL (qE rfl rfl rfl) rfl rfl (fun h_=>?_) (fun h_=>?_)|refine eL (qD rfl rfl rfl) rfl rfl (fun h_=>?_) (fun h_=>?_)|refine eL (qC rfl rfl rfl) rfl rfl (fun h_=>?_) (fun h_=>?_)|refine eL (qB rfl rfl rfl) rfl rfl (fun h_=>?_) (fun h_=>?_)|refine eL (nX rfl rfl rfl) rfl rfl (fun h_=>?_) (fun h_=>?_)|refine eL (qF rfl rfl rfl) rfl rfl (fun h_=>?_) (fun h_=>?_)|refine lC rfl (fun h_=>?_) (fun h_=>?_))
  rw [aJ]
  exact Fin.s1 (.inl rfl) rfl rfl ⟨by simp [Dv.dooE,hd],by simpa [Dv.doo,hd] using hD⟩
 ·rw [if_neg hd] at hr
  repeat' (first|(refine wQ ?_;refine aBy rfl rfl ?_)|(refine uB ?_;((refine qK _ rfl rfl rfl rfl hr (fun _ _=>trivial) ?_;rintro _ _ ⟨rfl,rfl⟩)))|(refine W.ow ?_;try intro b_)  | refine eL (qE rfl rfl rfl) rfl rfl (fun h_=>?_) (fun h_=>?_)|refine eL (qD rfl rfl rfl) rfl rfl (fun h_=>?_) (fun h_=>?_)|refine eL (qC rfl rfl rfl) rfl rfl (fun h_=>?_) (fun h_=>?_)|refine eL (qB rfl rfl rfl) rfl rfl (fun h_=>?_) (fun h_=>?_)|refine eL (nX rfl rfl rfl) rfl rfl (fun h_=>?_) (fun h_=>?_)|refine eL (qF rfl rfl rfl) rfl rfl (fun h_=>?_) (fun h_=>?_)|refine lC rfl (fun h_=>?_) (fun h_=>?_))
  refine qK _ rfl rfl rfl rfl ha (fun _ _=>trivial) ?_
  rintro _ _ ⟨rfl,hD2⟩
  refine W.o ?_
  rw [aJ]
  exact Fin.s1 (.inl rfl) rfl rfl ⟨by simp [Dv.dooE,hd],by simpa [Dv.doo,hd] using hD2⟩
instance(qs:List UInt8):OC (qs.map bv):=inferInstance
def Wd.zero:Wd:=⟨List.replicate 8 0,List.replicate 8 0,false,false⟩
def Dv.new(n:Int):Dv:=⟨List.replicate (8*min (max n 0) 1024).toNat Wd.zero,false,0,[],[]⟩
theorem Dv.new_ok(n:Int):(Dv.new n).Ok:=⟨by simp [Dv.new];omega,by intro w hw;simp only [Dv.new,List.mem_replicate] at hw;rw [hw.2];exact⟨⟨rfl,rfl⟩,by simp [Wd.zero]⟩,Int.le_refl _,by simp [Dv.new],by simp [Dv.new]⟩
theorem aNm(n:Int):Tri prog 13 [.int .i64 n] [] (fun _=>True) (fun v H'=>∃ p,v=.pointer (some ⟨p,0,none⟩)∧iQ p (Dv.new n) H'):=by
 refine Tri.mk func13 rfl ntmps13 rfl fun w hw=>?_
 refine W.o ?_
 refine SL.make (n:=18) (l:=(8*min (max n 0) 1024).toNat) (c:=(8*min (max n 0) 1024).toNat) rfl rfl rfl rfl rfl om om (by rfl) dc (Nat.le_refl _) om dc (fun bw=>?_)
 refine W.o fun b_=>?_
 refine Fin.perm (List.Perm.refl _) (Fin.s1 (.inl rfl) rfl rfl ⟨b_,rfl,Dv.new_ok n,bw,_,_,[],[],Sl.nil _ _,Sl.nil _ _,?_⟩)
 have hz:(Dv.new n).ws.length=(8*min (max n 0) 1024).toNat:=by simp [Dv.new]
 have hw:(Dv.new n).ws.flatMap wc=zs (wc Wd.zero) (8*min (max n 0) 1024).toNat:=by simp only [Dv.new,zs,gE,dX]
 rw [hz,hw]
 rfl
structure Rg where
 c:Int
 root:List UInt8
def rgc(r:Rg):List Value:=.int .u64 r.c::r.root.map bv
instance(r:Rg):OC (rgc r):=by unfold rgc;infer_instance
structure Rg.Ok(r:Rg):Prop where
 len:r.root.length=32
 c0:0≤r.c
 c1:r.c≤18446744073709551615
theorem pE{r:Rg}(h:r.Ok):(rgc r).length=33:=by simp [rgc,h.len]
def fnc(f p:Nat):Value:=.func (.func f) #[.pointer (some ⟨p,0,none⟩)] #[]
def trc(p:Nat)(r:Rg):List Value:=rgc r++[fnc 107 p,fnc 108 p]
theorem aAS(p:Nat){r:Rg}(h:r.Ok):((trc p r).drop (0+0)).take 33=rgc r∧(rgc r).length=33∧(trc p r)[0+33]?=some (fnc 107 p)∧(trc p r)[0+34]?=some (fnc 108 p)∧(trc p r)[0+0+0]?=some (.int .u64 r.c)∧(trc p r).length=35:=by
 have hl:=pE h
 refine⟨?_,hl,?_,?_,rfl,by simp [trc,hl]⟩
 ·rw [trc,bH,dT hl]
 ·rw [trc,aS om,hl];rfl
 ·rw [trc,aS om,hl];rfl
theorem aLS(p:Nat){r r':Rg}(h:r.Ok)(h':r'.Ok):(trc p r).take (0+0)++rgc r'++(trc p r).drop (0+0+33)=trc p r':=by
 rw [trc,cQ,List.nil_append,gS (by rw [pE h])];rfl
theorem aB9(tp p:Nat)(r:Rg)(h:r.Ok):Tri prog 57 [.pointer (some ⟨tp,0,none⟩)] [(tp,cl (trc p r) 225)] (fun _=>True) (fun v H=>v=.agg (rgc r).toArray∧H=[(tp,cl (trc p r) 225)]):=by
 obtain⟨f1,f2,f3,f4,f5,f6⟩:=aAS p h
 refine Tri.mk func57 rfl ntmps57 rfl fun w hw=>?_
 refine W.o fun b_=>?_
 exact Fin.c1e (.inl rfl) (rgc r) rfl rfl (by simp [rgc,h.len]) (by rw [f2]) ⟨rfl,rfl⟩
theorem aNe(tp p:Nat)(r:Rg)(h:r.Ok):Tri prog 50 [.pointer (some ⟨tp,0,none⟩)] [(tp,cl (trc p r) 225)] (fun _=>True) (fun v H=>v=.bool (decide (r.c=18446744073709551615))∧H=[(tp,cl (trc p r) 225)]):=by
 obtain⟨f1,f2,f3,f4,f5,f6⟩:=aAS p h
 refine Tri.mk func50 rfl ntmps50 rfl fun w hw=>?_
 by_cases hc:r.c=18446744073709551615
 ·refine W.o ?_
  exact Fin.s1 (.inl rfl) rfl rfl ⟨by simp [hc],rfl⟩
 ·refine W.o ?_
  exact Fin.s1 (.inl rfl) rfl rfl ⟨by simp [hc],rfl⟩
theorem aO7(p:Nat)(r:Rg)(h:r.Ok):Tri prog 43 [.pointer (some ⟨p,0,none⟩),.agg (rgc r).toArray] [] (fun _=>True) (fun v H=>∃ tp,v=.pointer (some ⟨tp,0,none⟩)∧H=[(tp,cl (trc p r) 225)]):=by
 have hl:=pE h
 have hr:((rgc r).drop 0).take 33=rgc r:=by rw [bH,aB om]
 refine Tri.mk func43 rfl ntmps43 rfl fun w hw=>?_
 refine W.o fun b_=>?_
 refine bJ (mH (r:=trc p r) rfl rfl ?_) rfl rfl ?_
 ·refine uE (rgc r++[.nilFunc,.nilFunc]) rfl hl dc (by rfl) ?_
  refine uE (rgc r++[fnc 107 p,.nilFunc]) rfl rfl (by simp [hl]) (by simp [hl,vl,fnc,jA,eZ]) ?_
  refine uE (trc p r) rfl rfl (by simp [hl]) (by simp [hl,vl,fnc,trc,jA,eZ,aB,cY]) rfl
 refine W.o fun b_=>?_
 rename_i b1
 exact Fin.rm b1 (Fin.s1 (.inl rfl) rfl rfl ⟨b_,rfl,rfl⟩)
end
def Wd.put(j:Nat)(c:UInt8)(w:Wd):Wd:={ w with now:=w.now.set j c }
theorem Wd.put_ok(j:Nat)(c:UInt8){w:Wd}(h:w.Ok):(w.put j c).Ok:=⟨⟨h.1.1,by simp [Wd.put,h.1.2]⟩,h.2⟩
def tK(f:Nat→UInt8→Wd→Wd)(ws:List Wd)(i:Nat)(c:UInt8):List Wd:=ws.modify (i/8) (f (i%8) c)
def iY(f:Nat→UInt8→Wd→Wd):List Wd→Nat→List UInt8→List Wd
 | ws,_,[]=>ws
 | ws,i,c::t=>iY f (tK f ws i c) (i+1) t
theorem tL(f:Nat→UInt8→Wd→Wd):∀ (l:List UInt8) (ws:List Wd) (i:Nat) (c:UInt8),iY f ws i (l++[c])=tK f (iY f ws i l) (i+l.length) c
 | [],ws,i,c=>rfl
 | x::l,ws,i,c=>by
  show iY f (tK f ws i x) (i+1) (l++[c])=_
  rw [tL f l]
  show tK f (iY f (tK f ws i x) (i+1) l) (i+1+l.length) c=tK f (iY f (tK f ws i x) (i+1) l) (i+(l.length+1)) c
  congr 1;omega
theorem aE6(f:Nat→UInt8→Wd→Wd)(ws:List Wd)(i:Nat)(c:UInt8):(tK f ws i c).length=ws.length:=by simp [tK]
theorem pN(f:Nat→UInt8→Wd→Wd):∀ (l:List UInt8) (ws:List Wd) (i:Nat),(iY f ws i l).length=ws.length
 | [],ws,i=>rfl
 | x::l,ws,i=>by show (iY f (tK f ws i x) (i+1) l).length=_;rw [pN f l,aE6]
theorem aDc{f:Wd→Wd}(hf:∀ w,w.Ok→(f w).Ok){ws:List Wd}(m:Nat)(h:∀ w∈ws,w.Ok):∀ w∈ws.modify m f,w.Ok:=by
 intro w hw
 obtain⟨k,hk⟩:=eE.1 hw
 rw [mK] at hk
 cases hu:ws[k]? with
 | none=>rw [hu] at hk;simp at hk
 | some u=>
  rw [hu] at hk
  have hm:=h u (aP hu)
  simp only [rX,Option.map_some,dQ] at hk
  rw [← hk]
  split
  ·exact hf u hm
  ·exact hm
theorem aBh{f:Nat→UInt8→Wd→Wd}(hf:∀ j c w,w.Ok→(f j c w).Ok):∀ (l:List UInt8) (ws:List Wd) (i:Nat),(∀ w∈ws,w.Ok)→∀ w∈iY f ws i l,w.Ok
 | [],ws,i,h=>h
 | x::l,ws,i,h=>aBh hf l _ _ (aDc (hf _ _) _ h)
theorem aN8{ws:List Wd}(hok:∀ w∈ws,w.Ok){m j:Nat}{u:Wd}(hu:ws[m]?=some u)(hj:j<18):(ws.flatMap wc)[m*18+j]?=(wc u)[j]?:=by
 have hm:m<ws.length:=(aG.1 hu).1
 have hA:((ws.take m).flatMap wc).length=m*18:=by
  rw [sM wc 18 _ (fun w hw=>nH (hok w (cX hw)).1),aD];congr 1;omega
 rw [vT wc ws m u hu]
 exact aDH _ _ _ j _ om (by rw [nH (hok u (aP hu)).1];exact hj)
theorem aOa{ws:List Wd}(hok:∀ w∈ws,w.Ok){m j:Nat}{u u':Wd}{v:Value}(hu:ws[m]?=some u)(hj:j<18)(h:(wc u).set j v=wc u'):(ws.flatMap wc).set (m*18+j) v=(ws.set m u').flatMap wc:=by
 have hm:m<ws.length:=(aG.1 hu).1
 have hA:((ws.take m).flatMap wc).length=m*18:=by
  rw [sM wc 18 _ (fun w hw=>nH (hok w (cX hw)).1),aD];congr 1;omega
 rw [vT wc ws m u hu,aEg _ _ _ j _ v om (by rw [nH (hok u (aP hu)).1];exact hj),h,aFT wc ws m u' hm]
theorem aN9{ws:List Wd}(hok:∀ w∈ws,w.Ok):(ws.flatMap wc).length=ws.length*18:=sM wc 18 _ (fun w hw=>nH (hok w hw).1)
theorem aLW{u:Wd}(h:u.Len){j:Nat}(hj:j<8):(wc u)[8+j]?=u.now[j]?.map bv∧(wc u)[j]?=u.lasts[j]?.map bv:=by
 unfold wc
 have h1:(u.lasts.map bv).length=8:=by simpa using h.1
 have h2:(u.now.map bv).length=8:=by simpa using h.2
 constructor
 ·rw [aS om,h1,aN om,aH]
  congr 2;omega
 ·rw [aN om,aH]
theorem aLX{u:Wd}(h:u.Len){j:Nat}(hj:j<8)(c:UInt8):(wc u).set (8+j) (bv c)=wc (u.put j c)∧(wc u).set j (bv c)=wc { u with lasts:=u.lasts.set j c }:=by
 unfold wc Wd.put
 have h1:(u.lasts.map bv).length=8:=by simpa using h.1
 have h2:(u.now.map bv).length=8:=by simpa using h.2
 constructor
 ·rw [bX _ _ om,h1,fN _ _ om,gF]
  congr 3;omega
 ·rw [fN _ _ om,gF]
theorem yN{ws:List Wd}{m:Nat}{u:Wd}(f:Wd→Wd)(hu:ws[m]?=some u):ws.modify m f=ws.set m (f u):=by
 apply cM
 intro k
 rw [mK,fW]
 by_cases hk:m=k
 ·subst hk
  obtain⟨hm,rfl⟩:=aG.1 hu
  simp [hm]
 ·simp [hk]
def nP(ws:List Wd):List UInt8:=ws.flatMap Wd.now
def aBT(ws:List Wd):List UInt8:=ws.flatMap Wd.lasts
theorem fmU{α:Type}(f:Wd→List α){ws:List Wd}(hf:∀ w∈ws,(f w).length=8){m j:Nat}{u:Wd}(hu:ws[m]?=some u)(hj:j<8):(ws.flatMap f)[m*8+j]?=(f u)[j]?:=by
 induction ws generalizing m with
 | nil=>simp at hu
 | cons w t ih=>
  have hw:=hf w (by simp)
  rw [fK]
  cases m with
  | zero=>simp at hu;subst hu;rw [aN om];congr 1;omega
  | succ m=>
   rw [aS om,hw]
   have:=ih (fun x hx=>hf x (by simp [hx])) (m:=m) (by simpa using hu)
   rw [← this];congr 1;omega
theorem aBe{α:Type}(f:Wd→List α):∀ {ws:List Wd},(∀ w∈ws,(f w).length=8)→(ws.flatMap f).length=8*ws.length
 | [],_=>rfl
 | w::t,h=>by rw [fK,aC,h w (by simp),aBe f (fun x hx=>h x (by simp [hx])),aW];omega
theorem aJt{ws:List Wd}(hok:∀ w∈ws,w.Ok){i:Nat}{u:Wd}(hu:ws[i/8]?=some u):(nP ws)[i]?=u.now[i%8]?:=by
 have:=fmU Wd.now (fun w hw=>(hok w hw).1.2) hu (Nat.mod_lt i (by decide:0<8))
 rw [← this];unfold nP;congr 1;omega
theorem wD{ws:List Wd}(hok:∀ w∈ws,w.Ok):(nP ws).length=8*ws.length:=aBe _ fun w hw=>(hok w hw).1.2
def Dv.setWs(σ:Dv)(ws:List Wd):Dv:={ σ with ws:=ws }
def qA(ws:List Wd)(i:Nat)(bs:List UInt8):List Wd:=if bs.length=0 then ws else jD Wd.stored (i/8) ((i+bs.length-1)/8+1) (iY Wd.put ws i bs)
def Dv.store(σ:Dv)(i:Int)(bs:List UInt8):Dv:=if σ.rdy i bs.length=0 then (if σ.actE=0 then (σ.act (1,i,bs.length)).setWs (qA (σ.act (1,i,bs.length)).ws i.toNat bs) else σ.act (1,i,bs.length)) else σ
def Dv.actR(σ:Dv)(i n:Int):Int:=if σ.rdy i n=0 then σ.actE else σ.rdy i n
def lH(ws:List Wd)(i n:Nat):List Wd:=if n=0 then ws else jD Wd.flushed (i/64*8) (((i+n-1)/64+1)*8) ws
def Dv.flush(σ:Dv)(i n:Int):Dv:=if σ.rdy i n=0 then (if σ.actE=0 then (σ.act (2,i,n)).setWs (lH (σ.act (2,i,n)).ws i.toNat n.toNat) else σ.act (2,i,n)) else σ
def Dv.fence(σ:Dv):Dv:=if σ.rdy 0 0=0 then (if σ.actE=0 then (σ.act (3,0,0)).setWs ((σ.act (3,0,0)).ws.map Wd.fenced) else σ.act (3,0,0)) else σ
theorem Dv.setWs_ok{σ:Dv}{ws:List Wd}(h:σ.Ok)(hn:ws.length=σ.ws.length)(hok:∀ w∈ws,w.Ok):(σ.setWs ws).Ok:=⟨by show ws.length≤_;rw [hn];exact h.n,hok,h.f0,h.f1,h.a⟩
theorem aGn(ws:List Wd)(i:Nat)(bs:List UInt8):(qA ws i bs).length=ws.length:=by
 unfold qA
 split
 ·rfl
 ·rw [oI,pN]
theorem aE4(h:Wd→Wd)(ws:List Wd):jD h 0 ws.length ws=ws.map h:=by
 apply cM
 intro i
 simp only [jD,fM,aH]
 cases hw:ws[i]? with
 | none=>rfl
 | some w=>
  have:=(aG.1 hw).1
  simp only [Option.map_some];rw [if_pos om]
theorem aIS(q:List UInt8)(σ:Dv):(σ.crash q).ws.length=σ.ws.length:=by unfold Dv.crash;cases σ.down <;> simp [yG]
theorem pY(σ:Dv)(a:Int×Int×Int):(σ.act a).ws.length=σ.ws.length:=by
 unfold Dv.act Dv.push
 split
 ·split
  ·rw [aIS]
  ·split <;> rfl
 ·split <;> rfl
theorem rL{σ:Dv}{x n:Int}(h:σ.rdy x n=0):σ.down=false∧0≤x∧0≤n∧n≤σ.len∧x≤σ.len-n:=by
 unfold Dv.rdy at h
 split at h
 ·cases h
 ·rename_i hd
  split at h
  ·cases h
  ·exact⟨by simpa using hd,by omega,by omega,by omega,by omega⟩
section
attribute [local irreducible] SW SL SQ SH SA SS Pu Fin bZ aT
theorem aLQ{p:Nat}{σ:Dv}{H:Hp}(hD:iQ p σ H)(x:Int)(v:Value)(bs:List UInt8)(hbs:bs.length≤1048576):Tri prog 236 [.pointer (some ⟨p,0,none⟩),.int .i64 x,v] H (fun w=>Rd (H.map Prod.fst) w 1 v (bs.map bv))
  (fun v' H'=>v'=.int .i64 (σ.actR x bs.length)∧iQ p (σ.store x bs) H'):=by
 have hr:=zY hD x bs.length
 have ha:=aGB hD (1,x,bs.length)
 refine Tri.mk func236 rfl ntmps236 rfl fun w hw=>?_
 obtain⟨aa,len,cap,rfl,hlen,hcap,hrd⟩:=hw.get
 rw [aE,Nat.mul_one] at hlen
 subst hlen
 refine W.k ?_
 refine W.cq hr ?_
 by_cases h0:σ.rdy x bs.length=0
 ·obtain⟨hdn,hx0,-,hn,hxn⟩:=rL h0
  rw [h0]
  refine W.k ?_
  refine aL ha ?_
  rintro _ H1 ⟨rfl,hD1⟩
  by_cases h1:σ.actE=0
  ·rw [h1]
   refine W.j ?_
   have hwl:(σ.act (1,x,bs.length)).ws.length=σ.ws.length:=pY _ _
   have hres:σ.store x bs=(σ.act (1,x,bs.length)).setWs (qA (σ.act (1,x,bs.length)).ws x.toNat bs):=by unfold Dv.store;rw [if_pos h0,if_pos h1]
   have hresE:σ.actR x bs.length=0:=by unfold Dv.actR;rw [if_pos h0,h1]
   rw [hres,hresE]
   have hlen:σ.len=8*σ.ws.length:=rfl
   generalize σ.act (1,x,bs.length)=τ at hD1 hwl ⊢
   obtain⟨i,rfl⟩:∃ i:Nat,x=i:=⟨x.toNat,by omega⟩
   rw [bK]
   have hN:=hD1.1.n
   obtain⟨hO,bw,vp,va,Hq,Ha,h2,h3,rfl⟩:=hD1
   refine SW.cut [0,1,2] [bw] (fun _:Unit=>[]) (fun _=>[(bw,cl ((iY Wd.put τ.ws i bs).flatMap wc) 271)]) (fun _=>True) ?_ ?_
   ·refine W.k ?_
    refine bV [0,1,2,28,29] [bw] (fun k:Nat=>[(30,.int .i64 k)]) (fun k=>[(bw,cl ((iY Wd.put τ.ws i (bs.take k)).flatMap wc) 271)]) (fun k=>bs.length-k) (fun k=>k≤bs.length) 0 (Nat.zero_le _) ?_
    intro k hk
    have hok:=aBh (fun j c w=>Wd.put_ok j c) (bs.take k) τ.ws i hO.ok
    have hml:=pN Wd.put (bs.take k) τ.ws i
    by_cases hkl:k<bs.length
    ·obtain⟨b,o,l,T,fz,rfl,hb,hbk,hys⟩:=hrd om
     obtain⟨c,hc⟩:∃ c,bs[k]?=some c:=⟨_,aA hkl⟩
     have hlc:l[o+k]?=some (bv c):=aCu hys (by simp [hc])
     have hm:(i+k)/8<(iY Wd.put τ.ws i (bs.take k)).length:=om
     obtain⟨u,hu⟩:∃ u,(iY Wd.put τ.ws i (bs.take k))[(i+k)/8]?=some u:=⟨_,aA hm⟩
     have hj:(i+k)%8<8:=Nat.mod_lt _ dc
     have hset:=aOa hok (v:=bv c) hu (j:=8+(i+k)%8) om (aLX (hok u (aP hu)).1 hj c).1
     have hlt:(i+k)/8*18+8+(i+k)%8<((iY Wd.put τ.ws i (bs.take k)).flatMap wc).length:=by rw [aN9 hok];omega
     refine W.k ?_
     rw [sK,hset,← yN (Wd.put ((i+k)%8) c) hu]
     have hsn:(iY Wd.put τ.ws i (bs.take k)).modify ((i+k)/8) (Wd.put ((i+k)%8) c)=iY Wd.put τ.ws i (bs.take (k+1)):=by
      rw [aO,hc,eQ,tL,aD,dB hk];rfl
     rw [hsn]
     refine aT.mk (k+1) ?_
     omega
    ·have:k=bs.length:=om
     subst this
     rw [bT]
     refine W.k ?_
     refine bZ.mk () ?_
     trivial
   ·intro _ _
    have hD2:iQ p (τ.setWs (iY Wd.put τ.ws i bs)) ((p,cl [.slice (some ⟨bw,0,none⟩) τ.ws.length τ.ws.length,.bool τ.down,.int .i64 τ.fuse,vp,va] 152)::(bw,cl ((iY Wd.put τ.ws i bs).flatMap wc) 271)::(Hq++Ha)):=
     ⟨Dv.setWs_ok hO (pN _ _ _ _) (aBh (fun j c w=>Wd.put_ok j c) bs τ.ws i hO.ok),bw,vp,va,Hq,Ha,h2,h3,by simp [Dv.setWs,pN]⟩
    by_cases hz:bs.length=0
    ·refine W.k ?_
     refine Fin.perm (List.Perm.swap _ _ _) (F.f1 ?_)
     have:bs=[]:=cE hz
     subst this
     exact⟨rfl,by simpa [qA,iY] using hD2⟩
    ·have he:=aBG aKi (fun w=>Wd.stored_ok) hD2 (i/8) ((i+bs.length-1)/8+1) om (by show _≤(iY Wd.put τ.ws i bs).length;rw [pN];omega)
     refine W.k ?_
     refine dV he ?_ ?_
     ·simp;omega
     rintro _ H3 ⟨rfl,hD3⟩
     refine W.k ?_
     refine F.f1 ?_
     refine⟨rfl,?_⟩
     have:qA τ.ws i bs=jD Wd.stored (i/8) ((i+bs.length-1)/8+1) (iY Wd.put τ.ws i bs):=by unfold qA;rw [if_neg hz]
     rw [this];simp only [aJ];exact hD3
  ·refine W.k ?_
   refine F.f1 ?_
   rw [aJ]
   have hres:σ.store x bs=σ.act (1,x,bs.length):=by unfold Dv.store;rw [if_pos h0,if_neg h1]
   have hresE:σ.actR x bs.length=σ.actE:=by unfold Dv.actR;rw [if_pos h0]
   rw [hres,hresE];exact⟨rfl,hD1⟩
 ·refine W.k ?_
  refine F.f1 ?_
  rw [aJ]
  have hres:σ.store x bs=σ:=by unfold Dv.store;rw [if_neg h0]
  have hresE:σ.actR x bs.length=σ.rdy x bs.length:=by unfold Dv.actR;rw [if_neg h0]
  rw [hres,hresE];exact⟨rfl,hD⟩
theorem aK9{p:Nat}{σ:Dv}{H:Hp}(hD:iQ p σ H)(h8:σ.ws.length%8=0)(x n:Int):Tri prog 237 [.pointer (some ⟨p,0,none⟩),.int .i64 x,.int .i64 n] H (fun _=>True)
  (fun v' H'=>v'=.int .i64 (σ.actR x n)∧iQ p (σ.flush x n) H'):=by
 have hr:=zY hD x n
 have ha:=aGB hD (2,x,n)
 refine Tri.mk func237 rfl ntmps237 rfl fun w hw=>?_
 refine W.k ?_
 refine W.cq hr ?_
 by_cases h0:σ.rdy x n=0
 ·obtain⟨hdn,hx0,hn0,hn,hxn⟩:=rL h0
  rw [h0]
  refine W.k ?_
  refine aL ha ?_
  rintro _ H1 ⟨rfl,hD1⟩
  have hwl:(σ.act (2,x,n)).ws.length=σ.ws.length:=pY _ _
  by_cases h1:σ.actE=0
  ·rw [h1]
   have hres:σ.flush x n=(σ.act (2,x,n)).setWs (lH (σ.act (2,x,n)).ws x.toNat n.toNat):=by unfold Dv.flush;rw [if_pos h0,if_pos h1]
   have hresE:σ.actR x n=0:=by unfold Dv.actR;rw [if_pos h0,h1]
   rw [hres,hresE]
   have hlen:σ.len=8*σ.ws.length:=rfl
   have hN:=hD1.1.n
   generalize σ.act (2,x,n)=τ at hD1 hwl hN ⊢
   obtain⟨i,rfl⟩:∃ i:Nat,x=i:=⟨x.toNat,by omega⟩
   obtain⟨m,rfl⟩:∃ m:Nat,n=m:=⟨n.toNat,by omega⟩
   rw [bK,bK]
   by_cases hz:m=0
   ·refine W.k ?_
    refine F.f1 ?_
    subst hz
    refine⟨rfl,?_⟩
    simp only [aJ]
    exact hD1
   ·have he:=aBG aHD (fun w=>Wd.flushed_ok) hD1 (i/64*8) (((i+m-1)/64+1)*8) om om
    refine W.k ?_
    refine dV he ?_ ?_
    ·simp;omega
    rintro _ H3 ⟨rfl,hD3⟩
    refine W.k ?_
    refine F.f1 ?_
    refine⟨rfl,?_⟩
    unfold lH
    rw [if_neg hz]
    simp only [aJ];exact hD3
  ·refine W.k ?_
   refine F.f1 ?_
   have hres:σ.flush x n=σ.act (2,x,n):=by unfold Dv.flush;rw [if_pos h0,if_neg h1]
   have hresE:σ.actR x n=σ.actE:=by unfold Dv.actR;rw [if_pos h0]
   rw [hres,hresE];refine⟨rfl,?_⟩;simp only [aJ];exact hD1
 ·refine W.k ?_
  refine F.f1 ?_
  have hres:σ.flush x n=σ:=by unfold Dv.flush;rw [if_neg h0]
  have hresE:σ.actR x n=σ.rdy x n:=by unfold Dv.actR;rw [if_neg h0]
  rw [hres,hresE];refine⟨rfl,?_⟩;simp only [aJ];exact hD
theorem aGM{p:Nat}{σ:Dv}{H:Hp}(hD:iQ p σ H):Tri prog 123 [.pointer (some ⟨p,0,none⟩)] H (fun _=>True)
  (fun v' H'=>v'=.int .i64 (σ.actR 0 0)∧iQ p σ.fence H'):=by
 have hr:=zY hD 0 0
 have ha:=aGB hD (3,0,0)
 refine Tri.mk func123 rfl ntmps123 rfl fun w hw=>?_
 refine W.k ?_
 refine W.cq hr ?_
 by_cases h0:σ.rdy 0 0=0
 ·rw [h0]
  refine W.k ?_
  refine aL ha ?_
  rintro _ H1 ⟨rfl,hD1⟩
  by_cases h1:σ.actE=0
  ·rw [h1]
   have hres:σ.fence=(σ.act (3,0,0)).setWs ((σ.act (3,0,0)).ws.map Wd.fenced):=by unfold Dv.fence;rw [if_pos h0,if_pos h1]
   have hresE:σ.actR 0 0=0:=by unfold Dv.actR;rw [if_pos h0,h1]
   rw [hres,hresE]
   generalize σ.act (3,0,0)=τ at hD1 ⊢
   have he:=aBG aIW (fun w=>Wd.fenced_ok) hD1 0 τ.ws.length (Nat.zero_le _) (Nat.le_refl _)
   have hat:∃ bw x1 x2 x3 x4,At H1 p (cl [.slice (some ⟨bw,0,none⟩) τ.ws.length τ.ws.length,x1,x2,x3,x4] 152):=by
    obtain⟨hO,bw,vp,va,Hq,Ha,h2,h3,rfl⟩:=hD1
    exact⟨bw,_,_,_,_,inferInstance⟩
   obtain⟨bw,x1,x2,x3,x4,hat⟩:=hat
   refine W.k ?_
   refine aL he ?_
   rintro _ H3 ⟨rfl,hD3⟩
   refine W.k ?_
   refine F.f1 ?_
   refine⟨rfl,?_⟩
   rw [aE4] at hD3
   simp only [aJ];exact hD3
  ·refine W.k ?_
   refine F.f1 ?_
   have hres:σ.fence=σ.act (3,0,0):=by unfold Dv.fence;rw [if_pos h0,if_neg h1]
   have hresE:σ.actR 0 0=σ.actE:=by unfold Dv.actR;rw [if_pos h0]
   rw [hres,hresE];refine⟨rfl,?_⟩;simp only [aJ];exact hD1
 ·refine W.k ?_
  refine F.f1 ?_
  have hres:σ.fence=σ:=by unfold Dv.fence;rw [if_neg h0]
  have hresE:σ.actR 0 0=σ.rdy 0 0:=by unfold Dv.actR;rw [if_neg h0]
  rw [hres,hresE];refine⟨rfl,?_⟩;simp only [aJ];exact hD
theorem aAv(A:List Value)(m:Nat)(z v:Value):(A++List.replicate (m+1) z).set A.length v=A++[v]++List.replicate m z:=by
 rw [bX _ _ (Nat.le_refl _),dM,fF,dE];simp
def Dv.loadB(σ:Dv)(i n:Int):List UInt8:=if σ.rdy i n=0 then ((nP σ.ws).drop i.toNat).take n.toNat else []
theorem aJi{p:Nat}{σ:Dv}{H:Hp}(hD:iQ p σ H)(x n:Int):Tri prog 69 [.pointer (some ⟨p,0,none⟩),.int .i64 x,.int .i64 n] H (fun _=>True)
  (fun v' H'=>∃ sv Hs,v'=.tuple #[sv,.int .i64 (σ.rdy x n)]∧Sl 5 1 sv ((σ.loadB x n).map bv) Hs∧H'=Hs++H):=by
 have hr:=zY hD x n
 refine Tri.mk func69 rfl ntmps69 rfl fun w hw=>?_
 refine W.k ?_
 refine W.cq hr ?_
 by_cases h0:σ.rdy x n=0
 ·obtain⟨hdn,hx0,hn0,hn,hxn⟩:=rL h0
  have hb:σ.loadB x n=((nP σ.ws).drop x.toNat).take n.toNat:=by unfold Dv.loadB;rw [if_pos h0]
  rw [h0,hb]
  have hlen:σ.len=8*σ.ws.length:=rfl
  obtain⟨i,rfl⟩:∃ i:Nat,x=i:=⟨x.toNat,by omega⟩
  obtain⟨m,rfl⟩:∃ m:Nat,n=m:=⟨n.toNat,by omega⟩
  rw [bK,bK]
  have hN:=hD.1.n
  obtain⟨hO,bw,vp,va,Hq,Ha,h2,h3,rfl⟩:=hD
  have hnl:=wD hO.ok
  refine W.k fun b_=>?_
  refine bV [0,1,9,21] [b_] (fun k:Nat=>[(22,.int .i64 k)]) (fun k=>[(b_,cl ((((nP σ.ws).drop i).take k).map bv++List.replicate (m-k) (.int .u8 0)) 5)]) (fun k=>m-k) (fun k=>k≤m) 0 (Nat.zero_le _) ?_ (by simp [lK])
  intro k hk
  by_cases hkl:k<m
  ·obtain⟨u,hu⟩:∃ u,σ.ws[(i+k)/8]?=some u:=⟨_,aA om⟩
   have hj:(i+k)%8<8:=Nat.mod_lt _ dc
   have hul:=(hO.ok u (aP hu)).1
   obtain⟨c,hc⟩:∃ c,u.now[(i+k)%8]?=some c:=⟨_,aA (by rw [hul.2];exact hj)⟩
   have hg:(σ.ws.flatMap wc)[(i+k)/8*18+8+(i+k)%8]?=some (bv c):=by
    rw [sK,aN8 hO.ok hu om,(aLW hul hj).1,hc];rfl
   have hnb:(nP σ.ws)[i+k]?=some c:=by rw [aJt hO.ok hu,hc]
   have hAl:((((nP σ.ws).drop i).take k).map bv).length=k:=by simp;omega
   have hst:k<(((((nP σ.ws).drop i).take k).map bv)++List.replicate (m-k) (Value.int .u8 0)).length:=by rw [aC,hAl];simp;omega
   refine W.k ?_
   have hf:=aAv ((((nP σ.ws).drop i).take k).map bv) (m-(k+1)) (.int .u8 0) (bv c)
   rw [hAl,show m-(k+1)+1=m-k by omega] at hf
   have hf2:(((nP σ.ws).drop i).take k).map bv++[bv c]=(((nP σ.ws).drop i).take (k+1)).map bv:=by
    rw [aO,bD,hnb];simp
   rw [hf,hf2]
   refine aT.mk (k+1) ?_
   omega
  ·have:k=m:=om
   subst this
   refine W.k ?_
   refine F.f2 ?_
   refine⟨_,[(b_,cl ((((nP σ.ws).drop i).take k).map bv) 5)],rfl,  .inr ⟨b_,k,k,[],rfl,by simp;omega,by simp,Nat.le_refl _,by simp⟩,?_⟩
   simp
 ·have hb:σ.loadB x n=[]:=by unfold Dv.loadB;rw [if_neg h0]
  refine W.k ?_
  refine F.f2 ?_
  refine⟨_,[],rfl,?_,by simp⟩
  rw [hb];exact Sl.nil _ _
end
section
attribute [local irreducible] SW SL SQ SH SA Pu Fin
def vI(σ:Dv)(r r':Rg):Dv:=if σ.down=true then σ else if r'.c≤r.c then σ else σ.doo
def rT(σ:Dv)(r r':Rg):Rg:=if σ.down=true then r else if r'.c≤r.c then r else if σ.dooE=0 then r' else r
def vJ(σ:Dv)(r r':Rg):Int:=if σ.down=true then 8 else if r'.c≤r.c then 3 else σ.dooE
theorem aMm(tp p:Nat)(r r':Rg)(h:r.Ok)(h':r'.Ok){σ:Dv}{H:Hp}(hD:iQ p σ H):Tri prog 125 [.pointer (some ⟨tp,0,none⟩),.agg (rgc r').toArray] ((tp,cl (trc p r) 225)::H) (fun _=>True)
  (fun v H'=>v=.int .i64 (vJ σ r r')∧∃ H2,H'=(tp,cl (trc p (rT σ r r')) 225)::H2∧iQ p (vI σ r r') H2):=by
 obtain⟨f1,f2,f3,f4,f5,f6⟩:=aAS p h
 have hl':=pE h'
 have hr':((rgc r').drop 0).take 33=rgc r':=by rw [bH,aB om]
 have fp:=aLS p h h'
 have hdn:=aLi hD
 have hdo:=aOv hD
 have b1:0+0+33≤(trc p r).length:=om
 refine Tri.mk func125 rfl ntmps125 rfl fun w hw=>?_
 refine W.o fun b_=>?_
 refine dH H rfl rfl rfl rfl rfl rfl hdn (fun _ _=>trivial) ?_
 rintro _ Hx ⟨rfl,rfl⟩
 cases hd:σ.down
 ·repeat' (first|(refine wQ ?_;refine aBy rfl rfl ?_)|(refine aCQ ?_;refine bJ (eV rfl rfl) rfl rfl ?_)|(refine aAU ?_;refine bJ (pO rfl rfl) rfl rfl ?_)|(refine aED ?_;refine bJ (qG rfl rfl) rfl rfl ?_)|(refine aCN ?_;refine bJ (fU rfl rfl rfl) rfl rfl ?_)|(refine aCO ?_;(first|refine bJ (jH rfl rfl rfl) rfl rfl ?_|refine bJ (jH rfl rfl (by assumption)) rfl rfl ?_|refine bJ (mS rfl rfl rfl rfl) rfl rfl ?_|refine bJ (mS rfl rfl (by assumption) (by assumption)) rfl rfl ?_))|(refine aBw ?_;(first|refine bJ (nY rfl rfl) rfl rfl ?_|refine bJ (qV rfl rfl) rfl rfl ?_|refine bJ (qU rfl rfl) rfl rfl ?_|refine bJ (nW rfl rfl) rfl rfl ?_|refine bJ (aDe rfl rfl rfl rfl) rfl rfl ?_|refine bJ (aDf rfl rfl rfl rfl) rfl rfl ?_))|(refine aCR ?_;(first|refine bJ (tR rfl rfl rfl) rfl rfl ?_|refine bJ (tQ rfl rfl rfl) rfl rfl ?_))|(refine aCP ?_;refine bJ (oZ rfl rfl rfl) rfl rfl ?_)|(refine aGu ?_;refine bJ (aDg rfl rfl) rfl rfl ?_)|(refine aBv ?_;(first|refine bJ (mH rfl rfl (by rfl)) rfl rfl ?_|refine bJ (mR rfl rfl (by rfl)) rfl rfl ?_))|(refine aEC ?_;(first|refine bJ (qM rfl rfl rfl) rfl rfl ?_|refine bJ (qM rfl rfl (by assumption)) rfl rfl ?_|refine bJ (qT rfl rfl rfl) rfl rfl ?_))|(refine aEp ?_;refine bJ (sB rfl rfl rfl (w64 om)) rfl rfl ?_)|(refine aEz ?_;refine bJ (aB4 rfl rfl rfl (w64 om)) rfl rfl ?_)|(refine aEv ?_;refine bJ (kG rfl rfl rfl (w64 om)) rfl rfl ?_)|(refine aEx ?_;refine bJ (aDh rfl rfl rfl dc (w64 om)) rfl rfl ?_)|(refine aEy ?_;refine bJ (aB2 rfl rfl rfl dc rfl) rfl rfl ?_)|(refine aEu ?_;(first|refine bJ (Pu.t (qE rfl rfl rfl) om) rfl rfl ?_|refine bJ (Pu.f (qE rfl rfl rfl) om) rfl rfl ?_|refine eL (qE rfl rfl rfl) rfl rfl (fun h_=>?_) (fun h_=>?_)))|(refine aEt ?_;(first|refine bJ (Pu.t (qD rfl rfl rfl) om) rfl rfl ?_|refine bJ (Pu.f (qD rfl rfl rfl) om) rfl rfl ?_|refine eL (qD rfl rfl rfl) rfl rfl (fun h_=>?_) (fun h_=>?_)))|(refine aEs ?_;(first|refine bJ (Pu.t (qC rfl rfl rfl) om) rfl rfl ?_|refine bJ (Pu.f (qC rfl rfl rfl) om) rfl rfl ?_|refine eL (qC rfl rfl rfl) rfl rfl (fun h_=>?_) (fun h_=>?_)))|(refine aEr ?_;(first|refine bJ (Pu.t (qB rfl rfl rfl) om) rfl rfl ?_|refine bJ (Pu.f (qB rfl rfl rfl) om) rfl rfl ?_|refine eL (qB rfl rfl rfl) rfl rfl (fun h_=>?_) (fun h_=>?_)))|(refine aEq ?_;(first|refine bJ (wY rfl rfl rfl) rfl rfl ?_|refine bJ (qS rfl rfl rfl) rfl rfl ?_|refine bJ (Pu.t (nX rfl rfl rfl) om) rfl rfl ?_|refine bJ (Pu.f (nX rfl rfl rfl) om) rfl rfl ?_|refine eL (nX rfl rfl rfl) rfl rfl (fun h_=>?_) (fun h_=>?_)))|(refine aEw ?_;(first|refine bJ (xA rfl rfl rfl) rfl rfl ?_|refine bJ (qW rfl rfl rfl) rfl rfl ?_|refine bJ (Pu.t (qF rfl rfl rfl) om) rfl rfl ?_|refine bJ (Pu.f (qF rfl rfl rfl) om) rfl rfl ?_|refine eL (qF rfl rfl rfl) rfl rfl (fun h_=>?_) (fun h_=>?_)))|(refine aEB ?_;(first|refine aFC rfl rfl rfl rfl (fun b_=>?_)|refine aBs rfl rfl rfl rfl (fun b_=>?_)))|(refine aBu ?_;refine SL.alloc rfl rfl rfl (fun b_=>?_))|(refine aBx ?_;(first|refine SL.store rfl rfl rfl rfl rfl (by first|assumption|exact fE rfl) ?_|refine yB rfl rfl rfl rfl rfl (by first|assumption|rfl) (by rfl) ?_|refine uC rfl rfl rfl rfl rfl (by first|rfl|assumption) (by first|assumption|exact fE rfl) (by first|assumption|rfl) ?_))|refine iC ?_|refine nO ?_|refine mX ?_|refine SW.block ?_|refine aAq rfl ?_|refine aAp rfl ?_|refine aFI ?_|refine aDx ?_|refine aDw ?_|refine lC rfl (fun h_=>?_) (fun h_=>?_)|refine aFG aOE kr ?_|(refine SQ.isGd ?_;refine SQ.sk rfl rfl ?_)|(refine aHu ?_;refine gD (eV rfl rfl) rfl rfl ?_)|(refine aEE ?_;refine gD (pO rfl rfl) rfl rfl ?_)|(refine aIu ?_;refine gD (qG rfl rfl) rfl rfl ?_)|(refine aHs ?_;refine gD (fU rfl rfl rfl) rfl rfl ?_)|(refine aHt ?_;(first|refine gD (jH rfl rfl rfl) rfl rfl ?_|refine gD (jH rfl rfl (by assumption)) rfl rfl ?_|refine gD (mS rfl rfl rfl rfl) rfl rfl ?_|refine gD (mS rfl rfl (by assumption) (by assumption)) rfl rfl ?_))|(refine SQ.isCallB ?_;(first|refine gD (nY rfl rfl) rfl rfl ?_|refine gD (qV rfl rfl) rfl rfl ?_|refine gD (qU rfl rfl) rfl rfl ?_|refine gD (nW rfl rfl) rfl rfl ?_|refine gD (aDe rfl rfl rfl rfl) rfl rfl ?_|refine gD (aDf rfl rfl rfl rfl) rfl rfl ?_))|(refine SQ.isPick ?_;(first|refine gD (tR rfl rfl rfl) rfl rfl ?_|refine gD (tQ rfl rfl rfl) rfl rfl ?_))|(refine SQ.isMkFn ?_;refine gD (oZ rfl rfl rfl) rfl rfl ?_)|(refine SQ.isUn ?_;refine gD (aDg rfl rfl) rfl rfl ?_)|(refine SQ.isBuild ?_;(first|refine gD (mH rfl rfl (by rfl)) rfl rfl ?_|refine gD (mR rfl rfl (by rfl)) rfl rfl ?_))|(refine SQ.isFld ?_;(first|refine gD (qM rfl rfl rfl) rfl rfl ?_|refine gD (qM rfl rfl (by assumption)) rfl rfl ?_|refine gD (qT rfl rfl rfl) rfl rfl ?_))|(refine SQ.b_add ?_;refine gD (sB rfl rfl rfl (w64 om)) rfl rfl ?_)|(refine SQ.b_sub ?_;refine gD (aB4 rfl rfl rfl (w64 om)) rfl rfl ?_)|(refine SQ.b_mul ?_;refine gD (kG rfl rfl rfl (w64 om)) rfl rfl ?_)|(refine SQ.b_quo ?_;refine gD (aDh rfl rfl rfl dc (w64 om)) rfl rfl ?_)|(refine SQ.b_rem ?_;refine gD (aB2 rfl rfl rfl dc rfl) rfl rfl ?_)|(refine SQ.b_lss ?_;(first|refine gD (Pu.t (qE rfl rfl rfl) om) rfl rfl ?_|refine gD (Pu.f (qE rfl rfl rfl) om) rfl rfl ?_|refine aAn (qE rfl rfl rfl) rfl rfl (fun h_=>?_) (fun h_=>?_)))|(refine aIt ?_;(first|refine gD (Pu.t (qD rfl rfl rfl) om) rfl rfl ?_|refine gD (Pu.f (qD rfl rfl rfl) om) rfl rfl ?_|refine aAn (qD rfl rfl rfl) rfl rfl (fun h_=>?_) (fun h_=>?_)))|(refine SQ.b_gtr ?_;(first|refine gD (Pu.t (qC rfl rfl rfl) om) rfl rfl ?_|refine gD (Pu.f (qC rfl rfl rfl) om) rfl rfl ?_|refine aAn (qC rfl rfl rfl) rfl rfl (fun h_=>?_) (fun h_=>?_)))|(refine SQ.b_geq ?_;(first|refine gD (Pu.t (qB rfl rfl rfl) om) rfl rfl ?_|refine gD (Pu.f (qB rfl rfl rfl) om) rfl rfl ?_|refine aAn (qB rfl rfl rfl) rfl rfl (fun h_=>?_) (fun h_=>?_)))|(refine SQ.b_eql ?_;(first|refine gD (wY rfl rfl rfl) rfl rfl ?_|refine gD (qS rfl rfl rfl) rfl rfl ?_|refine gD (Pu.t (nX rfl rfl rfl) om) rfl rfl ?_|refine gD (Pu.f (nX rfl rfl rfl) om) rfl rfl ?_|refine aAn (nX rfl rfl rfl) rfl rfl (fun h_=>?_) (fun h_=>?_)))|(refine SQ.b_neq ?_;(first|refine gD (xA rfl rfl rfl) rfl rfl ?_|refine gD (qW rfl rfl rfl) rfl rfl ?_|refine gD (Pu.t (qF rfl rfl rfl) om) rfl rfl ?_|refine gD (Pu.f (qF rfl rfl rfl) om) rfl rfl ?_|refine aAn (qF rfl rfl rfl) rfl rfl (fun h_=>?_) (fun h_=>?_)))|refine aMz ?_)
  ·exact Fin.rm b_ (Fin.perm cO (Fin.s1 (.inl rfl) rfl rfl ⟨by simp [vJ,hd,h_],Hx,by simp [rT,hd,h_],by simpa [vI,hd,h_] using hD⟩))
  ·refine W.o ?_
   refine dH Hx rfl rfl rfl rfl rfl rfl hdo (fun _ _=>trivial) ?_
   rintro _ H2 ⟨rfl,hD2⟩
   have hD3:iQ p (vI σ r r') H2:=by simpa [vI,hd,h_] using hD2
   by_cases he:σ.dooE=0
   ·refine W.o ?_
    refine Fin.rm b_ (Fin.perm cO (Fin.s1 (.inl rfl) rfl rfl ⟨by simp [vJ,hd,h_,he],H2,by simp [rT,hd,h_,he],hD3⟩))
   ·refine W.o ?_
    refine Fin.rm b_ (Fin.perm cO (Fin.s1 (.inl rfl) rfl rfl ⟨by simp [vJ,hd,h_],H2,by simp [rT,hd,h_,he],hD3⟩))
 ·refine W.o ?_
  exact Fin.rm b_ (Fin.perm cO (Fin.s1 (.inl rfl) rfl rfl ⟨by simp [vJ,hd],Hx,by simp [rT,hd],by simpa [vI,hd] using hD⟩))
end
section
attribute [local irreducible] SW SL SQ SH SA SS Pu Fin bZ aT
abbrev uv(es:List UInt64):List Value:=es.map eK
theorem jI(es:List UInt64):(uv es).length=es.length:=aE ..
theorem aKo{es:List UInt64}{k:Nat}(h:k<es.length):(uv es)[k]?=some (eK (es.getD k 0)):=by
 rw [aH,aA h,aF,aA h];rfl
def uF(x:List UInt8)(n:Nat):List UInt64:=(List.range n).map fun k=>yL ((x.drop (8*k)).take 8)
theorem aES(x:List UInt8)(n:Nat):(uF x n).length=n:=by simp [uF]
theorem aHA(x:List UInt8)(n:Nat):uF x (n+1)=uF x n++[yL ((x.drop (8*n)).take 8)]:=by unfold uF;rw [bS,bB];rfl
theorem RB.rds{K:List Nat}{w0 w:World}{H Hc Ht r:Hp}{v:Value}{vs:List Value}{bss:List (List UInt8)}(hB:RB Ht vs bss)(hv:Rd (Hc.map Prod.fst) w 1 v vs)(hs:St K w0 H w) [hp:fI H (Hc++Ht) r]:RdS (Hc.map Prod.fst) w v bss:=
 ⟨vs,hv,hB.1,fun i bs hi=>by
  obtain⟨u,h1,h2⟩:=hB.2 i bs hi
  have hr:=h2.rd (Hc:=Hc) hs
  obtain⟨a,len,cap,rfl,-⟩:=h2
  exact⟨a,len,cap,h1,hr⟩⟩
theorem aIg{p t:Nat}(h:Gm.Ok p t){Ht:Hp}(v:Value)(vs:List Value)(bss:List (List UInt8))(hB:RB Ht vs bss)(hn:bss.length=Gm.epochs p)(h256:∀ b∈bss,b.length=256):Tri prog 194 [iX p t,v] Ht (fun w=>Rd (Ht.map Prod.fst) w 1 v vs)
  (fun r H=>∃ b,r=.tuple #[.slice (some ⟨b,0,none⟩) (Gm.sealed p) (Gm.sealed p),.int .i64 0]∧H=(b,cl (uv (uF bss.flatten (Gm.sealed p))) 28)::Ht):=by
 refine Tri.mk func194 rfl ntmps194 rfl fun w hw=>?_
 have hck:=iW h
 have hep:=yK h
 have hse:=uM h
 have hsl:=Gm.sealed_le h
 have hfl:=eD h256
 have he32:Gm.sealed p≤32*Gm.epochs p:=by unfold Gm.epochs Gm.up;omega
 have hel:=Gm.epochs_le h
 have hcb:=aK2 v vs bss hB om h256
 have hcc:=sU v bss (by rw [hfl];omega) om
 obtain⟨a,la,ca,rfl,hl1,hc1,hr1⟩:=hw.get
 rw [Nat.mul_one,hB.1] at hl1
 subst hl1
 have hY:One (Value.slice a bss.length ca):=⟨rfl⟩
 rw [← hn] at hep
 rw [hn] at hfl
 generalize Gm.sealed p=s at *
 refine W.k fun b_=>?_
 refine W.cw hck ?_
 refine W.cw hep ?_
 refine aL hcb ?_ (hpre:=fun w2 hs=>hw.ro (Hc:=Ht) hs)
 rintro _ Ht ⟨rfl,rfl⟩
 refine W.k ?_
 refine aL hcc ?_ (hpre:=fun w2 hs=>hB.rds (Hc:=[]) (hw.ro (Hc:=[]) hs) hs)
 intro v1 H1 h1
 have h11:=h1.isOne
 refine W.k ?_
 refine aL (aKy v1 bss.flatten om) ?_ (hpre:=fun w2 hs=>Rd.own (Hc:=[]) h1 hs inferInstance)
 rintro _ H2 ⟨q,rfl,hR⟩
 refine W.k ?_
 refine W.cq hse ?_
 refine W.j fun b_=>?_
 rw [show zs [Value.int .u64 0] s=uv (uF bss.flatten 0)++List.replicate (s-0) (.int .u64 0) by rw [lK];rfl]
 generalize b_=bs at *
 refine cN [8] ((bs,cl (uv (uF bss.flatten 0)++List.replicate (s-0) (.int .u64 0)) 28)::H2) (fun _:Unit=>[]) (fun _=>[(bs,cl (uv (uF bss.flatten s)) 28)]) (fun _=>True) ?_ ?_
 ·refine W.k ?_
  refine bN [7,8,33] (fun x:Nat×Hp=>[(34,.int .i64 (x.1:Int))]) (fun x=>(bs,cl (uv (uF bss.flatten x.1)++List.replicate (s-x.1) (.int .u64 0)) 28)::x.2) (fun x=>s-x.1) (fun x=>x.1≤s∧aDt q (bss.flatten.drop (8*x.1)) x.2) (0,H2) ⟨Nat.zero_le _,hR⟩ ?_
  rintro⟨k,H3⟩ ⟨hk,hR3⟩
  dsimp only at hk hR3 ⊢
  by_cases hks:k<s
  ·have hnm:=vM hR3 8 dc dc (by rw [aK];omega) (by rw [aK];omega)
   rw [bR,show 8*k+8=8*(k+1) by omega] at hnm
   have hlt:k<(uv (uF bss.flatten k)++List.replicate (s-k) (Value.int .u64 0)).length:=by rw [aC,jI,aES,aM];omega
   have hf:=aAv (uv (uF bss.flatten k)) (s-(k+1)) (.int .u64 0) (.int .u64 (eP ((bss.flatten.drop (8*k)).take 8):Nat))
   rw [show s-(k+1)+1=s-k by omega,jI,aES] at hf
   have hu:Value.int .u64 ((eP ((bss.flatten.drop (8*k)).take 8):Nat):Int)=eK (yL ((bss.flatten.drop (8*k)).take 8)):=by unfold eK;rw [zM]
   have he:uv (uF bss.flatten k)++[.int .u64 (eP ((bss.flatten.drop (8*k)).take 8):Nat)]=uv (uF bss.flatten (k+1)):=by rw [hu,aHA];simp
   rw [he] at hf
   refine W.k ?_
   refine dH H3 rfl rfl rfl rfl rfl rfl hnm (fun _ _=>trivial) ?_
   rintro _ H4 ⟨rfl,hR4⟩
   refine W.k ?_
   rw [hf]
   refine aT.mk (k+1,H4) ?_
   exact⟨hks,hR4⟩
  ·have:k=s:=om
   subst this
   rw [dM,List.replicate_zero,aJ]
   refine W.k ?_
   refine bZ.mk () ?_
   trivial
 rintro _ -
 refine W.k ?_
 refine Fin.to ((bs,cl (uv (uF bss.flatten s)) 28)::Ht) ?_
 exact F.f2 ⟨bs,rfl,rfl⟩
theorem aFw{p t:Nat}(h:Gm.Ok p t)(k:Nat)(hk:k<Gm.epochs p)(v:Value)(es:List UInt64)(hn:es.length=Gm.sealed p):Tri prog 132 [iX p t,.int .i64 (k:Int),v] [] (fun w=>Rd [] w 1 v (uv es))
  (fun r H=>∃ b,r=.tuple #[.slice (some ⟨b,0,none⟩) 256 256,.int .i64 0]∧H=[(b,cl (cbs (epB k es)) 5)]):=by
 refine Tri.mk func132 rfl ntmps132 rfl fun w hw=>?_
 have hck:=iW h
 have hse:=uM h
 have hea:=aBO h (k:Int)
 rw [show Gm.atK (Gm.epochs p) 1 (k:Int)=((1+k:Nat):Int) by unfold Gm.atK;rw [if_pos om];omega] at hea
 have hsl:=Gm.sealed_le h
 have hel:=Gm.epochs_le h
 have hk32:32*k<Gm.sealed p:=by unfold Gm.epochs Gm.up at hk;omega
 rw [← hn] at hse hsl hk32
 have hw0:=hw
 obtain⟨a,la,ca,rfl,hl1,hc1,hr1⟩:=hw.get
 rw [Nat.mul_one,jI] at hl1
 subst hl1
 have hY:One (Value.slice a es.length ca):=⟨rfl⟩
 have hm:min (32*(k+1)) es.length=min (32*k+32) es.length:=by rw [show 32*(k+1)=32*k+32 by omega]
 haveI i1:eG (min (32*((k:Int)+1)) (es.length:Int)) (min (32*k+32) es.length):=⟨by omega⟩
 haveI i2:eG (32*(k:Int)) (32*k):=⟨by omega⟩
 have hmd:min (32*k+32) es.length=32*k+((es.drop (32*k)).take 32).length:=by rw [aD,aK];omega
 have hcut:=hw0.cutN ca (32*k) (min (32*k+32) es.length) (ca-32*k) om om om om
 rw [Nat.mul_one,Nat.mul_one,show (List.drop (32*k) (uv es)).take (min (32*k+32) es.length-32*k)=uv ((es.drop (32*k)).take 32) by
  rw [hmd,dI,← jQ,← jR,aD,← fS]
  congr 1
  rw [aB (Nat.le_refl _)]] at hcut
 rw [hmd] at i1 hcut
 have hepb:epB k es=pad 256 (((es.drop (32*k)).take 32).flatMap (leN 8)):=rfl
 rw [hepb]
 have hl32:((es.drop (32*k)).take 32).length≤32:=by rw [aD];omega
 have hle2:32*k+((es.drop (32*k)).take 32).length≤es.length:=by rw [aD,aK];omega
 generalize (es.drop (32*k)).take 32=fs at *
 rw [dI] at hcut
 refine W.k fun b_=>?_
 refine W.cw hck ?_
 refine W.cw hse ?_
 refine W.cw hea ?_
 refine W.sG ?_ (i1:=i1)
 rw [dI]
 obtain⟨a3,la3,ca3,he3,hl3,hc3,hr3⟩:=hcut.get
 simp only [Value.slice.injEq] at he3
 obtain⟨rfl,rfl,rfl⟩:=he3
 generalize lJ a ca (32*k) 1=a3 at *
 have hfm:∀ l:List UInt64,(l.flatMap (leN 8)).length=8*l.length:=fun l=>by
  induction l with
  | nil=>rfl
  | cons x r ih=>rw [fK,aC,ih,cJ];simp;omega
 refine W.j ?_
 refine cN [] [] (fun x:Value×Hp=>[(8,x.1)]) (fun x=>x.2) (fun x=>Sl 5 1 x.1 (cbs (fs.flatMap (leN 8))) x.2) ?_ ?_
 ·refine W.k ?_
  refine bN [36,37] (fun x:Nat×Value×Hp=>[(8,x.2.1),(38,.int .i64 (x.1:Int))]) (fun x=>x.2.2) (fun x=>fs.length-x.1) (fun x=>x.1≤fs.length∧Sl 5 1 x.2.1 (cbs ((fs.take x.1).flatMap (leN 8))) x.2.2) (0,.slice none 0 0,[]) ⟨Nat.zero_le _,Sl.nil _ _⟩ ?_
  rintro⟨j,v2,H2⟩ ⟨hj,h2⟩
  dsimp only at hj h2 ⊢
  have h21:=h2.isOne
  by_cases hjl:j<fs.length
  ·obtain⟨bb,o,l,T,fz,rfl,hb,hkK,hy⟩:=hr3 om
   have hlu:l[o+j]?=some (eK (fs.getD j 0)):=by
    have h2:((l.drop o).take (fs.length*1))[j]?=(uv fs)[j]?:=by rw [hy]
    rw [bI,if_pos om,bD,aKo hjl] at h2
    exact h2
   have hts:(fs.take (j+1)).flatMap (leN 8)=(fs.take j).flatMap (leN 8)++leN 8 (fs.getD j 0):=by
    rw [aO,aA hjl,dJ,aF,aA hjl]
    simp
   generalize fs.getD j 0=e at *
   have htl:(fs.take j).length=j:=by rw [aD];omega
   refine W.k ?_
   refine aL (rJ 8 e om om) ?_
   rintro _ _ ⟨b6,rfl,rfl⟩
   refine W.ap h2 (ys:=cbs (leN 8 e)) (mm:=8) (fun w2 hs=>(Sl.own 5 1 b6 (len:=8) (xs:=cbs (leN 8 e)) (by rw [aI,cJ])).srcAt hs inferInstance) (fun v3 H3 h3=>?_) (hys:=by rw [aI,cJ]) (hbytes:=by rw [aI,aI,hfm,htl,cJ];omega)
   have h31:=h3.isOne
   rw [← gT,← hts] at h3
   refine W.k ?_
   refine aT.mk (j+1,v3,H3) ?_
   exact⟨hjl,h3⟩
  ·have:j=fs.length:=om
   subst this
   rw [bT] at h2
   refine W.k ?_
   refine bZ.mk (v2,H2) ?_
   exact h2
 rintro⟨v2,H2⟩ h2
 dsimp only at h2 ⊢
 have h21:=h2.isOne
 refine W.k ?_
 refine aL (yA v2 (fs.flatMap (leN 8)) 256 dc dc (by rw [hfm];omega)) ?_ (hpre:=fun w2 hs=>Rd.own (Hc:=[]) h2 hs inferInstance)
 rintro _ _ ⟨b7,rfl,rfl⟩
 refine W.k ?_
 refine Fin.to [(b7,cl (cbs (pad 256 (fs.flatMap (leN 8)))) 5)] ?_
 exact F.f2 ⟨b7,rfl,rfl⟩
end
theorem aCr(σ:Dv)(x:Int)(bs:List UInt8):(σ.store x bs).ws.length=σ.ws.length:=by
 unfold Dv.store
 split
 ·split
  ·show (qA _ _ _).length=_
   rw [aGn,pY]
  ·exact pY _ _
 ·rfl
theorem aEU(σ:Dv)(x n:Int):(σ.flush x n).ws.length=σ.ws.length:=by
 unfold Dv.flush
 split
 ·split
  ·show (lH _ _ _).length=_
   unfold lH
   split
   ·exact pY _ _
   ·rw [oI,pY]
  ·exact pY _ _
 ·rfl
theorem vS(σ:Dv):σ.fence.ws.length=σ.ws.length:=by
 unfold Dv.fence
 split
 ·split
  ·show (List.map _ _).length=_
   rw [aE,pY]
  ·exact pY _ _
 ·rfl
theorem aMV(σ:Dv):σ.doo.ws.length=σ.ws.length:=by
 unfold Dv.doo
 split
 ·rfl
 ·exact pY _ _
end Go.Proofs.YtnigolgkkjidiaaGreat
