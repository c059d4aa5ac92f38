/- The memory that lasts: its model, and words. The memory that lasts: the program's small methods. The memory that lasts: the power goes. The memory that lasts: an act. The memory that lasts: Do, Flush, Fence, Arm, New, Acts. The memory that lasts: Arm, New, Acts. A register beside a device. The memory that lasts, byte by byte: what is stored, and read (no program in sight but the cells). The memory that lasts: Store, Flush, Fence. The memory that lasts: Flush, Fence, Load. -/
import Derived.Test.YtnigolgkkjidiaaGreatPm2
import Derived.Test.YtnigolgkkjidiaaGreatPm0
import Derived.Test.YtnigolgkkjidiaaGreatPm1
set_option linter.unusedVariables false
set_option linter.unusedSimpArgs false
set_option linter.unusedSectionVars false
set_option maxHeartbeats 1600000
namespace Go.Proofs.YtnigolgkkjidiaaGreat
open Go
attribute [local irreducible] SW SL SQ SH SA Pu Fin
structure Wd where
 lasts:List UInt8
 now:List UInt8
 pend:Bool
 mark:Bool
structure Dv where
 ws:List Wd
 down:Bool
 fuse:Int
 picks:List UInt8
 acts:List (Int×Int×Int)
def bv(b:UInt8):Value:=.int .u8 (b.toNat:Int)
instance(b:UInt8):One (bv b):=⟨rfl⟩
def wc(w:Wd):List Value:=w.lasts.map bv++(w.now.map bv++[.bool w.pend,.bool w.mark])
def ac(a:Int×Int×Int):List Value:=[.int .i64 a.1,.int .i64 a.2.1,.int .i64 a.2.2]
instance(a:Int×Int×Int):OC (ac a):=by unfold ac;infer_instance
def Wd.Len(w:Wd):Prop:=w.lasts.length=8∧w.now.length=8
def Wd.Ok(w:Wd):Prop:=w.Len∧(w.mark=true→w.pend=true)
theorem wc_len{w:Wd}(h:w.Len):(wc w).length=18:=by simp [wc,h.1,h.2]
structure Dv.Ok(σ:Dv):Prop where
 n:σ.ws.length≤8192
 ok:∀ w∈σ.ws,w.Ok
 f0:0≤σ.fuse
 f1:σ.fuse≤9223372036854775807
 a:σ.acts.length≤16384
def DevP(p:Nat)(σ:Dv)(H:Hp):Prop:=
 σ.Ok∧∃ bw vp va Hq Ha,Sl 5 1 vp (σ.picks.map bv) Hq∧Sl 166 3 va (σ.acts.flatMap ac) Ha ∧
  H=(p,cl [.slice (some ⟨bw,0,none⟩) σ.ws.length σ.ws.length,.bool σ.down,.int .i64 σ.fuse,vp,va] 152)::(bw,cl (σ.ws.flatMap wc) 271)::(Hq++Ha)
theorem Sl.one{e n:Nat}{v:Value}{xs:List Value}{H:Hp}(h:Sl e n v xs H):One v:=by
 rcases h with ⟨rfl,_,_⟩|⟨b,len,cap,junk,rfl,_⟩ <;> exact⟨rfl⟩
def Wd.stored(w:Wd):Wd:={ w with pend:=true,mark:=false }
def Wd.flushed(w:Wd):Wd:={ w with mark:=w.pend }
def Wd.fenced(w:Wd):Wd:=bif w.mark then { lasts:=w.now,now:=w.now,pend:=false,mark:=false } else w
theorem Wd.stored_ok{w:Wd}(h:w.Ok):w.stored.Ok:=⟨h.1,by simp [Wd.stored]⟩
theorem Wd.flushed_ok{w:Wd}(h:w.Ok):w.flushed.Ok:=⟨h.1,by simp [Wd.flushed]⟩
theorem Wd.fenced_ok{w:Wd}(h:w.Ok):w.fenced.Ok:=by
 unfold Wd.fenced
 cases hm:w.mark
 ·exact h
 ·exact⟨⟨h.1.2,h.1.2⟩,by simp⟩
def WordFn(g:FuncId)(h:Wd→Wd):Prop:=∀ (b:Nat) (A B:List Value) (u:Wd),u.Ok →
 Tri Tryz.prog g [.pointer (some ⟨b,A.length,none⟩)] [(b,cl (A++(wc u++B)) 271)] (fun _=>True) (fun v H'=>v=.tuple #[]∧H'=[(b,cl (A++(wc (h u)++B)) 271)])
theorem wc_get(A B:List Value){u:Wd}(h:u.Len):(A++(wc u++B))[A.length+16]?=some (.bool u.pend)∧(A++(wc u++B))[A.length+17]?=some (.bool u.mark):=by
 constructor
 ·rw [get_mid A _ B 16 _ rfl (by rw [wc_len h];omega)];simp [wc,List.getElem?_append,h.1,h.2]
 ·rw [get_mid A _ B 17 _ rfl (by rw [wc_len h];omega)];simp [wc,List.getElem?_append,h.1,h.2]
theorem wc_set(A B:List Value){u:Wd}(h:u.Len)(p:Bool):(A++(wc u++B)).set (A.length+16) (.bool p)=A++(wc { u with pend:=p }++B)∧(A++(wc u++B)).set (A.length+17) (.bool p)=A++(wc { u with mark:=p }++B):=by
 constructor
 ·rw [set_mid A _ B 16 _ _ rfl (by rw [wc_len h];omega)];simp [wc,List.set_append,h.1,h.2]
 ·rw [set_mid A _ B 17 _ _ rfl (by rw [wc_len h];omega)];simp [wc,List.set_append,h.1,h.2]
theorem wc_now(A B:List Value){u:Wd}(h:u.Len):((A++(wc u++B)).drop (A.length+8)).take 8=u.now.map bv∧((A++(wc u++B)).drop (A.length+0)).take 8=u.lasts.map bv:=by
 constructor
 ·rw [take_mid A _ B 8 8 _ rfl (by rw [wc_len h];omega)]
  simp [wc,List.drop_append,h.1,h.2,List.drop_eq_nil_of_le,List.take_of_length_le]
 ·rw [take_mid A _ B 0 8 _ rfl (by rw [wc_len h];omega)]
  simp [wc,h.1,h.2,List.take_of_length_le]
theorem wc_put(A B:List Value){u:Wd}(h:u.Len)(r:List UInt8)(hr:r.length=8) :
  (A++(wc u++B)).take (A.length+0)++r.map bv++(A++(wc u++B)).drop (A.length+0+8)=A++(wc { u with lasts:=r }++B) ∧
  (A++(wc u++B)).take (A.length+8)++r.map bv++(A++(wc u++B)).drop (A.length+8+8)=A++(wc { u with now:=r }++B):=by
 have hl:(r.map bv).length=8:=by simpa using hr
 constructor
 ·have:=splice_mid A (wc u) B (r.map bv) 0 (A.length+0) rfl (by rw [wc_len h,hl];omega)
  rw [hl] at this
  rw [this]
  simp [wc,h.1,h.2,List.drop_append,List.drop_eq_nil_of_le]
 ·have:=splice_mid A (wc u) B (r.map bv) 8 (A.length+8) rfl (by rw [wc_len h,hl];omega)
  rw [hl] at this
  rw [this]
  simp [wc,h.1,h.2,List.take_append,List.drop_append,List.drop_eq_nil_of_le,List.take_of_length_le]
theorem len_wc(A B:List Value){u:Wd}(h:u.Len):(A++(wc u++B)).length=A.length+(18+B.length):=by simp [wc_len h]
theorem stored_p:WordFn 275 Wd.stored:=fun b A B u hu=>by
 have hl:=len_wc A B hu.1
 have h16:A.length+16<(A++(wc u++B)).length:=by rw [hl];omega
 have h17:A.length+17<((A++(wc u++B)).set (A.length+16) (.bool true)).length:=by rw [List.length_set,hl];omega
 refine Tri.mk Tryz.func275 rfl Tryz.ntmps275 rfl fun w hw=>?_
 repeat' (refine W.ow ?_;try intro b_)
 refine Fin.s0 (.inr rfl) rfl ⟨rfl,?_⟩
 rw [(wc_set A B hu.1 true).1,(wc_set A B (u:={ u with pend:=true }) hu.1 false).2]
 rfl
theorem flushed_p:WordFn 276 Wd.flushed:=fun b A B u hu=>by
 have hl:=len_wc A B hu.1
 have h17:A.length+17<(A++(wc u++B)).length:=by rw [hl];omega
 have g16:=(wc_get A B hu.1).1
 refine Tri.mk Tryz.func276 rfl Tryz.ntmps276 rfl fun w hw=>?_
 repeat' (refine W.ow ?_;try intro b_)
 refine Fin.s0 (.inr rfl) rfl ⟨rfl,?_⟩
 rw [(wc_set A B hu.1 _).2]
 rfl
theorem fenced_p:WordFn 188 Wd.fenced:=fun b A B u hu=>by
 have hl:=len_wc A B hu.1
 have g17:=(wc_get A B hu.1).2
 have gn:=(wc_now A B hu.1).1
 have hn:(u.now.map bv).length=8:=by simpa using hu.1.2
 have h0:A.length+0+8≤(A++(wc u++B)).length:=by rw [hl];omega
 have gp:=(wc_put A B hu.1 u.now hu.1.2).1
 have hu2:({ u with lasts:=u.now }:Wd).Len:=⟨hu.1.2,hu.1.2⟩
 have hl2:=len_wc A B hu2
 have h16:A.length+16<(A++(wc { u with lasts:=u.now }++B)).length:=by rw [hl2];omega
 have h17:A.length+17<((A++(wc { u with lasts:=u.now }++B)).set (A.length+16) (.bool false)).length:=by rw [List.length_set,hl2];omega
 refine Tri.mk Tryz.func188 rfl Tryz.ntmps188 rfl fun w hw=>?_
 repeat' (refine W.ow ?_;try intro b_)
 refine SW.cond_b rfl (fun hm=>?_) (fun hm=>?_)
 ·repeat' (refine W.ow ?_;try intro b_)
  refine Fin.s0 (.inr rfl) rfl ⟨rfl,?_⟩
  rw [(wc_set A B hu2 false).1]
  rw [(wc_set A B (u:={ u with lasts:=u.now,pend:=false }) hu2 false).2]
  simp [Wd.fenced,hm]
 ·repeat' (refine W.ow ?_;try intro b_)
  refine Fin.s0 (.inr rfl) rfl ⟨rfl,?_⟩
  simp [Wd.fenced,hm]
end Go.Proofs.YtnigolgkkjidiaaGreat
namespace Go.Proofs.YtnigolgkkjidiaaGreat
open Go
attribute [local irreducible] SW SL SQ SH SA Pu Fin
theorem ndown_p{p:Nat}{σ:Dv}{H:Hp}(hD:DevP p σ H):Tri Tryz.prog 107 [.pointer (some ⟨p,0,none⟩)] H (fun _=>True) (fun v H'=>v=.bool σ.down∧H'=H):=by
 obtain⟨hO,bw,vp,va,Hq,Ha,h1,h2,rfl⟩:=hD
 refine Tri.mk Tryz.func107 rfl Tryz.ntmps107 rfl fun w hw=>?_
 repeat' (refine W.ow ?_;try intro b_)
 exact Fin.s1 (.inl rfl) rfl rfl ⟨rfl,rfl⟩
def Dv.len(σ:Dv):Nat:=8*σ.ws.length
theorem len_p{p:Nat}{σ:Dv}{H:Hp}(hD:DevP p σ H):Tri Tryz.prog 14 [.pointer (some ⟨p,0,none⟩)] H (fun _=>True) (fun v H'=>v=.int .i64 σ.len∧H'=H):=by
 obtain⟨hO,bw,vp,va,Hq,Ha,h1,h2,rfl⟩:=hD
 have hn:=hO.n
 refine Tri.mk Tryz.func14 rfl Tryz.ntmps14 rfl fun w hw=>?_
 repeat' (refine W.ow ?_;try intro b_)
 exact Fin.s1 (.inl rfl) rfl rfl ⟨by simp [Dv.len],rfl⟩
def Dv.rdy(σ:Dv)(x n:Int):Int:=if σ.down=true then 8 else if x<0∨n<0∨(σ.len:Int)<n∨(σ.len:Int)-n<x then 3 else 0
theorem ready_p{p:Nat}{σ:Dv}{H:Hp}(hD:DevP p σ H)(x n:Int):Tri Tryz.prog 140 [.pointer (some ⟨p,0,none⟩),.int .i64 x,.int .i64 n] H (fun _=>True) (fun v H'=>v=.int .i64 (σ.rdy x n)∧H'=H):=by
 have hlen:=len_p hD
 obtain⟨hO,bw,vp,va,Hq,Ha,h1,h2,hH⟩:=hD
 have hn:σ.len≤65536:=by have:=hO.n;simp only [Dv.len];omega
 subst hH
 refine Tri.mk Tryz.func140 rfl Tryz.ntmps140 rfl fun w hw=>?_
 repeat' (first|(refine SL.isGd ?_;refine SL.sk rfl rfl ?_)|(refine SL.isCallV ?_;((refine SL.call _ rfl rfl rfl rfl hlen (fun _ _=>trivial) ?_;rintro _ _ ⟨rfl,rfl⟩)))|(refine W.ow ?_;try intro b_)  | refine SL.cmp (p_lss rfl rfl rfl) rfl rfl (fun h_=>?_) (fun h_=>?_)|refine SL.cmp (p_leq rfl rfl rfl) rfl rfl (fun h_=>?_) (fun h_=>?_)|refine SL.cmp (p_gtr rfl rfl rfl) rfl rfl (fun h_=>?_) (fun h_=>?_)|refine SL.cmp (p_geq rfl rfl rfl) rfl rfl (fun h_=>?_) (fun h_=>?_)|refine SL.cmp (p_eql rfl rfl rfl) rfl rfl (fun h_=>?_) (fun h_=>?_)|refine SL.cmp (p_neq rfl rfl rfl) rfl rfl (fun h_=>?_) (fun h_=>?_)|refine SW.cond_b rfl (fun h_=>?_) (fun h_=>?_))
 all_goals (refine Fin.r1 (.inl rfl) rfl rfl _ ⟨?_,rfl⟩;unfold Dv.rdy;congr 1)
 all_goals (repeat' split)
 all_goals first|rfl|(exfalso;simp_all;done)|(exfalso;omega)
def mapR(h:Wd→Wd)(x y:Nat)(ws:List Wd):List Wd:=ws.mapIdx fun i w=>if x≤i∧i<y then h w else w
theorem mapR_none(h:Wd→Wd)(x:Nat)(ws:List Wd):mapR h x x ws=ws:=by
 apply List.ext_getElem?
 intro i
 simp only [mapR,List.getElem?_mapIdx]
 cases ws[i]? with
 | none=>rfl
 | some w=>simp only [Option.map_some];rw [if_neg (by omega)]
theorem mapR_step(h:Wd→Wd)(x y:Nat)(ws:List Wd)(w:Wd)(hxy:x≤y)(hw:ws[y]?=some w):(mapR h x y ws)[y]?=some w∧(mapR h x y ws).set y (h w)=mapR h x (y+1) ws:=by
 constructor
 ·simp only [mapR,List.getElem?_mapIdx,hw,Option.map_some];rw [if_neg (by omega)]
 ·apply List.ext_getElem?
  intro i
  simp only [mapR,List.getElem?_set,List.length_mapIdx,List.getElem?_mapIdx]
  by_cases hi:y=i
  ·subst hi
   have hlt:y<ws.length:=(List.getElem?_eq_some_iff.1 hw).1
   simp only [hlt,if_true,hw,Option.map_some]
   rw [if_pos (by omega)]
  ·rw [if_neg hi]
   cases ws[i]? with
   | none=>rfl
   | some u=>
    simp only [Option.map_some,Option.some.injEq]
    by_cases h1:x≤i∧i<y
    ·rw [if_pos h1,if_pos (by omega)]
    ·rw [if_neg h1,if_neg (by omega)]
theorem mapR_len(h:Wd→Wd)(x y:Nat)(ws:List Wd):(mapR h x y ws).length=ws.length:=by simp [mapR]
theorem mapR_ok{h:Wd→Wd}(hh:∀ w,w.Ok→(h w).Ok)(x y:Nat){ws:List Wd}(hw:∀ w∈ws,w.Ok):∀ w∈mapR h x y ws,w.Ok:=by
 intro w hm
 obtain⟨i,hi⟩:=List.mem_iff_getElem?.1 hm
 simp only [mapR,List.getElem?_mapIdx] at hi
 cases hu:ws[i]? with
 | none=>rw [hu] at hi;simp at hi
 | some u=>
  rw [hu] at hi
  simp only [Option.map_some,Option.some.injEq] at hi
  have hm:u∈ws:=List.mem_of_getElem? hu
  rw [← hi]
  split
  ·exact hh u (hw u hm)
  ·exact hw u hm
theorem each_p{g:FuncId} [IsFn Tryz.prog g]{h:Wd→Wd}(hg:WordFn g h)(hh:∀ w,w.Ok→(h w).Ok)(p bw n:Nat)(x1 x2 x3 x4:Value)(ws:List Wd)(hn:ws.length=n)(hn2:n≤8192)(hok:∀ w∈ws,w.Ok)(x y:Nat)(hxy:x≤y)(hy:y≤n) :
  Tri Tryz.prog 187 [.pointer (some ⟨p,0,none⟩),.int .i64 x,.int .i64 y,.func (.func g) #[] #[]] [(p,cl [.slice (some ⟨bw,0,none⟩) n n,x1,x2,x3,x4] 152),(bw,cl (ws.flatMap wc) 271)] (fun _=>True)
   (fun v H'=>v=.tuple #[]∧H'=[(p,cl [.slice (some ⟨bw,0,none⟩) n n,x1,x2,x3,x4] 152),(bw,cl ((mapR h x y ws).flatMap wc) 271)]):=by
 refine Tri.mk Tryz.func187 rfl Tryz.ntmps187 rfl fun w hw=>?_
 repeat' (first|(refine W.ow ?_;try intro b_)  | refine SL.cmp (p_lss rfl rfl rfl) rfl rfl (fun h_=>?_) (fun h_=>?_)|refine SL.cmp (p_leq rfl rfl rfl) rfl rfl (fun h_=>?_) (fun h_=>?_)|refine SL.cmp (p_gtr rfl rfl rfl) rfl rfl (fun h_=>?_) (fun h_=>?_)|refine SL.cmp (p_geq rfl rfl rfl) rfl rfl (fun h_=>?_) (fun h_=>?_)|refine SL.cmp (p_eql rfl rfl rfl) rfl rfl (fun h_=>?_) (fun h_=>?_)|refine SL.cmp (p_neq rfl rfl rfl) rfl rfl (fun h_=>?_) (fun h_=>?_)|refine SW.cond_b rfl (fun h_=>?_) (fun h_=>?_))
 refine SW.loopN (fun k:Nat=>[(0,.pointer (some ⟨p,0,none⟩)),(2,.int .i64 y),(3,.func (.func g) #[] #[]),(8,.int .i64 k)])
  (fun k=>[(p,cl [.slice (some ⟨bw,0,none⟩) n n,x1,x2,x3,x4] 152),(bw,cl ((mapR h x k ws).flatMap wc) 271)])
  (fun k=>y-k) (fun k=>x≤k∧k≤y) x ⟨rfl,rfl,rfl,rfl,trivial⟩ (by rw [mapR_none];infer_instance) ⟨Nat.le_refl _,hxy⟩ ?_
 rintro k ⟨hk1,hk2⟩
 repeat' (first|(refine W.ow ?_;try intro b_)  | refine SL.cmp (p_lss rfl rfl rfl) rfl rfl (fun h_=>?_) (fun h_=>?_)|refine SL.cmp (p_leq rfl rfl rfl) rfl rfl (fun h_=>?_) (fun h_=>?_)|refine SL.cmp (p_gtr rfl rfl rfl) rfl rfl (fun h_=>?_) (fun h_=>?_)|refine SL.cmp (p_geq rfl rfl rfl) rfl rfl (fun h_=>?_) (fun h_=>?_)|refine SL.cmp (p_eql rfl rfl rfl) rfl rfl (fun h_=>?_) (fun h_=>?_)|refine SL.cmp (p_neq rfl rfl rfl) rfl rfl (fun h_=>?_) (fun h_=>?_)|refine SW.cond_b rfl (fun h_=>?_) (fun h_=>?_))
 ·have hlt:k<ws.length:=by omega
  obtain⟨u,hu⟩:∃ u,ws[k]?=some u:=⟨_,List.getElem?_eq_getElem hlt⟩
  obtain⟨h1,h2⟩:=mapR_step h x k ws u hk1 hu
  have hok2:=mapR_ok hh x k hok
  have hl2:(mapR h x k ws).length=n:=by rw [mapR_len,hn]
  have hwl:∀ w∈mapR h x k ws,(wc w).length=18:=fun w hw=>wc_len (hok2 w hw).1
  rw [fm_split wc _ k u h1]
  have hA:(((mapR h x k ws).take k).flatMap wc).length=k*18:=by rw [fm_len wc 18 _ (fun w hw=>hwl w (List.mem_of_mem_take hw)),List.length_take];congr 1;omega
  have hf:=hg bw (((mapR h x k ws).take k).flatMap wc) (((mapR h x k ws).drop (k+1)).flatMap wc) u (hok2 _ (List.mem_of_getElem? h1))
  rw [hA] at hf
  repeat' (refine W.ow ?_;try intro b_)
  refine SL.pu (p_indexAddr rfl rfl rfl (by omega) (by omega) (j':=k*18) (by omega)) rfl rfl ?_
  refine SL.callv [(bw,_)] rfl rfl rfl rfl rfl rfl hf (fun _ _=>trivial) ?_
  rintro _ _ ⟨rfl,rfl⟩
  rw [← fm_set wc _ k _ (by omega),h2]
  repeat' (refine W.ow ?_;try intro b_)
  refine HandN.mk (k+1) (by omega) ⟨rfl,rfl,rfl,rfl,trivial⟩ inferInstance ⟨by omega,by omega⟩
 ·refine Fin.s0 (.inr rfl) rfl ⟨rfl,?_⟩
  have:k=y:=by omega
  rw [this]
end Go.Proofs.YtnigolgkkjidiaaGreat
namespace Go.Proofs.YtnigolgkkjidiaaGreat
open Go
attribute [local irreducible] SW SL SQ SH SA Pu Fin
def bitP(q:List UInt8)(j:Nat):Bool:=match q[j%q.length]? with
 | some b=>(b &&& 1) == 1
 | none=>false
def Wd.crash(b:Bool)(w:Wd):Wd:=⟨bif b then w.now else w.lasts,bif b then w.now else w.lasts,false,false⟩
def crashL(q:List UInt8):Nat→List Wd→List Wd
 | _,[]=>[]
 | j,w::t=>bif w.pend then w.crash (bitP q j)::crashL q (j+1) t else w::crashL q j t
def Dv.crash(q:List UInt8)(σ:Dv):Dv:=bif σ.down then σ else { σ with ws:=crashL q 0 σ.ws,down:=true,fuse:=0 }
theorem crashL_len(q:List UInt8):∀ (j:Nat) (l:List Wd),(crashL q j l).length=l.length
 | _,[]=>rfl
 | j,w::t=>by unfold crashL;cases w.pend <;> simp [crashL_len q _ t]
theorem Wd.crash_ok{w:Wd}(b:Bool)(h:w.Ok):(w.crash b).Ok:=by
 cases b
 ·exact⟨⟨h.1.1,h.1.1⟩,by simp [Wd.crash]⟩
 ·exact⟨⟨h.1.2,h.1.2⟩,by simp [Wd.crash]⟩
theorem crashL_ok(q:List UInt8):∀ (j:Nat) (l:List Wd),(∀ w∈l,w.Ok)→∀ w∈crashL q j l,w.Ok
 | _,[],_=>by simp [crashL]
 | j,w::t,h=>by
  unfold crashL
  have ht:∀ w∈t,w.Ok:=fun x hx=>h x (by simp [hx])
  cases w.pend
  ·intro x hx
   simp only [cond_false,List.mem_cons] at hx
   rcases hx with rfl|hx
   ·exact h x (by simp)
   ·exact crashL_ok q _ t ht x hx
  ·intro x hx
   simp only [cond_true,List.mem_cons] at hx
   rcases hx with rfl|hx
   ·exact Wd.crash_ok _ (h w (by simp))
   ·exact crashL_ok q _ t ht x hx
theorem Dv.crash_ok{σ:Dv}(q:List UInt8)(h:σ.Ok):(σ.crash q).Ok:=by
 unfold Dv.crash
 cases σ.down
 ·exact⟨by simp only [cond_false];rw [crashL_len];exact h.n,crashL_ok q 0 _ h.ok,Int.le_refl _,by simp,h.a⟩
 ·exact h
theorem bit_mask(b:UInt8):(IntKind.u8.wrap (((BitVec.ofInt IntKind.u8.bits ((b.toNat:Nat):Int)) &&& (BitVec.ofInt IntKind.u8.bits 1)).toNat)=1)↔((b &&& 1) == 1)=true:=by
 have hp:(0:Nat)<2^8:=by decide
 have h1:((b &&& 1) == 1)=true↔b.toNat%2=1:=by
  rw [beq_iff_eq,← UInt8.toNat_inj,UInt8.toNat_and,UInt8.toNat_one,Nat.and_one_is_mod]
 rw [h1]
 have h2:(((BitVec.ofInt IntKind.u8.bits ((b.toNat:Nat):Int)) &&& (BitVec.ofInt IntKind.u8.bits 1)).toNat)=b.toNat%2:=by
  have e1:BitVec.ofInt IntKind.u8.bits ((b.toNat:Nat):Int)=b.toBitVec:=by
   apply BitVec.eq_of_toNat_eq;rw [BitVec.toNat_ofInt];have:=b.toNat_lt;show ((b.toNat:Int)%(256:Int)).toNat=b.toNat;omega
  have e2:BitVec.ofInt IntKind.u8.bits 1=(1:BitVec 8):=rfl
  rw [e1,e2]
  show (b.toBitVec &&& (1:BitVec 8)).toNat=_
  rw [BitVec.toNat_and]
  exact Nat.and_one_is_mod _
 rw [h2]
 have h3:IntKind.u8.wrap ((b.toNat%2:Nat):Int)=((b.toNat%2:Nat):Int):=by
  show (((b.toNat%2:Nat):Int)%256)=_
  omega
 rw [h3];omega
def hdr(bw n:Nat)(d:Bool)(f:Int)(vp va:Value):Obj:=cl [.slice (some ⟨bw,0,none⟩) n n,.bool d,.int .i64 f,vp,va] 152
theorem crash_core{p bw:Nat}{σ:Dv}(hO:σ.Ok)(vp va q:Value)(qs:List UInt8) :
  Tri Tryz.prog 223 [.pointer (some ⟨p,0,none⟩),q] [(p,hdr bw σ.ws.length σ.down σ.fuse vp va),(bw,cl (σ.ws.flatMap wc) 271)] (fun w=>Rd [p,bw] w 1 q (qs.map bv))
   (fun v H'=>v=.tuple #[]∧H'=[(p,hdr bw (σ.crash qs).ws.length (σ.crash qs).down (σ.crash qs).fuse vp va),(bw,cl ((σ.crash qs).ws.flatMap wc) 271)]):=by
 unfold hdr
 obtain⟨ws,dn,fu,pk,ak⟩:=σ
 have hn:=hO.n
 have hok:=hO.ok
 simp only at hn hok
 refine Tri.mk Tryz.func223 rfl Tryz.ntmps223 rfl fun w hw=>?_
 obtain⟨a,len,cap,rfl,hlen,hcap,hrd⟩:=hw
 rw [List.length_map,Nat.mul_one] at hlen
 cases dn
 ·dsimp only
  repeat' (refine W.ow ?_;try intro b_)
  refine SW.loopN (fun x:List Wd×List Wd×Nat=>[(0,.pointer (some ⟨p,0,none⟩)),(1,.slice a len cap),(4,.int .i64 x.2.2),(19,.int .i64 ws.length),(20,.int .i64 x.1.length)])
   (fun x=>[(p,cl [.slice (some ⟨bw,0,none⟩) ws.length ws.length,.bool false,.int .i64 fu,vp,va] 152),(bw,cl ((x.1++x.2.1).flatMap wc) 271)])
   (fun x=>x.2.1.length) (fun x=>crashL qs 0 ws=x.1++crashL qs x.2.2 x.2.1∧x.1.length+x.2.1.length=ws.length∧x.2.2≤x.1.length∧(∀ w∈x.1++x.2.1,w.Ok))
   ([],ws,0) ⟨rfl,rfl,rfl,rfl,rfl,trivial⟩ (by dsimp only [List.nil_append];infer_instance) ⟨rfl,by simp,Nat.le_refl _,hok⟩ ?_
  rintro⟨done,todo,j⟩ ⟨hc,hl,hj,hk⟩
  dsimp only at hc hl hj hk ⊢
  cases todo with
  | nil=>
   have hl2:done.length=ws.length:=by simpa using hl
   repeat' (refine W.ow ?_;try intro b_)
   refine Fin.s0 (.inr rfl) rfl ⟨rfl,?_⟩
   simp [Dv.crash,hc,crashL,hl2]
  | cons u t=>
   have hl2:done.length+(t.length+1)=ws.length:=by simpa using hl
   have hu:u.Ok:=hk u (by simp)
   have hA:(done.flatMap wc).length=done.length*18:=fm_len wc 18 _ (fun w hw=>wc_len (hk w (by simp [hw])).1)
   rw [List.flatMap_append,List.flatMap_cons]
   have g16:=(wc_get (done.flatMap wc) (t.flatMap wc) hu.1).1
   have hL:∀ v:Wd,v.Len→((done.flatMap wc)++(wc v++t.flatMap wc)).length=done.length*18+(18+(t.flatMap wc).length):=fun v hv=>by rw [len_wc _ _ hv,hA]
   repeat' (refine W.ow ?_;try intro b_)
   refine SL.pu (p_indexAddr rfl rfl rfl (by omega) (by omega) (j':=(done.flatMap wc).length) (by omega)) rfl rfl ?_
   obtain⟨la,no,pe,ma⟩:=u
   dsimp only at g16
   cases pe
   ·repeat' (refine W.ow ?_;try intro b_)
    refine HandN.eq (done++[⟨la,no,false,ma⟩],t,j) (by simp) ⟨rfl,rfl,rfl,rfl,?_,trivial⟩ ?_ ⟨?_,?_,?_,?_⟩
    ·simp [lk,pt]
    ·simp
    ·rw [hc];simp [crashL]
    ·simp;omega
    ·simp;omega
    ·simpa using hk
   ·have hn8:(no.map bv).length=8:=by simpa using hu.1.2
    have rn:=(wc_now (done.flatMap wc) (t.flatMap wc) hu.1).1
    have b0:(done.flatMap wc).length+0+8≤(done.flatMap wc++(wc ⟨la,no,true,ma⟩++t.flatMap wc)).length:=by rw [hL _ hu.1];omega
    have p0:=(wc_put (done.flatMap wc) (t.flatMap wc) hu.1 no hu.1.2).1
    dsimp only at p0 rn
    have key:∀ l:List UInt8,l.length=8→(∀ (l':List UInt8),l'=l→((⟨l',l',false,false⟩:Wd)=Wd.crash (bitP qs j) ⟨la,no,true,ma⟩)) →
     let X:=done.flatMap wc++(wc ⟨l,no,true,ma⟩++t.flatMap wc)
     let Y:=done.flatMap wc++(wc ⟨l,l,true,ma⟩++t.flatMap wc)
     (X.drop ((done.flatMap wc).length+0)).take 8=l.map bv∧(l.map bv).length=8∧(done.flatMap wc).length+8+8≤X.length ∧
      X.take ((done.flatMap wc).length+8)++l.map bv++X.drop ((done.flatMap wc).length+8+8)=Y∧(done.flatMap wc).length+16<Y.length∧(done.flatMap wc).length+17<(Y.set ((done.flatMap wc).length+16) (.bool false)).length ∧
      (Y.set ((done.flatMap wc).length+16) (.bool false)).set ((done.flatMap wc).length+17) (.bool false)=((done++[Wd.crash (bitP qs j) ⟨la,no,true,ma⟩])++t).flatMap wc:=by
     intro l h8 hcr X Y
     have hX:(⟨l,no,true,ma⟩:Wd).Len:=⟨h8,hu.1.2⟩
     have hY:(⟨l,l,true,ma⟩:Wd).Len:=⟨h8,h8⟩
     have hY2:(⟨l,l,false,ma⟩:Wd).Len:=⟨h8,h8⟩
     have hXl:=hL _ hX
     have hYl:=hL _ hY
     refine⟨(wc_now (done.flatMap wc) (t.flatMap wc) hX).2,by simpa using h8,?_,(wc_put (done.flatMap wc) (t.flatMap wc) hX l h8).2,?_,?_,?_⟩
     ·show _≤(done.flatMap wc++(wc ⟨l,no,true,ma⟩++t.flatMap wc)).length
      rw [hXl];omega
     ·show _<(done.flatMap wc++(wc ⟨l,l,true,ma⟩++t.flatMap wc)).length
      rw [hYl];omega
     ·show _<((done.flatMap wc++(wc ⟨l,l,true,ma⟩++t.flatMap wc)).set _ _).length
      rw [List.length_set,hYl];omega
     ·rw [(wc_set (done.flatMap wc) (t.flatMap wc) hY false).1,(wc_set (done.flatMap wc) (t.flatMap wc) hY2 false).2]
      rw [hcr l rfl];simp
    have fin:∀ ρ:Fr,subF [(0,.pointer (some ⟨p,0,none⟩)),(1,.slice a len cap),(4,.int .i64 (j+1)),(19,.int .i64 ws.length),(20,.int .i64 (done.length+1))] ρ→HandN (fun x:List Wd×List Wd×Nat=>[(0,.pointer (some ⟨p,0,none⟩)),(1,.slice a len cap),(4,.int .i64 x.2.2),(19,.int .i64 ws.length),(20,.int .i64 x.1.length)])
      (fun x=>[(p,cl [.slice (some ⟨bw,0,none⟩) ws.length ws.length,.bool false,.int .i64 fu,vp,va] 152),(bw,cl ((x.1++x.2.1).flatMap wc) 271)])
      (fun x=>x.2.1.length) (fun x=>crashL qs 0 ws=x.1++crashL qs x.2.2 x.2.1∧x.1.length+x.2.1.length=ws.length∧x.2.2≤x.1.length∧(∀ w∈x.1++x.2.1,w.Ok)) (done,⟨la,no,true,ma⟩::t,j) ρ
      [(p,cl [.slice (some ⟨bw,0,none⟩) ws.length ws.length,.bool false,.int .i64 fu,vp,va] 152),(bw,cl (((done++[Wd.crash (bitP qs j) ⟨la,no,true,ma⟩])++t).flatMap wc) 271)]:=by
     intro ρ hρ
     refine HandN.eq (done++[Wd.crash (bitP qs j) ⟨la,no,true,ma⟩],t,j+1) (by simp) (by simpa using hρ) rfl ⟨?_,?_,?_,?_⟩
     ·rw [hc];simp [crashL]
     ·simp;omega
     ·simp;omega
     ·have:=Wd.crash_ok (bitP qs j) hu
      simp only [List.mem_append,List.mem_cons,List.not_mem_nil,or_false] at hk ⊢
      rintro w ((hw|rfl)|hw)
      ·exact hk w (.inl hw)
      ·exact this
      ·exact hk w (.inr (.inr hw))
    rcases Nat.eq_zero_or_pos len with h0|h0
    ·subst h0
     have hq:qs=[]:=List.eq_nil_of_length_eq_zero hlen
     obtain⟨k1,k2,k3,k4,k5,k6,k7⟩:=key la hu.1.1 (fun l' h=>by subst h hq;simp [bitP,Wd.crash])
     repeat' (refine W.ow ?_;try intro b_)
     rw [k7]
     exact fin _ ⟨rfl,rfl,rfl,rfl,rfl,trivial⟩
    ·obtain⟨b,o,l,T,fz,rfl,hb,hbk,hrow⟩:=hrd.resolve_left (by omega)
     obtain⟨x,hx⟩:∃ x,qs[j%qs.length]?=some x:=⟨_,List.getElem?_eq_getElem (Nat.mod_lt _ (by omega))⟩
     have hlx:l[o+(j%len)*1]?=some (bv x):=by
      have:=congrArg (fun z=>z[j%len]?) hrow
      rw [List.getElem?_take,if_pos (by have:=Nat.mod_lt j h0;omega),List.getElem?_drop,List.getElem?_map,← hlen,hx] at this
      rw [Nat.mul_one,← hlen];exact this
     repeat' (refine W.ow ?_;try intro b_)
     refine SL.pu (p_rem rfl rfl rfl (by omega) (r:=((j%len:Nat):Int)) (by rw [Int.ofNat_tmod])) rfl rfl ?_
     refine SL.pu (p_indexAddr rfl rfl rfl (by omega) (by have:=Nat.mod_lt j h0;omega) (j':=o+(j%len)*1) (by rw [Int.toNat_natCast])) rfl rfl ?_
     refine SL.pu (p_load_sR rfl rfl hb hbk hlx) rfl rfl ?_
     refine SL.pu (p_and rfl rfl rfl rfl) rfl rfl ?_
     by_cases hbit:((x &&& 1) == 1)=true
     ·obtain⟨k1,k2,k3,k4,k5,k6,k7⟩:=key no hu.1.2 (fun l' h=>by subst h;simp only [bitP,hx,hbit];rfl)
      refine SL.pu (Pu.t (p_eql rfl rfl rfl) ((bit_mask x).2 hbit)) rfl rfl ?_
      repeat' (refine W.ow ?_;try intro b_)
      rw [k7]
      exact fin _ ⟨rfl,rfl,rfl,rfl,rfl,trivial⟩
     ·obtain⟨k1,k2,k3,k4,k5,k6,k7⟩:=key la hu.1.1 (fun l' h=>by subst h;simp only [Bool.not_eq_true] at hbit;simp only [bitP,hx,hbit];rfl)
      refine SL.pu (Pu.f (p_eql rfl rfl rfl) (fun h=>hbit ((bit_mask x).1 h))) rfl rfl ?_
      repeat' (refine W.ow ?_;try intro b_)
      rw [k7]
      exact fin _ ⟨rfl,rfl,rfl,rfl,rfl,trivial⟩
 ·dsimp only
  repeat' (refine W.ow ?_;try intro b_)
  refine Fin.s0 (.inl rfl) rfl ⟨rfl,rfl⟩
end Go.Proofs.YtnigolgkkjidiaaGreat
namespace Go.Proofs.YtnigolgkkjidiaaGreat
open Go
attribute [local irreducible] SW SL SQ SH SA Pu Fin
def Dv.push(σ:Dv)(a:Int×Int×Int):Dv:=if σ.acts.length<16384 then { σ with acts:=σ.acts++[a] } else σ
def Dv.act(σ:Dv)(a:Int×Int×Int):Dv:=if 0<σ.fuse then (if σ.fuse=1 then ({ σ with fuse:=0 }:Dv).crash σ.picks else ({ σ with fuse:=σ.fuse-1 }:Dv).push a) else σ.push a
def Dv.actE(σ:Dv):Int:=if σ.fuse=1 then 8 else 0
theorem Dv.fuse_ok{σ:Dv}(f:Int)(h:σ.Ok)(h0:0≤f)(h1:f≤9223372036854775807):({ σ with fuse:=f }:Dv).Ok:=⟨h.n,h.ok,h0,h1,h.a⟩
theorem act_p{p:Nat}{σ:Dv}{H:Hp}(hD:DevP p σ H)(a:Int×Int×Int):Tri Tryz.prog 171 [.pointer (some ⟨p,0,none⟩),.agg #[.int .i64 a.1,.int .i64 a.2.1,.int .i64 a.2.2]] H (fun _=>True)
  (fun v H'=>v=.int .i64 σ.actE∧DevP p (σ.act a) H'):=by
 obtain⟨hO,bw,vp,va,Hq,Ha,h1,h2,rfl⟩:=hD
 have hf0:=hO.f0
 have hf1:=hO.f1
 have ha:=hO.a
 have hof:One vp:=h1.one
 obtain⟨aa,la,ca,rfl,hla⟩:=h2.form
 have hla2:la=σ.acts.length:=by rw [fm_len ac 3 _ (fun x _=>rfl)] at hla;omega
 subst hla2
 refine Tri.mk Tryz.func171 rfl Tryz.ntmps171 rfl fun w hw=>?_
 by_cases c0:0<σ.fuse
 ·repeat' (refine W.ow ?_;try intro b_)
  by_cases c1:σ.fuse=1
  ·have e0:σ.fuse-1=0:=by omega
   have hc:=crash_core (p:=p) (bw:=bw) (Dv.fuse_ok (σ.fuse-1) hO (by omega) (by omega)) vp (.slice aa σ.acts.length ca) vp σ.picks
   unfold hdr at hc
   dsimp only at hc
   repeat' (refine W.ow ?_;try intro b_)
   dsimp only [List.set]
   refine SL.callB [p,bw] rfl rfl rfl rfl hc (fun w hs=>Rd.own (Hc:=[(p,cl [.slice (some ⟨bw,0,none⟩) σ.ws.length σ.ws.length,.bool σ.down,.int .i64 (σ.fuse-1),vp,.slice aa σ.acts.length ca] 152),(bw,cl (σ.ws.flatMap wc) 271)]) h1 hs inferInstance) ?_
   rintro _ _ ⟨rfl,rfl⟩
   repeat' (refine W.ow ?_;try intro b_)
   refine Fin.rm b_ (Fin.s1 (.inl rfl) rfl rfl ⟨?_,?_⟩)
   ·simp [Dv.actE,c1]
   ·have he:σ.act a=({ σ with fuse:=σ.fuse-1 }:Dv).crash σ.picks:=by simp [Dv.act,c1]
    rw [he]
    refine⟨Dv.crash_ok _ (Dv.fuse_ok _ hO (by omega) (by omega)),bw,vp,_,Hq,Ha,?_,?_,rfl⟩
    ·unfold Dv.crash;cases σ.down <;> exact h1
    ·unfold Dv.crash;cases σ.down <;> exact h2
  ·have c3:σ.fuse-1≠0:=by omega
   by_cases c2:σ.acts.length<16384
   ·repeat' (refine W.ow ?_;try intro b_)
    refine SW.regionB [p,b_] 10 (by kernel_rfl) ?_
    refine SA.take 0 rfl (by kernel_rfl) (fun _ _ _ h=>Fin.np h) rfl rfl (p_move rfl rfl) ?_
    refine SA.take 1 rfl (by kernel_rfl) (fun _ _ _ h=>Fin.np h) rfl rfl (p_move rfl rfl) ?_
    refine SA.take 2 rfl (by kernel_rfl) (fun _ _ _ h=>Fin.np h) rfl rfl (p_nil rfl rfl) ?_
    refine SA.take 3 rfl (by kernel_rfl) (fun _ _ _ h=>Fin.np h) rfl rfl (p_fieldAddr rfl rfl rfl) ?_
    refine SA.take 4 rfl (by kernel_rfl) (fun _ _ _ h=>Fin.np h) rfl rfl (p_load_s rfl rfl rfl) ?_
    refine SA.take 5 rfl (by kernel_rfl) (fun _ _ _ h=>Fin.np h) rfl rfl (p_load_a rfl rfl rfl rfl) ?_
    refine SA.one 6 rfl (by kernel_rfl) ?_
    refine SL.buildSlice (n:=3) rfl rfl rfl rfl (by rfl) (by decide) (by rfl) (by decide) (fun b2=>?_)
    refine SL.nil ?_
    refine Beh.mk ?_
    refine SA.one 7 rfl (by kernel_rfl) ?_
    refine SL.append (n:=3) (m:=1) (ys:=ac a) Ha rfl rfl rfl rfl rfl h2 (fun w hs=>SrcOf.block (hs.at (b:=b2)) rfl rfl) rfl rfl (by decide) (by decide) ?_ (fun v2 Ha2 h3=>?_)
    ·rw [hla];simp [ac];omega
    have hov:One v2:=h3.one
    refine SL.nil ?_
    refine Beh.mk ?_
    refine SA.one 8 rfl (by kernel_rfl) ?_
    repeat' (refine W.ow ?_;try intro b_)
    refine Beh.mk ?_
    refine SA.one 9 rfl (by kernel_rfl) ?_
    repeat' (refine W.ow ?_;try intro b_)
    refine Beh.mk ?_
    refine SA.last rfl (by kernel_rfl) ?_
    repeat' (refine W.ow ?_;try intro b_)
    refine Fin.rm b_ (Fin.rm b2 ?_)
    have he:σ.act a=({ σ with fuse:=σ.fuse-1,acts:=σ.acts++[a] }:Dv):=by simp [Dv.act,Dv.push,c0,c1,c2]
    rw [he]
    have hl2:(σ.acts++[a]).flatMap ac=σ.acts.flatMap ac++ac a:=by simp
    rw [← hl2] at h3
    exact Fin.perm List.perm_append_comm (Fin.s1 (.inl rfl) rfl rfl ⟨by simp [Dv.actE,c1],⟨hO.n,hO.ok,by dsimp only;omega,by dsimp only;omega,by simp;omega⟩,bw,vp,v2,Hq,Ha2,h1,h3,by rw [List.append_nil];rfl⟩)
   ·repeat' (refine W.ow ?_;try intro b_)
    refine Fin.rm b_ (Fin.s1 (.inl rfl) rfl rfl ⟨?_,?_⟩)
    ·simp [Dv.actE,c1]
    ·have he:σ.act a=({ σ with fuse:=σ.fuse-1 }:Dv):=by simp [Dv.act,Dv.push,c0,c1,c2]
     have hOK:=Dv.fuse_ok (σ.fuse-1) hO (by omega) (by omega)
     rw [he]
     exact⟨hOK,bw,vp,_,Hq,Ha,h1,h2,rfl⟩
 ·repeat' (refine W.ow ?_;try intro b_)
  by_cases c2:σ.acts.length<16384
  ·repeat' (refine W.ow ?_;try intro b_)
   refine SW.regionB [p,b_] 10 (by kernel_rfl) ?_
   refine SA.take 0 rfl (by kernel_rfl) (fun _ _ _ h=>Fin.np h) rfl rfl (p_move rfl rfl) ?_
   refine SA.take 1 rfl (by kernel_rfl) (fun _ _ _ h=>Fin.np h) rfl rfl (p_move rfl rfl) ?_
   refine SA.take 2 rfl (by kernel_rfl) (fun _ _ _ h=>Fin.np h) rfl rfl (p_nil rfl rfl) ?_
   refine SA.take 3 rfl (by kernel_rfl) (fun _ _ _ h=>Fin.np h) rfl rfl (p_fieldAddr rfl rfl rfl) ?_
   refine SA.take 4 rfl (by kernel_rfl) (fun _ _ _ h=>Fin.np h) rfl rfl (p_load_s rfl rfl rfl) ?_
   refine SA.take 5 rfl (by kernel_rfl) (fun _ _ _ h=>Fin.np h) rfl rfl (p_load_a rfl rfl rfl rfl) ?_
   refine SA.one 6 rfl (by kernel_rfl) ?_
   refine SL.buildSlice (n:=3) rfl rfl rfl rfl (by rfl) (by decide) (by rfl) (by decide) (fun b2=>?_)
   refine SL.nil ?_
   refine Beh.mk ?_
   refine SA.one 7 rfl (by kernel_rfl) ?_
   refine SL.append (n:=3) (m:=1) (ys:=ac a) Ha rfl rfl rfl rfl rfl h2 (fun w hs=>SrcOf.block (hs.at (b:=b2)) rfl rfl) rfl rfl (by decide) (by decide) ?_ (fun v2 Ha2 h3=>?_)
   ·rw [hla];simp [ac];omega
   have hov:One v2:=h3.one
   refine SL.nil ?_
   refine Beh.mk ?_
   refine SA.one 8 rfl (by kernel_rfl) ?_
   repeat' (refine W.ow ?_;try intro b_)
   refine Beh.mk ?_
   refine SA.one 9 rfl (by kernel_rfl) ?_
   repeat' (refine W.ow ?_;try intro b_)
   refine Beh.mk ?_
   refine SA.last rfl (by kernel_rfl) ?_
   repeat' (refine W.ow ?_;try intro b_)
   refine Fin.rm b_ (Fin.rm b2 ?_)
   have he:σ.act a=({ σ with acts:=σ.acts++[a] }:Dv):=by simp [Dv.act,Dv.push,c0,c2]
   rw [he]
   have hl2:(σ.acts++[a]).flatMap ac=σ.acts.flatMap ac++ac a:=by simp
   rw [← hl2] at h3
   exact Fin.perm List.perm_append_comm (Fin.s1 (.inl rfl) rfl rfl ⟨by simp [Dv.actE];omega,⟨hO.n,hO.ok,by dsimp only;omega,by dsimp only;omega,by simp;omega⟩,bw,vp,v2,Hq,Ha2,h1,h3,by rw [List.append_nil];rfl⟩)
  ·repeat' (refine W.ow ?_;try intro b_)
   refine Fin.rm b_ (Fin.s1 (.inl rfl) rfl rfl ⟨?_,?_⟩)
   ·simp [Dv.actE];omega
   ·have he:σ.act a=σ:=by simp [Dv.act,Dv.push,c0,c2]
    have hOK:=hO
    rw [he]
    exact⟨hOK,bw,vp,_,Hq,Ha,h1,h2,rfl⟩
end Go.Proofs.YtnigolgkkjidiaaGreat
namespace Go.Proofs.YtnigolgkkjidiaaGreat
open Go
attribute [local irreducible] SW SL SQ SH SA Pu Fin
theorem each_dev{g:FuncId} [IsFn Tryz.prog g]{h:Wd→Wd}(hg:WordFn g h)(hh:∀ w,w.Ok→(h w).Ok){p:Nat}{σ:Dv}{H:Hp}(hD:DevP p σ H)(x y:Nat)(hxy:x≤y)(hy:y≤σ.ws.length) :
  Tri Tryz.prog 187 [.pointer (some ⟨p,0,none⟩),.int .i64 x,.int .i64 y,.func (.func g) #[] #[]] H (fun _=>True) (fun v H'=>v=.tuple #[]∧DevP p { σ with ws:=mapR h x y σ.ws } H'):=by
 obtain⟨hO,bw,vp,va,Hq,Ha,h1,h2,rfl⟩:=hD
 refine ((each_p hg hh p bw _ _ _ _ _ σ.ws rfl hO.n hO.ok x y hxy hy).frame (r:=Hq++Ha) (List.Perm.refl _) (fun w _ _=>trivial)).mono ?_
 rintro v H' ⟨H1,rfl,rfl,rfl⟩
 exact⟨rfl,⟨by dsimp only;rw [mapR_len];exact hO.n,mapR_ok hh x y hO.ok,hO.f0,hO.f1,hO.a⟩,bw,vp,va,Hq,Ha,h1,h2,by dsimp only;rw [mapR_len];rfl⟩
def Dv.doo(σ:Dv):Dv:=if σ.down=true then σ else σ.act (4,0,0)
def Dv.dooE(σ:Dv):Int:=if σ.down=true then 8 else σ.actE
theorem Dv.rdy00(σ:Dv):σ.rdy 0 0=if σ.down=true then 8 else 0:=by
 unfold Dv.rdy
 split
 ·rfl
 ·rw [if_neg];omega
theorem doo_p{p:Nat}{σ:Dv}{H:Hp}(hD:DevP p σ H):Tri Tryz.prog 108 [.pointer (some ⟨p,0,none⟩)] H (fun _=>True) (fun v H'=>v=.int .i64 σ.dooE∧DevP p σ.doo H'):=by
 have hr:=ready_p hD 0 0
 have ha:=act_p hD (4,0,0)
 rw [Dv.rdy00] at hr
 refine Tri.mk Tryz.func108 rfl Tryz.ntmps108 rfl fun w hw=>?_
 by_cases hd:σ.down=true
 ·rw [if_pos hd] at hr
  repeat' (first|(refine SL.isGd ?_;refine SL.sk rfl rfl ?_)|(refine SL.isCallV ?_;((refine SL.call _ rfl rfl rfl rfl hr (fun _ _=>trivial) ?_;rintro _ _ ⟨rfl,rfl⟩)))|(refine W.ow ?_;try intro b_)  | refine SL.cmp (p_lss rfl rfl rfl) rfl rfl (fun h_=>?_) (fun h_=>?_)|refine SL.cmp (p_leq rfl rfl rfl) rfl rfl (fun h_=>?_) (fun h_=>?_)|refine SL.cmp (p_gtr rfl rfl rfl) rfl rfl (fun h_=>?_) (fun h_=>?_)|refine SL.cmp (p_geq rfl rfl rfl) rfl rfl (fun h_=>?_) (fun h_=>?_)|refine SL.cmp (p_eql rfl rfl rfl) rfl rfl (fun h_=>?_) (fun h_=>?_)|refine SL.cmp (p_neq rfl rfl rfl) rfl rfl (fun h_=>?_) (fun h_=>?_)|refine SW.cond_b rfl (fun h_=>?_) (fun h_=>?_))
  rw [List.append_nil]
  exact Fin.s1 (.inl rfl) rfl rfl ⟨by simp [Dv.dooE,hd],by simpa [Dv.doo,hd] using hD⟩
 ·rw [if_neg hd] at hr
  repeat' (first|(refine SL.isGd ?_;refine SL.sk rfl rfl ?_)|(refine SL.isCallV ?_;((refine SL.call _ rfl rfl rfl rfl hr (fun _ _=>trivial) ?_;rintro _ _ ⟨rfl,rfl⟩)))|(refine W.ow ?_;try intro b_)  | refine SL.cmp (p_lss rfl rfl rfl) rfl rfl (fun h_=>?_) (fun h_=>?_)|refine SL.cmp (p_leq rfl rfl rfl) rfl rfl (fun h_=>?_) (fun h_=>?_)|refine SL.cmp (p_gtr rfl rfl rfl) rfl rfl (fun h_=>?_) (fun h_=>?_)|refine SL.cmp (p_geq rfl rfl rfl) rfl rfl (fun h_=>?_) (fun h_=>?_)|refine SL.cmp (p_eql rfl rfl rfl) rfl rfl (fun h_=>?_) (fun h_=>?_)|refine SL.cmp (p_neq rfl rfl rfl) rfl rfl (fun h_=>?_) (fun h_=>?_)|refine SW.cond_b rfl (fun h_=>?_) (fun h_=>?_))
  refine SL.call _ rfl rfl rfl rfl ha (fun _ _=>trivial) ?_
  rintro _ _ ⟨rfl,hD2⟩
  repeat' (refine W.ow ?_;try intro b_)
  rw [List.append_nil]
  exact Fin.s1 (.inl rfl) rfl rfl ⟨by simp [Dv.dooE,hd],by simpa [Dv.doo,hd] using hD2⟩
end Go.Proofs.YtnigolgkkjidiaaGreat
namespace Go.Proofs.YtnigolgkkjidiaaGreat
open Go
attribute [local irreducible] SW SL SQ SH SA Pu Fin
instance(qs:List UInt8):OC (qs.map bv):=inferInstance
def Wd.zero:Wd:=⟨List.replicate 8 0,List.replicate 8 0,false,false⟩
def Dv.new(n:Int):Dv:=⟨List.replicate (8*min (max n 0) 1024).toNat Wd.zero,false,0,[],[]⟩
theorem Dv.new_ok(n:Int):(Dv.new n).Ok:=⟨by simp [Dv.new];omega,by intro w hw;simp only [Dv.new,List.mem_replicate] at hw;rw [hw.2];exact⟨⟨rfl,rfl⟩,by simp [Wd.zero]⟩,Int.le_refl _,by simp [Dv.new],by simp [Dv.new]⟩
theorem nnew_p(n:Int):Tri Tryz.prog 13 [.int .i64 n] [] (fun _=>True) (fun v H'=>∃ p,v=.pointer (some ⟨p,0,none⟩)∧DevP p (Dv.new n) H'):=by
 refine Tri.mk Tryz.func13 rfl Tryz.ntmps13 rfl fun w hw=>?_
 repeat' (refine W.ow ?_;try intro b_)
 refine SL.make (n:=18) (l:=(8*min (max n 0) 1024).toNat) (c:=(8*min (max n 0) 1024).toNat) rfl rfl rfl rfl rfl (by omega) (by omega) (by rfl) (by decide) (Nat.le_refl _) (by omega) (by decide) (fun bw=>?_)
 repeat' (refine W.ow ?_;try intro b_)
 refine Fin.perm (List.Perm.refl _) (Fin.s1 (.inl rfl) rfl rfl ⟨b_,rfl,Dv.new_ok n,bw,_,_,[],[],Sl.nil _ _,Sl.nil _ _,?_⟩)
 have hz:(Dv.new n).ws.length=(8*min (max n 0) 1024).toNat:=by simp [Dv.new]
 have hw:(Dv.new n).ws.flatMap wc=zs (wc Wd.zero) (8*min (max n 0) 1024).toNat:=by simp only [Dv.new,zs,List.flatMap_def,List.map_replicate]
 rw [hz,hw]
 rfl
end Go.Proofs.YtnigolgkkjidiaaGreat
namespace Go.Proofs.YtnigolgkkjidiaaGreat
open Go
attribute [local irreducible] SW SL SQ SH SA Pu Fin
structure Rg where
 c:Int
 root:List UInt8
def rgc(r:Rg):List Value:=.int .u64 r.c::r.root.map bv
instance(r:Rg):OC (rgc r):=by unfold rgc;infer_instance
structure Rg.Ok(r:Rg):Prop where
 len:r.root.length=32
 c0:0≤r.c
 c1:r.c≤18446744073709551615
theorem rgc_len{r:Rg}(h:r.Ok):(rgc r).length=33:=by simp [rgc,h.len]
def fnc(f p:Nat):Value:=.func (.func f) #[.pointer (some ⟨p,0,none⟩)] #[]
def trc(p:Nat)(r:Rg):List Value:=rgc r++[fnc 107 p,fnc 108 p]
theorem trc_facts(p:Nat){r:Rg}(h:r.Ok):((trc p r).drop (0+0)).take 33=rgc r∧(rgc r).length=33∧(trc p r)[0+33]?=some (fnc 107 p)∧(trc p r)[0+34]?=some (fnc 108 p)∧(trc p r)[0+0+0]?=some (.int .u64 r.c)∧(trc p r).length=35:=by
 have hl:=rgc_len h
 refine⟨?_,hl,?_,?_,rfl,by simp [trc,hl]⟩
 ·rw [trc,List.drop_zero,List.take_left' hl]
 ·rw [trc,List.getElem?_append_right (by omega),hl];rfl
 ·rw [trc,List.getElem?_append_right (by omega),hl];rfl
theorem trc_put(p:Nat){r r':Rg}(h:r.Ok)(h':r'.Ok):(trc p r).take (0+0)++rgc r'++(trc p r).drop (0+0+33)=trc p r':=by
 rw [trc,List.take_zero,List.nil_append,List.drop_left' (by rw [rgc_len h])];rfl
theorem read_p(tp p:Nat)(r:Rg)(h:r.Ok):Tri Tryz.prog 57 [.pointer (some ⟨tp,0,none⟩)] [(tp,cl (trc p r) 225)] (fun _=>True) (fun v H=>v=.agg (rgc r).toArray∧H=[(tp,cl (trc p r) 225)]):=by
 obtain⟨f1,f2,f3,f4,f5,f6⟩:=trc_facts p h
 refine Tri.mk Tryz.func57 rfl Tryz.ntmps57 rfl fun w hw=>?_
 repeat' (refine W.ow ?_;try intro b_)
 exact Fin.c1e (.inl rfl) (rgc r) rfl rfl (by simp [rgc,h.len]) (by rw [f2]) ⟨rfl,rfl⟩
theorem last_p(tp p:Nat)(r:Rg)(h:r.Ok):Tri Tryz.prog 50 [.pointer (some ⟨tp,0,none⟩)] [(tp,cl (trc p r) 225)] (fun _=>True) (fun v H=>v=.bool (decide (r.c=18446744073709551615))∧H=[(tp,cl (trc p r) 225)]):=by
 obtain⟨f1,f2,f3,f4,f5,f6⟩:=trc_facts p h
 refine Tri.mk Tryz.func50 rfl Tryz.ntmps50 rfl fun w hw=>?_
 by_cases hc:r.c=18446744073709551615
 ·repeat' (refine W.ow ?_;try intro b_)
  exact Fin.s1 (.inl rfl) rfl rfl ⟨by simp [hc],rfl⟩
 ·repeat' (refine W.ow ?_;try intro b_)
  exact Fin.s1 (.inl rfl) rfl rfl ⟨by simp [hc],rfl⟩
theorem at_p(p:Nat)(r:Rg)(h:r.Ok):Tri Tryz.prog 43 [.pointer (some ⟨p,0,none⟩),.agg (rgc r).toArray] [] (fun _=>True) (fun v H=>∃ tp,v=.pointer (some ⟨tp,0,none⟩)∧H=[(tp,cl (trc p r) 225)]):=by
 have hl:=rgc_len h
 have hr:((rgc r).drop 0).take 33=rgc r:=by rw [List.drop_zero,List.take_of_length_le (by omega)]
 refine Tri.mk Tryz.func43 rfl Tryz.ntmps43 rfl fun w hw=>?_
 repeat' (refine W.ow ?_;try intro b_)
 refine SL.pu (p_build (r:=trc p r) rfl rfl ?_) rfl rfl ?_
 ·refine bf_step (rgc r++[.nilFunc,.nilFunc]) rfl hl (by decide) (by rfl) ?_
  refine bf_step (rgc r++[fnc 107 p,.nilFunc]) rfl rfl (by simp [hl]) (by simp [hl,vl,fnc,List.take_append,List.drop_append]) ?_
  refine bf_step (trc p r) rfl rfl (by simp [hl]) (by simp [hl,vl,fnc,trc,List.take_append,List.drop_append,List.take_of_length_le,List.drop_eq_nil_of_le]) rfl
 repeat' (refine W.ow ?_;try intro b_)
 rename_i b1
 exact Fin.rm b1 (Fin.s1 (.inl rfl) rfl rfl ⟨b_,rfl,rfl⟩)
end Go.Proofs.YtnigolgkkjidiaaGreat
namespace Go.Proofs.YtnigolgkkjidiaaGreat
open Go
def Wd.put(j:Nat)(c:UInt8)(w:Wd):Wd:={ w with now:=w.now.set j c }
theorem Wd.put_ok(j:Nat)(c:UInt8){w:Wd}(h:w.Ok):(w.put j c).Ok:=⟨⟨h.1.1,by simp [Wd.put,h.1.2]⟩,h.2⟩
def modB(f:Nat→UInt8→Wd→Wd)(ws:List Wd)(i:Nat)(c:UInt8):List Wd:=ws.modify (i/8) (f (i%8) c)
def modL(f:Nat→UInt8→Wd→Wd):List Wd→Nat→List UInt8→List Wd
 | ws,_,[]=>ws
 | ws,i,c::t=>modL f (modB f ws i c) (i+1) t
theorem modL_snoc(f:Nat→UInt8→Wd→Wd):∀ (l:List UInt8) (ws:List Wd) (i:Nat) (c:UInt8),modL f ws i (l++[c])=modB f (modL f ws i l) (i+l.length) c
 | [],ws,i,c=>rfl
 | x::l,ws,i,c=>by
  show modL f (modB f ws i x) (i+1) (l++[c])=_
  rw [modL_snoc f l]
  show modB f (modL f (modB f ws i x) (i+1) l) (i+1+l.length) c=modB f (modL f (modB f ws i x) (i+1) l) (i+(l.length+1)) c
  congr 1;omega
theorem modB_len(f:Nat→UInt8→Wd→Wd)(ws:List Wd)(i:Nat)(c:UInt8):(modB f ws i c).length=ws.length:=by simp [modB]
theorem modL_len(f:Nat→UInt8→Wd→Wd):∀ (l:List UInt8) (ws:List Wd) (i:Nat),(modL f ws i l).length=ws.length
 | [],ws,i=>rfl
 | x::l,ws,i=>by show (modL f (modB f ws i x) (i+1) l).length=_;rw [modL_len f l,modB_len]
theorem modify_ok{f:Wd→Wd}(hf:∀ w,w.Ok→(f w).Ok){ws:List Wd}(m:Nat)(h:∀ w∈ws,w.Ok):∀ w∈ws.modify m f,w.Ok:=by
 intro w hw
 obtain⟨k,hk⟩:=List.mem_iff_getElem?.1 hw
 rw [List.getElem?_modify] at hk
 cases hu:ws[k]? with
 | none=>rw [hu] at hk;simp at hk
 | some u=>
  rw [hu] at hk
  have hm:=h u (List.mem_of_getElem? hu)
  simp only [Option.map_eq_map,Option.map_some,Option.some.injEq] at hk
  rw [← hk]
  split
  ·exact hf u hm
  ·exact hm
theorem modL_ok{f:Nat→UInt8→Wd→Wd}(hf:∀ j c w,w.Ok→(f j c w).Ok):∀ (l:List UInt8) (ws:List Wd) (i:Nat),(∀ w∈ws,w.Ok)→∀ w∈modL f ws i l,w.Ok
 | [],ws,i,h=>h
 | x::l,ws,i,h=>modL_ok hf l _ _ (modify_ok (hf _ _) _ h)
theorem ws_get{ws:List Wd}(hok:∀ w∈ws,w.Ok){m j:Nat}{u:Wd}(hu:ws[m]?=some u)(hj:j<18):(ws.flatMap wc)[m*18+j]?=(wc u)[j]?:=by
 have hm:m<ws.length:=(List.getElem?_eq_some_iff.1 hu).1
 have hA:((ws.take m).flatMap wc).length=m*18:=by
  rw [fm_len wc 18 _ (fun w hw=>wc_len (hok w (List.mem_of_mem_take hw)).1),List.length_take];congr 1;omega
 rw [fm_split wc ws m u hu]
 exact get_mid _ _ _ j _ (by omega) (by rw [wc_len (hok u (List.mem_of_getElem? hu)).1];exact hj)
theorem ws_set{ws:List Wd}(hok:∀ w∈ws,w.Ok){m j:Nat}{u u':Wd}{v:Value}(hu:ws[m]?=some u)(hj:j<18)(h:(wc u).set j v=wc u'):(ws.flatMap wc).set (m*18+j) v=(ws.set m u').flatMap wc:=by
 have hm:m<ws.length:=(List.getElem?_eq_some_iff.1 hu).1
 have hA:((ws.take m).flatMap wc).length=m*18:=by
  rw [fm_len wc 18 _ (fun w hw=>wc_len (hok w (List.mem_of_mem_take hw)).1),List.length_take];congr 1;omega
 rw [fm_split wc ws m u hu,set_mid _ _ _ j _ v (by omega) (by rw [wc_len (hok u (List.mem_of_getElem? hu)).1];exact hj),h,fm_set wc ws m u' hm]
theorem ws_len{ws:List Wd}(hok:∀ w∈ws,w.Ok):(ws.flatMap wc).length=ws.length*18:=fm_len wc 18 _ (fun w hw=>wc_len (hok w hw).1)
theorem wc_byte{u:Wd}(h:u.Len){j:Nat}(hj:j<8):(wc u)[8+j]?=u.now[j]?.map bv∧(wc u)[j]?=u.lasts[j]?.map bv:=by
 unfold wc
 have h1:(u.lasts.map bv).length=8:=by simpa using h.1
 have h2:(u.now.map bv).length=8:=by simpa using h.2
 constructor
 ·rw [List.getElem?_append_right (by omega),h1,List.getElem?_append_left (by omega),List.getElem?_map]
  congr 2;omega
 ·rw [List.getElem?_append_left (by omega),List.getElem?_map]
theorem wc_setB{u:Wd}(h:u.Len){j:Nat}(hj:j<8)(c:UInt8):(wc u).set (8+j) (bv c)=wc (u.put j c)∧(wc u).set j (bv c)=wc { u with lasts:=u.lasts.set j c }:=by
 unfold wc Wd.put
 have h1:(u.lasts.map bv).length=8:=by simpa using h.1
 have h2:(u.now.map bv).length=8:=by simpa using h.2
 constructor
 ·rw [List.set_append_right _ _ (by omega),h1,List.set_append_left _ _ (by omega),List.map_set]
  congr 3;omega
 ·rw [List.set_append_left _ _ (by omega),List.map_set]
theorem modify_set{ws:List Wd}{m:Nat}{u:Wd}(f:Wd→Wd)(hu:ws[m]?=some u):ws.modify m f=ws.set m (f u):=by
 apply List.ext_getElem?
 intro k
 rw [List.getElem?_modify,List.getElem?_set]
 by_cases hk:m=k
 ·subst hk
  obtain⟨hm,rfl⟩:=List.getElem?_eq_some_iff.1 hu
  simp [hm]
 ·simp [hk]
def nowB(ws:List Wd):List UInt8:=ws.flatMap Wd.now
def lastB(ws:List Wd):List UInt8:=ws.flatMap Wd.lasts
theorem fmU{α:Type}(f:Wd→List α){ws:List Wd}(hf:∀ w∈ws,(f w).length=8){m j:Nat}{u:Wd}(hu:ws[m]?=some u)(hj:j<8):(ws.flatMap f)[m*8+j]?=(f u)[j]?:=by
 induction ws generalizing m with
 | nil=>simp at hu
 | cons w t ih=>
  have hw:=hf w (by simp)
  rw [List.flatMap_cons]
  cases m with
  | zero=>simp at hu;subst hu;rw [List.getElem?_append_left (by omega)];congr 1;omega
  | succ m=>
   rw [List.getElem?_append_right (by omega),hw]
   have:=ih (fun x hx=>hf x (by simp [hx])) (m:=m) (by simpa using hu)
   rw [← this];congr 1;omega
theorem fmU_len{α:Type}(f:Wd→List α):∀ {ws:List Wd},(∀ w∈ws,(f w).length=8)→(ws.flatMap f).length=8*ws.length
 | [],_=>rfl
 | w::t,h=>by rw [List.flatMap_cons,List.length_append,h w (by simp),fmU_len f (fun x hx=>h x (by simp [hx])),List.length_cons];omega
theorem nowB_get{ws:List Wd}(hok:∀ w∈ws,w.Ok){i:Nat}{u:Wd}(hu:ws[i/8]?=some u):(nowB ws)[i]?=u.now[i%8]?:=by
 have:=fmU Wd.now (fun w hw=>(hok w hw).1.2) hu (Nat.mod_lt i (by decide:0<8))
 rw [← this];unfold nowB;congr 1;omega
theorem nowB_len{ws:List Wd}(hok:∀ w∈ws,w.Ok):(nowB ws).length=8*ws.length:=fmU_len _ fun w hw=>(hok w hw).1.2
def Dv.setWs(σ:Dv)(ws:List Wd):Dv:={ σ with ws:=ws }
def storeW(ws:List Wd)(i:Nat)(bs:List UInt8):List Wd:=if bs.length=0 then ws else mapR Wd.stored (i/8) ((i+bs.length-1)/8+1) (modL Wd.put ws i bs)
def Dv.store(σ:Dv)(i:Int)(bs:List UInt8):Dv:=if σ.rdy i bs.length=0 then (if σ.actE=0 then (σ.act (1,i,bs.length)).setWs (storeW (σ.act (1,i,bs.length)).ws i.toNat bs) else σ.act (1,i,bs.length)) else σ
def Dv.actR(σ:Dv)(i n:Int):Int:=if σ.rdy i n=0 then σ.actE else σ.rdy i n
def flushW(ws:List Wd)(i n:Nat):List Wd:=if n=0 then ws else mapR Wd.flushed (i/64*8) (((i+n-1)/64+1)*8) ws
def Dv.flush(σ:Dv)(i n:Int):Dv:=if σ.rdy i n=0 then (if σ.actE=0 then (σ.act (2,i,n)).setWs (flushW (σ.act (2,i,n)).ws i.toNat n.toNat) else σ.act (2,i,n)) else σ
def Dv.fence(σ:Dv):Dv:=if σ.rdy 0 0=0 then (if σ.actE=0 then (σ.act (3,0,0)).setWs ((σ.act (3,0,0)).ws.map Wd.fenced) else σ.act (3,0,0)) else σ
theorem Dv.setWs_ok{σ:Dv}{ws:List Wd}(h:σ.Ok)(hn:ws.length=σ.ws.length)(hok:∀ w∈ws,w.Ok):(σ.setWs ws).Ok:=⟨by show ws.length≤_;rw [hn];exact h.n,hok,h.f0,h.f1,h.a⟩
theorem storeW_len(ws:List Wd)(i:Nat)(bs:List UInt8):(storeW ws i bs).length=ws.length:=by
 unfold storeW
 split
 ·rfl
 ·rw [mapR_len,modL_len]
theorem mapR_all(h:Wd→Wd)(ws:List Wd):mapR h 0 ws.length ws=ws.map h:=by
 apply List.ext_getElem?
 intro i
 simp only [mapR,List.getElem?_mapIdx,List.getElem?_map]
 cases hw:ws[i]? with
 | none=>rfl
 | some w=>
  have:=(List.getElem?_eq_some_iff.1 hw).1
  simp only [Option.map_some];rw [if_pos (by omega)]
theorem crash_wl(q:List UInt8)(σ:Dv):(σ.crash q).ws.length=σ.ws.length:=by unfold Dv.crash;cases σ.down <;> simp [crashL_len]
theorem act_wl(σ:Dv)(a:Int×Int×Int):(σ.act a).ws.length=σ.ws.length:=by
 unfold Dv.act Dv.push
 split
 ·split
  ·rw [crash_wl]
  ·split <;> rfl
 ·split <;> rfl
theorem rdy_zero{σ:Dv}{x n:Int}(h:σ.rdy x n=0):σ.down=false∧0≤x∧0≤n∧n≤σ.len∧x≤σ.len-n:=by
 unfold Dv.rdy at h
 split at h
 ·cases h
 ·rename_i hd
  split at h
  ·cases h
  ·exact⟨by simpa using hd,by omega,by omega,by omega,by omega⟩
end Go.Proofs.YtnigolgkkjidiaaGreat
namespace Go.Proofs.YtnigolgkkjidiaaGreat
open Go
attribute [local irreducible] SW SL SQ SH SA SS Pu Fin CutF HandF
theorem store_p{p:Nat}{σ:Dv}{H:Hp}(hD:DevP p σ H)(x:Int)(v:Value)(bs:List UInt8)(hbs:bs.length≤1048576):Tri Tryz.prog 236 [.pointer (some ⟨p,0,none⟩),.int .i64 x,v] H (fun w=>Rd (H.map Prod.fst) w 1 v (bs.map bv))
  (fun v' H'=>v'=.int .i64 (σ.actR x bs.length)∧DevP p (σ.store x bs) H'):=by
 have hr:=ready_p hD x bs.length
 have ha:=act_p hD (1,x,bs.length)
 refine Tri.mk Tryz.func236 rfl Tryz.ntmps236 rfl fun w hw=>?_
 obtain⟨aa,len,cap,rfl,hlen,hcap,hrd⟩:=hw.get
 rw [List.length_map,Nat.mul_one] at hlen
 subst hlen
 repeat' (refine W.go ?_;try intro b_)
 refine W.call hr ?_
 rintro _ _ ⟨rfl,rfl⟩
 by_cases h0:σ.rdy x bs.length=0
 ·obtain⟨hdn,hx0,-,hn,hxn⟩:=rdy_zero h0
  rw [h0]
  repeat' (refine W.go ?_;try intro b_)
  refine W.call ha ?_
  rintro _ H1 ⟨rfl,hD1⟩
  by_cases h1:σ.actE=0
  ·rw [h1]
   repeat' (refine W.gb ?_;try intro b_)
   have hwl:(σ.act (1,x,bs.length)).ws.length=σ.ws.length:=act_wl _ _
   have hres:σ.store x bs=(σ.act (1,x,bs.length)).setWs (storeW (σ.act (1,x,bs.length)).ws x.toNat bs):=by unfold Dv.store;rw [if_pos h0,if_pos h1]
   have hresE:σ.actR x bs.length=0:=by unfold Dv.actR;rw [if_pos h0,h1]
   rw [hres,hresE]
   have hlen:σ.len=8*σ.ws.length:=rfl
   generalize σ.act (1,x,bs.length)=τ at hD1 hwl ⊢
   obtain⟨i,rfl⟩:∃ i:Nat,x=i:=⟨x.toNat,by omega⟩
   rw [Int.toNat_natCast]
   have hN:=hD1.1.n
   obtain⟨hO,bw,vp,va,Hq,Ha,h2,h3,rfl⟩:=hD1
   refine SW.cut [0,1,2] [bw] (fun _:Unit=>[]) (fun _=>[(bw,cl ((modL Wd.put τ.ws i bs).flatMap wc) 271)]) (fun _=>True) ?_ ?_
   ·repeat' (refine W.go ?_;try intro b_)
    refine SW.loopG [0,1,2,28,29] [bw] (fun k:Nat=>[(30,.int .i64 k)]) (fun k=>[(bw,cl ((modL Wd.put τ.ws i (bs.take k)).flatMap wc) 271)]) (fun k=>bs.length-k) (fun k=>k≤bs.length) 0 (Nat.zero_le _) ?_
    intro k hk
    have hok:=modL_ok (fun j c w=>Wd.put_ok j c) (bs.take k) τ.ws i hO.ok
    have hml:=modL_len Wd.put (bs.take k) τ.ws i
    by_cases hkl:k<bs.length
    ·obtain⟨b,o,l,T,fz,rfl,hb,hbk,hys⟩:=hrd (by omega)
     obtain⟨c,hc⟩:∃ c,bs[k]?=some c:=⟨_,List.getElem?_eq_getElem hkl⟩
     have hlc:l[o+k]?=some (bv c):=take_get hys (by simp [hc])
     have hm:(i+k)/8<(modL Wd.put τ.ws i (bs.take k)).length:=by omega
     obtain⟨u,hu⟩:∃ u,(modL Wd.put τ.ws i (bs.take k))[(i+k)/8]?=some u:=⟨_,List.getElem?_eq_getElem hm⟩
     have hj:(i+k)%8<8:=Nat.mod_lt _ (by decide)
     have hset:=ws_set hok (v:=bv c) hu (j:=8+(i+k)%8) (by omega) (wc_setB (hok u (List.mem_of_getElem? hu)).1 hj c).1
     have hlt:(i+k)/8*18+8+(i+k)%8<((modL Wd.put τ.ws i (bs.take k)).flatMap wc).length:=by rw [ws_len hok];omega
     repeat' (refine W.go ?_;try intro b_)
     rw [Nat.add_assoc,hset,← modify_set (Wd.put ((i+k)%8) c) hu]
     have hsn:(modL Wd.put τ.ws i (bs.take k)).modify ((i+k)/8) (Wd.put ((i+k)%8) c)=modL Wd.put τ.ws i (bs.take (k+1)):=by
      rw [List.take_add_one,hc,Option.toList_some,modL_snoc,List.length_take,Nat.min_eq_left hk];rfl
     rw [hsn]
     refine HandF.mk (k+1) ?_
     omega
    ·have:k=bs.length:=by omega
     subst this
     rw [List.take_length]
     repeat' (refine W.go ?_;try intro b_)
     refine CutF.mk () ?_
     trivial
   ·intro _ _
    have hD2:DevP p (τ.setWs (modL Wd.put τ.ws i bs)) ((p,cl [.slice (some ⟨bw,0,none⟩) τ.ws.length τ.ws.length,.bool τ.down,.int .i64 τ.fuse,vp,va] 152)::(bw,cl ((modL Wd.put τ.ws i bs).flatMap wc) 271)::(Hq++Ha)):=
     ⟨Dv.setWs_ok hO (modL_len _ _ _ _) (modL_ok (fun j c w=>Wd.put_ok j c) bs τ.ws i hO.ok),bw,vp,va,Hq,Ha,h2,h3,by simp [Dv.setWs,modL_len]⟩
    by_cases hz:bs.length=0
    ·repeat' (refine W.go ?_;try intro b_)
     refine Fin.perm (List.Perm.swap _ _ _) (F.f1 ?_)
     have:bs=[]:=List.eq_nil_of_length_eq_zero hz
     subst this
     exact⟨rfl,by simpa [storeW,modL] using hD2⟩
    ·have he:=each_dev stored_p (fun w=>Wd.stored_ok) hD2 (i/8) ((i+bs.length-1)/8+1) (by omega) (by show _≤(modL Wd.put τ.ws i bs).length;rw [modL_len];omega)
     repeat' (refine W.go ?_;try intro b_)
     refine W.callE he ?_ ?_
     ·simp;omega
     rintro _ H3 ⟨rfl,hD3⟩
     repeat' (refine W.go ?_;try intro b_)
     refine F.f1 ?_
     refine⟨rfl,?_⟩
     have:storeW τ.ws i bs=mapR Wd.stored (i/8) ((i+bs.length-1)/8+1) (modL Wd.put τ.ws i bs):=by unfold storeW;rw [if_neg hz]
     rw [this];simp only [List.append_nil];exact hD3
  ·repeat' (refine W.go ?_;try intro b_)
   refine F.f1 ?_
   rw [List.append_nil]
   have hres:σ.store x bs=σ.act (1,x,bs.length):=by unfold Dv.store;rw [if_pos h0,if_neg h1]
   have hresE:σ.actR x bs.length=σ.actE:=by unfold Dv.actR;rw [if_pos h0]
   rw [hres,hresE];exact⟨rfl,hD1⟩
 ·repeat' (refine W.go ?_;try intro b_)
  refine F.f1 ?_
  rw [List.append_nil]
  have hres:σ.store x bs=σ:=by unfold Dv.store;rw [if_neg h0]
  have hresE:σ.actR x bs.length=σ.rdy x bs.length:=by unfold Dv.actR;rw [if_neg h0]
  rw [hres,hresE];exact⟨rfl,hD⟩
end Go.Proofs.YtnigolgkkjidiaaGreat
namespace Go.Proofs.YtnigolgkkjidiaaGreat
open Go
attribute [local irreducible] SW SL SQ SH SA SS Pu Fin CutF HandF
theorem flush_p{p:Nat}{σ:Dv}{H:Hp}(hD:DevP p σ H)(h8:σ.ws.length%8=0)(x n:Int):Tri Tryz.prog 237 [.pointer (some ⟨p,0,none⟩),.int .i64 x,.int .i64 n] H (fun _=>True)
  (fun v' H'=>v'=.int .i64 (σ.actR x n)∧DevP p (σ.flush x n) H'):=by
 have hr:=ready_p hD x n
 have ha:=act_p hD (2,x,n)
 refine Tri.mk Tryz.func237 rfl Tryz.ntmps237 rfl fun w hw=>?_
 repeat' (refine W.go ?_;try intro b_)
 refine W.call hr ?_
 rintro _ _ ⟨rfl,rfl⟩
 by_cases h0:σ.rdy x n=0
 ·obtain⟨hdn,hx0,hn0,hn,hxn⟩:=rdy_zero h0
  rw [h0]
  repeat' (refine W.go ?_;try intro b_)
  refine W.call ha ?_
  rintro _ H1 ⟨rfl,hD1⟩
  have hwl:(σ.act (2,x,n)).ws.length=σ.ws.length:=act_wl _ _
  by_cases h1:σ.actE=0
  ·rw [h1]
   have hres:σ.flush x n=(σ.act (2,x,n)).setWs (flushW (σ.act (2,x,n)).ws x.toNat n.toNat):=by unfold Dv.flush;rw [if_pos h0,if_pos h1]
   have hresE:σ.actR x n=0:=by unfold Dv.actR;rw [if_pos h0,h1]
   rw [hres,hresE]
   have hlen:σ.len=8*σ.ws.length:=rfl
   have hN:=hD1.1.n
   generalize σ.act (2,x,n)=τ at hD1 hwl hN ⊢
   obtain⟨i,rfl⟩:∃ i:Nat,x=i:=⟨x.toNat,by omega⟩
   obtain⟨m,rfl⟩:∃ m:Nat,n=m:=⟨n.toNat,by omega⟩
   rw [Int.toNat_natCast,Int.toNat_natCast]
   by_cases hz:m=0
   ·repeat' (refine W.go ?_;try intro b_)
    refine F.f1 ?_
    subst hz
    refine⟨rfl,?_⟩
    simp only [List.append_nil]
    exact hD1
   ·have he:=each_dev flushed_p (fun w=>Wd.flushed_ok) hD1 (i/64*8) (((i+m-1)/64+1)*8) (by omega) (by omega)
    repeat' (refine W.go ?_;try intro b_)
    refine W.callE he ?_ ?_
    ·simp;omega
    rintro _ H3 ⟨rfl,hD3⟩
    repeat' (refine W.go ?_;try intro b_)
    refine F.f1 ?_
    refine⟨rfl,?_⟩
    unfold flushW
    rw [if_neg hz]
    simp only [List.append_nil];exact hD3
  ·repeat' (refine W.go ?_;try intro b_)
   refine F.f1 ?_
   have hres:σ.flush x n=σ.act (2,x,n):=by unfold Dv.flush;rw [if_pos h0,if_neg h1]
   have hresE:σ.actR x n=σ.actE:=by unfold Dv.actR;rw [if_pos h0]
   rw [hres,hresE];refine⟨rfl,?_⟩;simp only [List.append_nil];exact hD1
 ·repeat' (refine W.go ?_;try intro b_)
  refine F.f1 ?_
  have hres:σ.flush x n=σ:=by unfold Dv.flush;rw [if_neg h0]
  have hresE:σ.actR x n=σ.rdy x n:=by unfold Dv.actR;rw [if_neg h0]
  rw [hres,hresE];refine⟨rfl,?_⟩;simp only [List.append_nil];exact hD
theorem fence_p{p:Nat}{σ:Dv}{H:Hp}(hD:DevP p σ H):Tri Tryz.prog 123 [.pointer (some ⟨p,0,none⟩)] H (fun _=>True)
  (fun v' H'=>v'=.int .i64 (σ.actR 0 0)∧DevP p σ.fence H'):=by
 have hr:=ready_p hD 0 0
 have ha:=act_p hD (3,0,0)
 refine Tri.mk Tryz.func123 rfl Tryz.ntmps123 rfl fun w hw=>?_
 repeat' (refine W.go ?_;try intro b_)
 refine W.call hr ?_
 rintro _ _ ⟨rfl,rfl⟩
 by_cases h0:σ.rdy 0 0=0
 ·rw [h0]
  repeat' (refine W.go ?_;try intro b_)
  refine W.call ha ?_
  rintro _ H1 ⟨rfl,hD1⟩
  by_cases h1:σ.actE=0
  ·rw [h1]
   have hres:σ.fence=(σ.act (3,0,0)).setWs ((σ.act (3,0,0)).ws.map Wd.fenced):=by unfold Dv.fence;rw [if_pos h0,if_pos h1]
   have hresE:σ.actR 0 0=0:=by unfold Dv.actR;rw [if_pos h0,h1]
   rw [hres,hresE]
   generalize σ.act (3,0,0)=τ at hD1 ⊢
   have he:=each_dev fenced_p (fun w=>Wd.fenced_ok) hD1 0 τ.ws.length (Nat.zero_le _) (Nat.le_refl _)
   have hat:∃ bw x1 x2 x3 x4,At H1 p (cl [.slice (some ⟨bw,0,none⟩) τ.ws.length τ.ws.length,x1,x2,x3,x4] 152):=by
    obtain⟨hO,bw,vp,va,Hq,Ha,h2,h3,rfl⟩:=hD1
    exact⟨bw,_,_,_,_,inferInstance⟩
   obtain⟨bw,x1,x2,x3,x4,hat⟩:=hat
   repeat' (refine W.go ?_;try intro b_)
   refine W.call he ?_
   rintro _ H3 ⟨rfl,hD3⟩
   repeat' (refine W.go ?_;try intro b_)
   refine F.f1 ?_
   refine⟨rfl,?_⟩
   rw [mapR_all] at hD3
   simp only [List.append_nil];exact hD3
  ·repeat' (refine W.go ?_;try intro b_)
   refine F.f1 ?_
   have hres:σ.fence=σ.act (3,0,0):=by unfold Dv.fence;rw [if_pos h0,if_neg h1]
   have hresE:σ.actR 0 0=σ.actE:=by unfold Dv.actR;rw [if_pos h0]
   rw [hres,hresE];refine⟨rfl,?_⟩;simp only [List.append_nil];exact hD1
 ·repeat' (refine W.go ?_;try intro b_)
  refine F.f1 ?_
  have hres:σ.fence=σ:=by unfold Dv.fence;rw [if_neg h0]
  have hresE:σ.actR 0 0=σ.rdy 0 0:=by unfold Dv.actR;rw [if_neg h0]
  rw [hres,hresE];refine⟨rfl,?_⟩;simp only [List.append_nil];exact hD
theorem fill_step(A:List Value)(m:Nat)(z v:Value):(A++List.replicate (m+1) z).set A.length v=A++[v]++List.replicate m z:=by
 rw [List.set_append_right _ _ (Nat.le_refl _),Nat.sub_self,List.replicate_succ,List.set_cons_zero];simp
def Dv.loadB(σ:Dv)(i n:Int):List UInt8:=if σ.rdy i n=0 then ((nowB σ.ws).drop i.toNat).take n.toNat else []
theorem load_p{p:Nat}{σ:Dv}{H:Hp}(hD:DevP p σ H)(x n:Int):Tri Tryz.prog 69 [.pointer (some ⟨p,0,none⟩),.int .i64 x,.int .i64 n] H (fun _=>True)
  (fun v' H'=>∃ sv Hs,v'=.tuple #[sv,.int .i64 (σ.rdy x n)]∧Sl 5 1 sv ((σ.loadB x n).map bv) Hs∧H'=Hs++H):=by
 have hr:=ready_p hD x n
 refine Tri.mk Tryz.func69 rfl Tryz.ntmps69 rfl fun w hw=>?_
 repeat' (refine W.go ?_;try intro b_)
 refine W.call hr ?_
 rintro _ _ ⟨rfl,rfl⟩
 by_cases h0:σ.rdy x n=0
 ·obtain⟨hdn,hx0,hn0,hn,hxn⟩:=rdy_zero h0
  have hb:σ.loadB x n=((nowB σ.ws).drop x.toNat).take n.toNat:=by unfold Dv.loadB;rw [if_pos h0]
  rw [h0,hb]
  have hlen:σ.len=8*σ.ws.length:=rfl
  obtain⟨i,rfl⟩:∃ i:Nat,x=i:=⟨x.toNat,by omega⟩
  obtain⟨m,rfl⟩:∃ m:Nat,n=m:=⟨n.toNat,by omega⟩
  rw [Int.toNat_natCast,Int.toNat_natCast]
  have hN:=hD.1.n
  obtain⟨hO,bw,vp,va,Hq,Ha,h2,h3,rfl⟩:=hD
  have hnl:=nowB_len hO.ok
  repeat' (refine W.go ?_;try intro b_)
  refine SW.loopG [0,1,9,21] [b_] (fun k:Nat=>[(22,.int .i64 k)]) (fun k=>[(b_,cl ((((nowB σ.ws).drop i).take k).map bv++List.replicate (m-k) (.int .u8 0)) 5)]) (fun k=>m-k) (fun k=>k≤m) 0 (Nat.zero_le _) ?_ (by simp [zs_one])
  intro k hk
  by_cases hkl:k<m
  ·obtain⟨u,hu⟩:∃ u,σ.ws[(i+k)/8]?=some u:=⟨_,List.getElem?_eq_getElem (by omega)⟩
   have hj:(i+k)%8<8:=Nat.mod_lt _ (by decide)
   have hul:=(hO.ok u (List.mem_of_getElem? hu)).1
   obtain⟨c,hc⟩:∃ c,u.now[(i+k)%8]?=some c:=⟨_,List.getElem?_eq_getElem (by rw [hul.2];exact hj)⟩
   have hg:(σ.ws.flatMap wc)[(i+k)/8*18+8+(i+k)%8]?=some (bv c):=by
    rw [Nat.add_assoc,ws_get hO.ok hu (by omega),(wc_byte hul hj).1,hc];rfl
   have hnb:(nowB σ.ws)[i+k]?=some c:=by rw [nowB_get hO.ok hu,hc]
   have hAl:((((nowB σ.ws).drop i).take k).map bv).length=k:=by simp;omega
   have hst:k<(((((nowB σ.ws).drop i).take k).map bv)++List.replicate (m-k) (Value.int .u8 0)).length:=by rw [List.length_append,hAl];simp;omega
   repeat' (refine W.go ?_;try intro b_)
   have hf:=fill_step ((((nowB σ.ws).drop i).take k).map bv) (m-(k+1)) (.int .u8 0) (bv c)
   rw [hAl,show m-(k+1)+1=m-k by omega] at hf
   have hf2:(((nowB σ.ws).drop i).take k).map bv++[bv c]=(((nowB σ.ws).drop i).take (k+1)).map bv:=by
    rw [List.take_add_one,List.getElem?_drop,hnb];simp
   rw [hf,hf2]
   refine HandF.mk (k+1) ?_
   omega
  ·have:k=m:=by omega
   subst this
   repeat' (refine W.go ?_;try intro b_)
   refine F.f2 ?_
   refine⟨_,[(b_,cl ((((nowB σ.ws).drop i).take k).map bv) 5)],rfl,  .inr ⟨b_,k,k,[],rfl,by simp;omega,by simp,Nat.le_refl _,by simp⟩,?_⟩
   simp
 ·have hb:σ.loadB x n=[]:=by unfold Dv.loadB;rw [if_neg h0]
  repeat' (refine W.go ?_;try intro b_)
  refine F.f2 ?_
  refine⟨_,[],rfl,?_,by simp⟩
  rw [hb];exact Sl.nil _ _
end Go.Proofs.YtnigolgkkjidiaaGreat
namespace Go.Proofs.YtnigolgkkjidiaaGreat
open Go
attribute [local irreducible] SW SL SQ SH SA Pu Fin
def rl(ws:List Wd):List Value:=ws.flatMap fun w=>w.lasts.map bv
def rn(ws:List Wd):List Value:=ws.flatMap fun w=>w.now.map bv
def rp(ws:List Wd):List Value:=ws.map fun w=>.bool w.pend
def rm(ws:List Wd):List Value:=ws.map fun w=>.bool w.mark
theorem rn_len{ws:List Wd}(h:∀ w∈ws,w.Ok):(rn ws).length=8*ws.length:=by
 rw [rn,fm_len _ 8 _ (fun w hw=>by simpa using (h w hw).1.2)];omega
theorem rl_len{ws:List Wd}(h:∀ w∈ws,w.Ok):(rl ws).length=8*ws.length:=by
 rw [rl,fm_len _ 8 _ (fun w hw=>by simpa using (h w hw).1.1)];omega
def DevR(p:Nat)(σ:Dv)(H:Hp):Prop:=
 σ.Ok∧∃ bl bn bp bm vp va Hq Ha,Sl 5 1 vp (σ.picks.map bv) Hq∧Sl 404 3 va (σ.acts.flatMap ac) Ha ∧
  H=(p,cl [.slice (some ⟨bl,0,none⟩) σ.len σ.len,.slice (some ⟨bn,0,none⟩) σ.len σ.len,.slice (some ⟨bp,0,none⟩) σ.ws.length σ.ws.length,.slice (some ⟨bm,0,none⟩) σ.ws.length σ.ws.length,.bool σ.down,.int .i64 σ.fuse,vp,va] 54) ::
   (bl,cl (rl σ.ws) 5)::(bn,cl (rn σ.ws) 5)::(bp,cl (rp σ.ws) 4)::(bm,cl (rm σ.ws) 4)::(Hq++Ha)
theorem rready_p{p:Nat}{σ:Dv}{H:Hp}(hD:DevR p σ H)(x n:Int):Tri Tryz.prog 246 [.pointer (some ⟨p,0,none⟩),.int .i64 x,.int .i64 n] H (fun _=>True) (fun v H'=>v=.int .i64 (σ.rdy x n)∧H'=H):=by
 obtain⟨hO,bl,bn,bp,bm,vp,va,Hq,Ha,h1,h2,rfl⟩:=hD
 have hof:One vp:=h1.one
 have hoa:One va:=h2.one
 have hn:σ.len≤65536:=by have:=hO.n;simp only [Dv.len];omega
 refine Tri.mk Tryz.func246 rfl Tryz.ntmps246 rfl fun w hw=>?_
 repeat' (first|(refine W.ow ?_;try intro b_)  | refine SL.cmp (p_lss rfl rfl rfl) rfl rfl (fun h_=>?_) (fun h_=>?_)|refine SL.cmp (p_leq rfl rfl rfl) rfl rfl (fun h_=>?_) (fun h_=>?_)|refine SL.cmp (p_gtr rfl rfl rfl) rfl rfl (fun h_=>?_) (fun h_=>?_)|refine SL.cmp (p_geq rfl rfl rfl) rfl rfl (fun h_=>?_) (fun h_=>?_)|refine SL.cmp (p_eql rfl rfl rfl) rfl rfl (fun h_=>?_) (fun h_=>?_)|refine SL.cmp (p_neq rfl rfl rfl) rfl rfl (fun h_=>?_) (fun h_=>?_)|refine SW.cond_b rfl (fun h_=>?_) (fun h_=>?_))
 all_goals (refine Fin.r1 (.inl rfl) rfl rfl _ ⟨?_,rfl⟩;unfold Dv.rdy;congr 1)
 all_goals (repeat' split)
 all_goals first|rfl|(exfalso;simp_all;done)|(exfalso;omega)
end Go.Proofs.YtnigolgkkjidiaaGreat
namespace Go.Proofs.YtnigolgkkjidiaaGreat
open Go
section
variable {P:Program}{C:Ctx}{ρ:Fr}{H H':Hp}{o:Oper}
theorem p_slice_lt{t e n len cap l h b j m c:Nat}{x y y2:Operand}{k k2:IntKind}{i i2:Int}(ho:o.op=.slice t x (some y) (some y2) none)(hx:ev ρ x=some (.slice (some ⟨b,j,none⟩) len cap)) [ht:SliceTy P t e n]
  (hy:ev ρ y=some (.int k i)) (hy2:ev ρ y2=some (.int k2 i2)) (hl:i=(l:Int)) (hh:i2=(h:Int)) (hlt:l<cap) (h2:h≤cap) (hm:l+m=h) {j':Nat} (hj:j+l*n=j') (hc:l+c=cap):Pu P C ρ H o (.slice (some ⟨b,j',none⟩) m c):=by
 have:=p_slice (P:=P) (C:=C) (H:=H) (vl:=none) (vh:=none) ho hx (ht:=ht) (l:=l) (h:=h) (.inr ⟨y,k,i,rfl,hy,hl⟩) (.inr ⟨y2,k2,i2,rfl,hy2,hh⟩) (by omega) h2
 have e1:sadr (some ⟨b,j,none⟩) cap l n=some ⟨b,j',none⟩:=by
  unfold sadr
  rw [if_neg (by omega)]
  simp only [Option.map_some,Option.some.injEq]
  subst hj
  unfold Addr.add
  split
  ·rename_i h0;rw [h0];rfl
  ·rfl
 have e2:h-l=m:=by omega
 have e3:cap-l=c:=by omega
 rw [e1,e2,e3] at this
 exact this
end
end Go.Proofs.YtnigolgkkjidiaaGreat
namespace Go.Proofs.YtnigolgkkjidiaaGreat
open Go
attribute [local irreducible] SW SL SQ SH SA Pu Fin
theorem splice8{A B x y:List Value}{m:Nat}(hA:A.length=m)(hx:x.length=8)(hy:y.length=8):(A++(x++B)).take m++y++(A++(x++B)).drop (m+y.length)=A++(y++B):=by
 subst hA
 rw [List.take_left' rfl,← List.drop_drop,List.drop_left' rfl,List.drop_left' (by omega),List.append_assoc]
theorem row8{A B x:List Value}{m:Nat}(hA:A.length=m)(hx:x.length=8):((A++(x++B)).drop m).take (8*1)=x:=by
 subst hA
 rw [List.drop_left' rfl,List.take_left' (by omega)]
theorem rl_mid(d t:List Wd)(u:Wd):rl (d++u::t)=rl d++(u.lasts.map bv++rl t):=by simp [rl]
theorem rn_mid(d t:List Wd)(u:Wd):rn (d++u::t)=rn d++(u.now.map bv++rn t):=by simp [rn]
theorem rp_mid(d t:List Wd)(u:Wd):rp (d++u::t)=rp d++(.bool u.pend::rp t):=by simp [rp]
theorem rm_mid(d t:List Wd)(u:Wd):rm (d++u::t)=rm d++(.bool u.mark::rm t):=by simp [rm]
theorem rp_len(d:List Wd):(rp d).length=d.length:=by simp [rp]
theorem rm_len(d:List Wd):(rm d).length=d.length:=by simp [rm]
theorem set_at{A B:List Value}{m:Nat}{x y:Value}(hA:A.length=m):(A++(x::B)).set m y=A++(y::B):=by
 subst hA;simp
theorem bit_rem(b:UInt8):((b.toNat:Int).tmod 2=1)↔((b &&& 1) == 1)=true:=by
 have h1:((b &&& 1) == 1)=true↔b.toNat%2=1:=by
  rw [beq_iff_eq,← UInt8.toNat_inj,UInt8.toNat_and,UInt8.toNat_one,Nat.and_one_is_mod]
 rw [h1]
 have:((b.toNat:Int)).tmod 2=((b.toNat%2:Nat):Int):=by rw [Int.ofNat_tmod];rfl
 rw [this];omega
def rhdr(bl bn bp bm n:Nat)(d:Bool)(f:Int)(vp va:Value):Obj:=
 cl [.slice (some ⟨bl,0,none⟩) (8*n) (8*n),.slice (some ⟨bn,0,none⟩) (8*n) (8*n),.slice (some ⟨bp,0,none⟩) n n,.slice (some ⟨bm,0,none⟩) n n,.bool d,.int .i64 f,vp,va] 54
theorem rcrash_core{p bl bn bp bm:Nat}{σ:Dv}(hO:σ.Ok)(vp va q:Value)(qs:List UInt8) :
  Tri Tryz.prog 278 [.pointer (some ⟨p,0,none⟩),q]
   [(p,rhdr bl bn bp bm σ.ws.length σ.down σ.fuse vp va),(bl,cl (rl σ.ws) 5),(bn,cl (rn σ.ws) 5),(bp,cl (rp σ.ws) 4),(bm,cl (rm σ.ws) 4)] (fun w=>Rd [p,bl,bn,bp,bm] w 1 q (qs.map bv))
   (fun v H'=>v=.tuple #[]∧H'=[(p,rhdr bl bn bp bm (σ.crash qs).ws.length (σ.crash qs).down (σ.crash qs).fuse vp va),(bl,cl (rl (σ.crash qs).ws) 5),(bn,cl (rn (σ.crash qs).ws) 5),(bp,cl (rp (σ.crash qs).ws) 4),(bm,cl (rm (σ.crash qs).ws) 4)]):=by
 unfold rhdr
 obtain⟨ws,dn,fu,pk,ak⟩:=σ
 have hn:=hO.n
 have hok:=hO.ok
 simp only at hn hok
 refine Tri.mk Tryz.func278 rfl Tryz.ntmps278 rfl fun w hw=>?_
 obtain⟨a,len,cap,rfl,hlen,hcap,hrd⟩:=hw
 rw [List.length_map,Nat.mul_one] at hlen
 cases dn
 ·dsimp only
  repeat' (refine W.ow ?_;try intro b_)
  refine SW.loopN (fun x:List Wd×List Wd×Nat=>[(0,.pointer (some ⟨p,0,none⟩)),(1,.slice a len cap),(4,.int .i64 x.2.2),(14,.int .i64 ws.length),(15,.int .i64 x.1.length)])
   (fun x=>[(p,rhdr bl bn bp bm ws.length false fu vp va),(bl,cl (rl (x.1++x.2.1)) 5),(bn,cl (rn (x.1++x.2.1)) 5),(bp,cl (rp (x.1++x.2.1)) 4),(bm,cl (rm (x.1++x.2.1)) 4)])
   (fun x=>x.2.1.length) (fun x=>crashL qs 0 ws=x.1++crashL qs x.2.2 x.2.1∧x.1.length+x.2.1.length=ws.length∧x.2.2≤x.1.length∧(∀ w∈x.1++x.2.1,w.Ok))
   ([],ws,0) ⟨rfl,rfl,rfl,rfl,rfl,trivial⟩ (by dsimp only [List.nil_append,rhdr];infer_instance) ⟨rfl,by simp,Nat.le_refl _,hok⟩ ?_
  rintro⟨done,todo,j⟩ ⟨hc,hl,hj,hk⟩
  dsimp only [rhdr] at hc hl hj hk ⊢
  cases todo with
  | nil=>
   have hl2:done.length=ws.length:=by simpa using hl
   repeat' (refine W.ow ?_;try intro b_)
   refine Fin.s0 (.inr rfl) rfl ⟨rfl,?_⟩
   simp [Dv.crash,hc,crashL,hl2]
  | cons u t=>
   have hl2:done.length+(t.length+1)=ws.length:=by simpa using hl
   have hu:u.Ok:=hk u (by simp)
   rw [rl_mid,rn_mid,rp_mid,rm_mid]
   have hpg:(rp done++(.bool u.pend::rp t))[done.length]?=some (.bool u.pend):=by
    rw [List.getElem?_append_right (by rw [rp_len];exact Nat.le_refl _),rp_len];simp
   repeat' (refine W.ow ?_;try intro b_)
   refine SL.pu (p_indexAddr rfl rfl rfl (by omega) (by omega) (j':=done.length) (by omega)) rfl rfl ?_
   repeat' (refine W.ow ?_;try intro b_)
   have hlp:done.length<(rp done++(Value.bool u.pend::rp t)).length:=by rw [List.length_append,rp_len];simp
   have hlm:done.length<(rm done++(Value.bool u.mark::rm t)).length:=by rw [List.length_append,rm_len];simp
   have hdk:∀ w∈done,w.Ok:=fun w hw=>hk w (by simp [hw])
   have hA:=rl_len hdk
   have hB:=rn_len hdk
   obtain⟨la,no,pe,ma⟩:=u
   dsimp only at hpg hlp hlm
   cases pe
   ·have hma:ma=false:=by
     cases ma with
     | false=>rfl
     | true=>exact absurd (hu.2 rfl) (by simp)
    subst hma
    repeat' (refine W.ow ?_;try intro b_)
    refine SL.pu (p_indexAddr rfl rfl rfl (by omega) (by omega) (j':=done.length) (by omega)) rfl rfl ?_
    repeat' (refine W.ow ?_;try intro b_)
    refine SL.pu (p_indexAddr rfl rfl rfl (by omega) (by omega) (j':=done.length) (by omega)) rfl rfl ?_
    repeat' (refine W.ow ?_;try intro b_)
    rw [set_at (rp_len done),set_at (rm_len done)]
    refine HandN.eq (done++[⟨la,no,false,false⟩],t,j) (by simp) ⟨rfl,rfl,rfl,rfl,?_,trivial⟩ ?_ ⟨?_,?_,?_,?_⟩
    ·simp [lk,pt]
    ·simp [rl_mid,rn_mid,rp_mid,rm_mid,rhdr]
    ·rw [hc];simp [crashL]
    ·simp;omega
    ·simp;omega
    ·simpa using hk
   ·have h8n:(no.map bv).length=8:=by simpa using hu.1.2
    have h8l:(la.map bv).length=8:=by simpa using hu.1.1
    rcases Nat.eq_zero_or_pos len with h0|h0
    ·subst h0
     have hq:qs=[]:=List.eq_nil_of_length_eq_zero hlen
     have hbt:bitP qs j=false:=by subst hq;simp [bitP]
     have hLL:=hu.1.1
     repeat' (refine W.ow ?_;try intro b_)
     refine SW.regionB [p] 99 (by kernel_rfl) ?_
     (refine SA.take 0 rfl (by kernel_rfl) (fun _ _ _ h=>Fin.np h) rfl rfl (p_move rfl rfl) ?_;refine SA.take 1 rfl (by kernel_rfl) (fun _ _ _ h=>Fin.np h) rfl rfl (p_nil rfl rfl) ?_;refine SA.take 2 rfl (by kernel_rfl) (fun _ _ _ h=>Fin.np h) rfl rfl (p_fieldAddr rfl rfl rfl) ?_;refine SA.take 3 rfl (by kernel_rfl) (fun _ _ _ h=>Fin.np h) rfl rfl (p_load_s rfl rfl rfl) ?_;refine SA.take 4 rfl (by kernel_rfl) (fun _ _ _ h=>Fin.np h) rfl rfl (p_move rfl rfl) ?_;refine SA.take 5 rfl (by kernel_rfl) (fun _ _ _ h=>Fin.np h) rfl rfl (p_mul rfl rfl rfl (w64 (by omega))) ?_;refine SA.take 6 rfl (by kernel_rfl) (fun _ _ _ h=>Fin.np h) rfl rfl (p_move rfl rfl) ?_;refine SA.take 7 rfl (by kernel_rfl) (fun _ _ _ h=>Fin.np h) rfl rfl (p_mul rfl rfl rfl (w64 (by omega))) ?_;refine SA.take 8 rfl (by kernel_rfl) (fun _ _ _ h=>Fin.np h) rfl rfl (p_add rfl rfl rfl (w64 (by omega))) ?_)
     refine SA.take 9 rfl (by kernel_rfl) (fun _ _ _ h=>Fin.np h) rfl rfl (p_slice_lt (l:=8*done.length) (m:=8) (h:=8*done.length+8) (j':=8*done.length) (c:=8*ws.length-8*done.length) rfl rfl rfl rfl (by omega) (by omega) (by omega) (by omega) (by omega) (by omega) (by omega)) ?_
     (refine SA.take 10 rfl (by kernel_rfl) (fun _ _ _ h=>Fin.np h) rfl rfl (p_move rfl rfl) ?_;refine SA.take 11 rfl (by kernel_rfl) (fun _ _ _ h=>Fin.np h) rfl rfl (p_nil rfl rfl) ?_;refine SA.take 12 rfl (by kernel_rfl) (fun _ _ _ h=>Fin.np h) rfl rfl (p_fieldAddr rfl rfl rfl) ?_;refine SA.take 13 rfl (by kernel_rfl) (fun _ _ _ h=>Fin.np h) rfl rfl (p_load_s rfl rfl rfl) ?_;refine SA.take 14 rfl (by kernel_rfl) (fun _ _ _ h=>Fin.np h) rfl rfl (p_move rfl rfl) ?_;refine SA.take 15 rfl (by kernel_rfl) (fun _ _ _ h=>Fin.np h) rfl rfl (p_mul rfl rfl rfl (w64 (by omega))) ?_;refine SA.take 16 rfl (by kernel_rfl) (fun _ _ _ h=>Fin.np h) rfl rfl (p_move rfl rfl) ?_;refine SA.take 17 rfl (by kernel_rfl) (fun _ _ _ h=>Fin.np h) rfl rfl (p_mul rfl rfl rfl (w64 (by omega))) ?_;refine SA.take 18 rfl (by kernel_rfl) (fun _ _ _ h=>Fin.np h) rfl rfl (p_add rfl rfl rfl (w64 (by omega))) ?_)
     refine SA.take 19 rfl (by kernel_rfl) (fun _ _ _ h=>Fin.np h) rfl rfl (p_slice_lt (l:=8*done.length) (m:=8) (h:=8*done.length+8) (j':=8*done.length) (c:=8*ws.length-8*done.length) rfl rfl rfl rfl (by omega) (by omega) (by omega) (by omega) (by omega) (by omega) (by omega)) ?_
     refine SA.one 20 rfl (by kernel_rfl) ?_
     refine SL.copy (m:=8) (ys:=la.map bv) rfl rfl rfl rfl rfl (fun w2 hs=>(SrcOf.block (m:=8) (size:=1) (hs.at (b:=bl)) (row8 hA h8l) (by simpa using h8l)) w2 rfl) (by rw [List.length_append,List.length_append];omega) (splice8 hB h8n h8l) ?_
     refine SL.nil ?_
     refine Beh.mk ?_
     refine SA.done (by kernel_rfl) ?_
     repeat' (refine W.ow ?_;try intro b_)
     refine SL.pu (p_indexAddr rfl rfl rfl (by omega) (by omega) (j':=done.length) (by omega)) rfl rfl ?_
     repeat' (refine W.ow ?_;try intro b_)
     refine SL.pu (p_indexAddr rfl rfl rfl (by omega) (by omega) (j':=done.length) (by omega)) rfl rfl ?_
     repeat' (refine W.ow ?_;try intro b_)
     rw [set_at (rp_len done),set_at (rm_len done)]
     refine HandN.eq (done++[⟨la,la,false,false⟩],t,j+1) (by simp) ⟨rfl,rfl,rfl,rfl,?_,trivial⟩ ?_ ⟨?_,?_,?_,?_⟩
     ·simp [lk,pt]
     ·simp [rl_mid,rn_mid,rp_mid,rm_mid,rhdr]
     ·rw [hc];simp only [crashL,cond_true,Wd.crash];rw [hbt];simp
     ·simp;omega
     ·simp;omega
     ·have hk2:∀ w∈t,w.Ok:=fun w hw=>hk w (by simp [hw])
      intro w hw
      simp only [List.mem_append,List.mem_cons,List.not_mem_nil,or_false] at hw
      rcases hw with (hw|rfl)|hw
      ·exact hdk w hw
      ·exact⟨⟨hLL,hLL⟩,by simp⟩
      ·exact hk2 w hw
    ·obtain⟨b,o,l,T,fz,rfl,hb,hbk,hrow⟩:=hrd.resolve_left (by omega)
     obtain⟨x,hx⟩:∃ x,qs[j%qs.length]?=some x:=⟨_,List.getElem?_eq_getElem (Nat.mod_lt _ (by omega))⟩
     have hlx:l[o+(j%len)*1]?=some (bv x):=by
      have:=congrArg (fun z=>z[j%len]?) hrow
      rw [List.getElem?_take,if_pos (by have:=Nat.mod_lt j h0;omega),List.getElem?_drop,List.getElem?_map,← hlen,hx] at this
      rw [Nat.mul_one,← hlen];exact this
     repeat' (refine W.ow ?_;try intro b_)
     refine SL.pu (p_rem rfl rfl rfl (by omega) (r:=((j%len:Nat):Int)) (by rw [Int.ofNat_tmod])) rfl rfl ?_
     refine SL.pu (p_indexAddr rfl rfl rfl (by omega) (by have:=Nat.mod_lt j h0;omega) (j':=o+(j%len)*1) (by rw [Int.toNat_natCast])) rfl rfl ?_
     refine SL.pu (p_load_sR rfl rfl hb hbk hlx) rfl rfl ?_
     refine SL.pu (p_rem rfl rfl rfl (by decide) rfl) rfl rfl ?_
     by_cases hbit:((x &&& 1) == 1)=true
     ·have hbt:bitP qs j=true:=by simp only [bitP,hx,hbit]
      have hLL:=hu.1.2
      refine SL.pu (Pu.t (p_eql rfl rfl rfl) ((bit_rem x).2 hbit)) rfl rfl ?_
      repeat' (refine W.ow ?_;try intro b_)
      refine SW.regionB [p] 99 (by kernel_rfl) ?_
      (refine SA.take 0 rfl (by kernel_rfl) (fun _ _ _ h=>Fin.np h) rfl rfl (p_move rfl rfl) ?_;refine SA.take 1 rfl (by kernel_rfl) (fun _ _ _ h=>Fin.np h) rfl rfl (p_nil rfl rfl) ?_;refine SA.take 2 rfl (by kernel_rfl) (fun _ _ _ h=>Fin.np h) rfl rfl (p_fieldAddr rfl rfl rfl) ?_;refine SA.take 3 rfl (by kernel_rfl) (fun _ _ _ h=>Fin.np h) rfl rfl (p_load_s rfl rfl rfl) ?_;refine SA.take 4 rfl (by kernel_rfl) (fun _ _ _ h=>Fin.np h) rfl rfl (p_move rfl rfl) ?_;refine SA.take 5 rfl (by kernel_rfl) (fun _ _ _ h=>Fin.np h) rfl rfl (p_mul rfl rfl rfl (w64 (by omega))) ?_;refine SA.take 6 rfl (by kernel_rfl) (fun _ _ _ h=>Fin.np h) rfl rfl (p_move rfl rfl) ?_;refine SA.take 7 rfl (by kernel_rfl) (fun _ _ _ h=>Fin.np h) rfl rfl (p_mul rfl rfl rfl (w64 (by omega))) ?_;refine SA.take 8 rfl (by kernel_rfl) (fun _ _ _ h=>Fin.np h) rfl rfl (p_add rfl rfl rfl (w64 (by omega))) ?_)
      refine SA.take 9 rfl (by kernel_rfl) (fun _ _ _ h=>Fin.np h) rfl rfl (p_slice_lt (l:=8*done.length) (m:=8) (h:=8*done.length+8) (j':=8*done.length) (c:=8*ws.length-8*done.length) rfl rfl rfl rfl (by omega) (by omega) (by omega) (by omega) (by omega) (by omega) (by omega)) ?_
      (refine SA.take 10 rfl (by kernel_rfl) (fun _ _ _ h=>Fin.np h) rfl rfl (p_move rfl rfl) ?_;refine SA.take 11 rfl (by kernel_rfl) (fun _ _ _ h=>Fin.np h) rfl rfl (p_nil rfl rfl) ?_;refine SA.take 12 rfl (by kernel_rfl) (fun _ _ _ h=>Fin.np h) rfl rfl (p_fieldAddr rfl rfl rfl) ?_;refine SA.take 13 rfl (by kernel_rfl) (fun _ _ _ h=>Fin.np h) rfl rfl (p_load_s rfl rfl rfl) ?_;refine SA.take 14 rfl (by kernel_rfl) (fun _ _ _ h=>Fin.np h) rfl rfl (p_move rfl rfl) ?_;refine SA.take 15 rfl (by kernel_rfl) (fun _ _ _ h=>Fin.np h) rfl rfl (p_mul rfl rfl rfl (w64 (by omega))) ?_;refine SA.take 16 rfl (by kernel_rfl) (fun _ _ _ h=>Fin.np h) rfl rfl (p_move rfl rfl) ?_;refine SA.take 17 rfl (by kernel_rfl) (fun _ _ _ h=>Fin.np h) rfl rfl (p_mul rfl rfl rfl (w64 (by omega))) ?_;refine SA.take 18 rfl (by kernel_rfl) (fun _ _ _ h=>Fin.np h) rfl rfl (p_add rfl rfl rfl (w64 (by omega))) ?_)
      refine SA.take 19 rfl (by kernel_rfl) (fun _ _ _ h=>Fin.np h) rfl rfl (p_slice_lt (l:=8*done.length) (m:=8) (h:=8*done.length+8) (j':=8*done.length) (c:=8*ws.length-8*done.length) rfl rfl rfl rfl (by omega) (by omega) (by omega) (by omega) (by omega) (by omega) (by omega)) ?_
      refine SA.one 20 rfl (by kernel_rfl) ?_
      refine SL.copy (m:=8) (ys:=no.map bv) rfl rfl rfl rfl rfl (fun w2 hs=>(SrcOf.block (m:=8) (size:=1) (hs.at (b:=bn)) (row8 hB h8n) (by simpa using h8n)) w2 rfl) (by rw [List.length_append,List.length_append];omega) (splice8 hA h8l h8n) ?_
      refine SL.nil ?_
      refine Beh.mk ?_
      refine SA.done (by kernel_rfl) ?_
      repeat' (refine W.ow ?_;try intro b_)
      refine SW.regionB [p] 99 (by kernel_rfl) ?_
      (refine SA.take 0 rfl (by kernel_rfl) (fun _ _ _ h=>Fin.np h) rfl rfl (p_move rfl rfl) ?_;refine SA.take 1 rfl (by kernel_rfl) (fun _ _ _ h=>Fin.np h) rfl rfl (p_nil rfl rfl) ?_;refine SA.take 2 rfl (by kernel_rfl) (fun _ _ _ h=>Fin.np h) rfl rfl (p_fieldAddr rfl rfl rfl) ?_;refine SA.take 3 rfl (by kernel_rfl) (fun _ _ _ h=>Fin.np h) rfl rfl (p_load_s rfl rfl rfl) ?_;refine SA.take 4 rfl (by kernel_rfl) (fun _ _ _ h=>Fin.np h) rfl rfl (p_move rfl rfl) ?_;refine SA.take 5 rfl (by kernel_rfl) (fun _ _ _ h=>Fin.np h) rfl rfl (p_mul rfl rfl rfl (w64 (by omega))) ?_;refine SA.take 6 rfl (by kernel_rfl) (fun _ _ _ h=>Fin.np h) rfl rfl (p_move rfl rfl) ?_;refine SA.take 7 rfl (by kernel_rfl) (fun _ _ _ h=>Fin.np h) rfl rfl (p_mul rfl rfl rfl (w64 (by omega))) ?_;refine SA.take 8 rfl (by kernel_rfl) (fun _ _ _ h=>Fin.np h) rfl rfl (p_add rfl rfl rfl (w64 (by omega))) ?_)
      refine SA.take 9 rfl (by kernel_rfl) (fun _ _ _ h=>Fin.np h) rfl rfl (p_slice_lt (l:=8*done.length) (m:=8) (h:=8*done.length+8) (j':=8*done.length) (c:=8*ws.length-8*done.length) rfl rfl rfl rfl (by omega) (by omega) (by omega) (by omega) (by omega) (by omega) (by omega)) ?_
      (refine SA.take 10 rfl (by kernel_rfl) (fun _ _ _ h=>Fin.np h) rfl rfl (p_move rfl rfl) ?_;refine SA.take 11 rfl (by kernel_rfl) (fun _ _ _ h=>Fin.np h) rfl rfl (p_nil rfl rfl) ?_;refine SA.take 12 rfl (by kernel_rfl) (fun _ _ _ h=>Fin.np h) rfl rfl (p_fieldAddr rfl rfl rfl) ?_;refine SA.take 13 rfl (by kernel_rfl) (fun _ _ _ h=>Fin.np h) rfl rfl (p_load_s rfl rfl rfl) ?_;refine SA.take 14 rfl (by kernel_rfl) (fun _ _ _ h=>Fin.np h) rfl rfl (p_move rfl rfl) ?_;refine SA.take 15 rfl (by kernel_rfl) (fun _ _ _ h=>Fin.np h) rfl rfl (p_mul rfl rfl rfl (w64 (by omega))) ?_;refine SA.take 16 rfl (by kernel_rfl) (fun _ _ _ h=>Fin.np h) rfl rfl (p_move rfl rfl) ?_;refine SA.take 17 rfl (by kernel_rfl) (fun _ _ _ h=>Fin.np h) rfl rfl (p_mul rfl rfl rfl (w64 (by omega))) ?_;refine SA.take 18 rfl (by kernel_rfl) (fun _ _ _ h=>Fin.np h) rfl rfl (p_add rfl rfl rfl (w64 (by omega))) ?_)
      refine SA.take 19 rfl (by kernel_rfl) (fun _ _ _ h=>Fin.np h) rfl rfl (p_slice_lt (l:=8*done.length) (m:=8) (h:=8*done.length+8) (j':=8*done.length) (c:=8*ws.length-8*done.length) rfl rfl rfl rfl (by omega) (by omega) (by omega) (by omega) (by omega) (by omega) (by omega)) ?_
      refine SA.one 20 rfl (by kernel_rfl) ?_
      refine SL.copy (m:=8) (ys:=no.map bv) rfl rfl rfl rfl rfl (fun w2 hs=>(SrcOf.block (m:=8) (size:=1) (hs.at (b:=bl)) (row8 hA h8n) (by simpa using h8n)) w2 rfl) (by rw [List.length_append,List.length_append];omega) (splice8 hB h8n h8n) ?_
      refine SL.nil ?_
      refine Beh.mk ?_
      refine SA.done (by kernel_rfl) ?_
      repeat' (refine W.ow ?_;try intro b_)
      refine SL.pu (p_indexAddr rfl rfl rfl (by omega) (by omega) (j':=done.length) (by omega)) rfl rfl ?_
      repeat' (refine W.ow ?_;try intro b_)
      refine SL.pu (p_indexAddr rfl rfl rfl (by omega) (by omega) (j':=done.length) (by omega)) rfl rfl ?_
      repeat' (refine W.ow ?_;try intro b_)
      rw [set_at (rp_len done),set_at (rm_len done)]
      refine HandN.eq (done++[⟨no,no,false,false⟩],t,j+1) (by simp) ⟨rfl,rfl,rfl,rfl,?_,trivial⟩ ?_ ⟨?_,?_,?_,?_⟩
      ·simp [lk,pt]
      ·simp [rl_mid,rn_mid,rp_mid,rm_mid,rhdr]
      ·rw [hc];simp only [crashL,cond_true,Wd.crash];rw [hbt];simp
      ·simp;omega
      ·simp;omega
      ·have hk2:∀ w∈t,w.Ok:=fun w hw=>hk w (by simp [hw])
       intro w hw
       simp only [List.mem_append,List.mem_cons,List.not_mem_nil,or_false] at hw
       rcases hw with (hw|rfl)|hw
       ·exact hdk w hw
       ·exact⟨⟨hLL,hLL⟩,by simp⟩
       ·exact hk2 w hw
     ·have hbt:bitP qs j=false:=by simp only [Bool.not_eq_true] at hbit;simp only [bitP,hx,hbit]
      have hLL:=hu.1.1
      refine SL.pu (Pu.f (p_eql rfl rfl rfl) (fun h=>hbit ((bit_rem x).1 h))) rfl rfl ?_
      repeat' (refine W.ow ?_;try intro b_)
      refine SW.regionB [p] 99 (by kernel_rfl) ?_
      (refine SA.take 0 rfl (by kernel_rfl) (fun _ _ _ h=>Fin.np h) rfl rfl (p_move rfl rfl) ?_;refine SA.take 1 rfl (by kernel_rfl) (fun _ _ _ h=>Fin.np h) rfl rfl (p_nil rfl rfl) ?_;refine SA.take 2 rfl (by kernel_rfl) (fun _ _ _ h=>Fin.np h) rfl rfl (p_fieldAddr rfl rfl rfl) ?_;refine SA.take 3 rfl (by kernel_rfl) (fun _ _ _ h=>Fin.np h) rfl rfl (p_load_s rfl rfl rfl) ?_;refine SA.take 4 rfl (by kernel_rfl) (fun _ _ _ h=>Fin.np h) rfl rfl (p_move rfl rfl) ?_;refine SA.take 5 rfl (by kernel_rfl) (fun _ _ _ h=>Fin.np h) rfl rfl (p_mul rfl rfl rfl (w64 (by omega))) ?_;refine SA.take 6 rfl (by kernel_rfl) (fun _ _ _ h=>Fin.np h) rfl rfl (p_move rfl rfl) ?_;refine SA.take 7 rfl (by kernel_rfl) (fun _ _ _ h=>Fin.np h) rfl rfl (p_mul rfl rfl rfl (w64 (by omega))) ?_;refine SA.take 8 rfl (by kernel_rfl) (fun _ _ _ h=>Fin.np h) rfl rfl (p_add rfl rfl rfl (w64 (by omega))) ?_)
      refine SA.take 9 rfl (by kernel_rfl) (fun _ _ _ h=>Fin.np h) rfl rfl (p_slice_lt (l:=8*done.length) (m:=8) (h:=8*done.length+8) (j':=8*done.length) (c:=8*ws.length-8*done.length) rfl rfl rfl rfl (by omega) (by omega) (by omega) (by omega) (by omega) (by omega) (by omega)) ?_
      (refine SA.take 10 rfl (by kernel_rfl) (fun _ _ _ h=>Fin.np h) rfl rfl (p_move rfl rfl) ?_;refine SA.take 11 rfl (by kernel_rfl) (fun _ _ _ h=>Fin.np h) rfl rfl (p_nil rfl rfl) ?_;refine SA.take 12 rfl (by kernel_rfl) (fun _ _ _ h=>Fin.np h) rfl rfl (p_fieldAddr rfl rfl rfl) ?_;refine SA.take 13 rfl (by kernel_rfl) (fun _ _ _ h=>Fin.np h) rfl rfl (p_load_s rfl rfl rfl) ?_;refine SA.take 14 rfl (by kernel_rfl) (fun _ _ _ h=>Fin.np h) rfl rfl (p_move rfl rfl) ?_;refine SA.take 15 rfl (by kernel_rfl) (fun _ _ _ h=>Fin.np h) rfl rfl (p_mul rfl rfl rfl (w64 (by omega))) ?_;refine SA.take 16 rfl (by kernel_rfl) (fun _ _ _ h=>Fin.np h) rfl rfl (p_move rfl rfl) ?_;refine SA.take 17 rfl (by kernel_rfl) (fun _ _ _ h=>Fin.np h) rfl rfl (p_mul rfl rfl rfl (w64 (by omega))) ?_;refine SA.take 18 rfl (by kernel_rfl) (fun _ _ _ h=>Fin.np h) rfl rfl (p_add rfl rfl rfl (w64 (by omega))) ?_)
      refine SA.take 19 rfl (by kernel_rfl) (fun _ _ _ h=>Fin.np h) rfl rfl (p_slice_lt (l:=8*done.length) (m:=8) (h:=8*done.length+8) (j':=8*done.length) (c:=8*ws.length-8*done.length) rfl rfl rfl rfl (by omega) (by omega) (by omega) (by omega) (by omega) (by omega) (by omega)) ?_
      refine SA.one 20 rfl (by kernel_rfl) ?_
      refine SL.copy (m:=8) (ys:=la.map bv) rfl rfl rfl rfl rfl (fun w2 hs=>(SrcOf.block (m:=8) (size:=1) (hs.at (b:=bl)) (row8 hA h8l) (by simpa using h8l)) w2 rfl) (by rw [List.length_append,List.length_append];omega) (splice8 hB h8n h8l) ?_
      refine SL.nil ?_
      refine Beh.mk ?_
      refine SA.done (by kernel_rfl) ?_
      repeat' (refine W.ow ?_;try intro b_)
      refine SL.pu (p_indexAddr rfl rfl rfl (by omega) (by omega) (j':=done.length) (by omega)) rfl rfl ?_
      repeat' (refine W.ow ?_;try intro b_)
      refine SL.pu (p_indexAddr rfl rfl rfl (by omega) (by omega) (j':=done.length) (by omega)) rfl rfl ?_
      repeat' (refine W.ow ?_;try intro b_)
      rw [set_at (rp_len done),set_at (rm_len done)]
      refine HandN.eq (done++[⟨la,la,false,false⟩],t,j+1) (by simp) ⟨rfl,rfl,rfl,rfl,?_,trivial⟩ ?_ ⟨?_,?_,?_,?_⟩
      ·simp [lk,pt]
      ·simp [rl_mid,rn_mid,rp_mid,rm_mid,rhdr]
      ·rw [hc];simp only [crashL,cond_true,Wd.crash];rw [hbt];simp
      ·simp;omega
      ·simp;omega
      ·have hk2:∀ w∈t,w.Ok:=fun w hw=>hk w (by simp [hw])
       intro w hw
       simp only [List.mem_append,List.mem_cons,List.not_mem_nil,or_false] at hw
       rcases hw with (hw|rfl)|hw
       ·exact hdk w hw
       ·exact⟨⟨hLL,hLL⟩,by simp⟩
       ·exact hk2 w hw
 ·dsimp only
  repeat' (refine W.ow ?_;try intro b_)
  refine Fin.s0 (.inl rfl) rfl ⟨rfl,rfl⟩
end Go.Proofs.YtnigolgkkjidiaaGreat
namespace Go.Proofs.YtnigolgkkjidiaaGreat
open Go
attribute [local irreducible] SW SL SQ SH SA Pu Fin
theorem ract_p{p:Nat}{σ:Dv}{H:Hp}(hD:DevR p σ H)(hnd:σ.down=false)(k x n:Int):Tri Tryz.prog 247 [.pointer (some ⟨p,0,none⟩),.int .i64 k,.int .i64 x,.int .i64 n] H (fun _=>True)
  (fun v H'=>v=.int .i64 σ.actE∧DevR p (σ.act (k,x,n)) H'):=by
 obtain⟨hO,bl,bn,bp,bm,vp,va,Hq,Ha,h1,h2,rfl⟩:=hD
 have hf0:=hO.f0
 have hf1:=hO.f1
 have ha:=hO.a
 have hof:One vp:=h1.one
 obtain⟨aa,la,ca,rfl,hla⟩:=h2.form
 have hla2:la=σ.acts.length:=by rw [fm_len ac 3 _ (fun x _=>rfl)] at hla;omega
 subst hla2
 refine Tri.mk Tryz.func247 rfl Tryz.ntmps247 rfl fun w hw=>?_
 by_cases c1:σ.fuse=1
 ·have hc:=rcrash_core (p:=p) (bl:=bl) (bn:=bn) (bp:=bp) (bm:=bm) hO vp (.slice aa σ.acts.length ca) vp σ.picks
  unfold rhdr at hc
  repeat' (refine W.ow ?_;try intro b_)
  refine SL.callB [p,bl,bn,bp,bm] rfl rfl rfl rfl hc (fun w hs=>Rd.ownB [p,bl,bn,bp,bm] h1 hs) ?_
  rintro _ _ ⟨rfl,rfl⟩
  repeat' (refine W.ow ?_;try intro b_)
  have he:σ.act (k,x,n)=σ.crash σ.picks:=by simp [Dv.act,c1,Dv.crash,hnd]
  rw [he]
  exact Fin.s1 (.inl rfl) rfl rfl ⟨by simp [Dv.actE,c1],Dv.crash_ok _ hO,bl,bn,bp,bm,vp,_,Hq,Ha,by unfold Dv.crash;rw [hnd];exact h1,by unfold Dv.crash;rw [hnd];exact h2,rfl⟩
 ·by_cases c0:1<σ.fuse
  ·repeat' (refine W.ow ?_;try intro b_)
   by_cases c2:σ.acts.length<16384
   ·repeat' (refine W.ow ?_;try intro b_)
    refine SL.buildSlice (n:=3) rfl rfl rfl rfl (by rfl) (by decide) (by rfl) (by decide) (fun b2=>?_)
    refine SL.append (n:=3) (m:=1) (ys:=ac (k,x,n)) Ha rfl rfl rfl rfl rfl h2 (fun w hs=>SrcOf.block (hs.at (b:=b2)) rfl rfl) rfl rfl (by decide) (by decide) ?_ (fun v2 Ha2 h3=>?_)
    ·rw [hla];simp [ac];omega
    have hov:One v2:=h3.one
    repeat' (refine W.ow ?_;try intro b_)
    refine Fin.rm b2 ?_
    have hl2:(σ.acts++[(k,x,n)]).flatMap ac=σ.acts.flatMap ac++ac (k,x,n):=by simp
    rw [← hl2] at h3
    have c3:0<σ.fuse:=by omega
    have he:σ.act (k,x,n)=({ σ with fuse:=(σ.fuse-1),acts:=σ.acts++[(k,x,n)] }:Dv):=by simp [Dv.act,Dv.push,c1,c2,c3]
    rw [he]
    exact Fin.perm List.perm_append_comm (Fin.s1 (.inl rfl) rfl rfl ⟨by simp [Dv.actE,c1],⟨hO.n,hO.ok,by dsimp only;omega,by dsimp only;omega,by simp;omega⟩,bl,bn,bp,bm,vp,v2,Hq,Ha2,h1,h3,by rw [List.append_nil];rfl⟩)
   ·repeat' (refine W.ow ?_;try intro b_)
    have c3:0<σ.fuse:=by omega
    have he:σ.act (k,x,n)=({ σ with fuse:=(σ.fuse-1) }:Dv):=by simp [Dv.act,Dv.push,c1,c2,c3]
    rw [he]
    exact Fin.s1 (.inl rfl) rfl rfl ⟨by simp [Dv.actE,c1],Dv.fuse_ok _ hO (by omega) (by omega),bl,bn,bp,bm,vp,_,Hq,Ha,h1,h2,rfl⟩
  ·repeat' (refine W.ow ?_;try intro b_)
   by_cases c2:σ.acts.length<16384
   ·repeat' (refine W.ow ?_;try intro b_)
    refine SL.buildSlice (n:=3) rfl rfl rfl rfl (by rfl) (by decide) (by rfl) (by decide) (fun b2=>?_)
    refine SL.append (n:=3) (m:=1) (ys:=ac (k,x,n)) Ha rfl rfl rfl rfl rfl h2 (fun w hs=>SrcOf.block (hs.at (b:=b2)) rfl rfl) rfl rfl (by decide) (by decide) ?_ (fun v2 Ha2 h3=>?_)
    ·rw [hla];simp [ac];omega
    have hov:One v2:=h3.one
    repeat' (refine W.ow ?_;try intro b_)
    refine Fin.rm b2 ?_
    have hl2:(σ.acts++[(k,x,n)]).flatMap ac=σ.acts.flatMap ac++ac (k,x,n):=by simp
    rw [← hl2] at h3
    have c3:¬ 0<σ.fuse:=by omega
    have he:σ.act (k,x,n)=({ σ with fuse:=σ.fuse,acts:=σ.acts++[(k,x,n)] }:Dv):=by simp [Dv.act,Dv.push,c2,c3]
    rw [he]
    exact Fin.perm List.perm_append_comm (Fin.s1 (.inl rfl) rfl rfl ⟨by simp [Dv.actE,c1],⟨hO.n,hO.ok,by dsimp only;omega,by dsimp only;omega,by simp;omega⟩,bl,bn,bp,bm,vp,v2,Hq,Ha2,h1,h3,by rw [List.append_nil];rfl⟩)
   ·repeat' (refine W.ow ?_;try intro b_)
    have c3:¬ 0<σ.fuse:=by omega
    have he:σ.act (k,x,n)=({ σ with fuse:=σ.fuse }:Dv):=by simp [Dv.act,Dv.push,c2,c3]
    rw [he]
    exact Fin.s1 (.inl rfl) rfl rfl ⟨by simp [Dv.actE,c1],Dv.fuse_ok _ hO (by omega) (by omega),bl,bn,bp,bm,vp,_,Hq,Ha,h1,h2,rfl⟩
end Go.Proofs.YtnigolgkkjidiaaGreat
namespace Go.Proofs.YtnigolgkkjidiaaGreat
open Go
attribute [local irreducible] SW SL SQ SH SA Pu Fin
theorem rdoo_p{p:Nat}{σ:Dv}{H:Hp}(hD:DevR p σ H):Tri Tryz.prog 249 [.pointer (some ⟨p,0,none⟩)] H (fun _=>True) (fun v H'=>v=.int .i64 σ.dooE∧DevR p σ.doo H'):=by
 have hr:=rready_p hD 0 0
 rw [Dv.rdy00] at hr
 refine Tri.mk Tryz.func249 rfl Tryz.ntmps249 rfl fun w hw=>?_
 by_cases hd:σ.down=true
 ·rw [if_pos hd] at hr
  repeat' (first|(refine SL.isGd ?_;refine SL.sk rfl rfl ?_)|(refine SL.isCallV ?_;((refine SL.call _ rfl rfl rfl rfl hr (fun _ _=>trivial) ?_;rintro _ _ ⟨rfl,rfl⟩)))|(refine W.ow ?_;try intro b_)  | refine SL.cmp (p_lss rfl rfl rfl) rfl rfl (fun h_=>?_) (fun h_=>?_)|refine SL.cmp (p_leq rfl rfl rfl) rfl rfl (fun h_=>?_) (fun h_=>?_)|refine SL.cmp (p_gtr rfl rfl rfl) rfl rfl (fun h_=>?_) (fun h_=>?_)|refine SL.cmp (p_geq rfl rfl rfl) rfl rfl (fun h_=>?_) (fun h_=>?_)|refine SL.cmp (p_eql rfl rfl rfl) rfl rfl (fun h_=>?_) (fun h_=>?_)|refine SL.cmp (p_neq rfl rfl rfl) rfl rfl (fun h_=>?_) (fun h_=>?_)|refine SW.cond_b rfl (fun h_=>?_) (fun h_=>?_))
  rw [List.append_nil]
  exact Fin.s1 (.inl rfl) rfl rfl ⟨by simp [Dv.dooE,hd],by simpa [Dv.doo,hd] using hD⟩
 ·rw [if_neg hd] at hr
  have ha:=ract_p hD (by simpa using hd) 4 0 0
  repeat' (refine W.ow ?_;try intro b_)
  refine SL.call _ rfl rfl rfl rfl hr (fun _ _=>trivial) ?_
  rintro _ _ ⟨rfl,rfl⟩
  repeat' (refine W.ow ?_;try intro b_)
  refine SL.call _ rfl rfl rfl rfl ha (fun _ _=>trivial) ?_
  rintro _ _ ⟨rfl,hD2⟩
  repeat' (refine W.ow ?_;try intro b_)
  rw [List.append_nil]
  exact Fin.s1 (.inl rfl) rfl rfl ⟨by simp [Dv.dooE,hd],by simpa [Dv.doo,hd] using hD2⟩
end Go.Proofs.YtnigolgkkjidiaaGreat
namespace Go.Proofs.YtnigolgkkjidiaaGreat
open Go
attribute [local irreducible] SW SL SQ SH SA Pu Fin
theorem rnew_g(n:Int)(m:Nat)(hnm:n=m∨n<0∧m=0)(hm:m≤1024):Tri Tryz.prog 47 [.int .i64 n] [] (fun _=>True) (fun v H'=>∃ p,v=.pointer (some ⟨p,0,none⟩)∧DevR p (Dv.new m) H'):=by
 refine Tri.mk Tryz.func47 rfl Tryz.ntmps47 rfl fun w hw=>?_
 rcases hnm with rfl|⟨hneg,rfl⟩
 ·repeat' (refine W.ow ?_;try intro b_)
  refine SW.regionB [] 99 (by kernel_rfl) ?_
  (refine SA.take 0 rfl (by kernel_rfl) (fun _ _ _ h=>Fin.np h) rfl rfl (p_move rfl rfl) ?_;refine SA.take 1 rfl (by kernel_rfl) (fun _ _ _ h=>Fin.np h) rfl rfl (p_mul rfl rfl rfl (w64 (by omega))) ?_;refine SA.take 3 rfl (by kernel_rfl) (fun _ _ _ h=>Fin.np h) rfl rfl (p_move rfl rfl) ?_;refine SA.take 4 rfl (by kernel_rfl) (fun _ _ _ h=>Fin.np h) rfl rfl (p_mul rfl rfl rfl (w64 (by omega))) ?_;refine SA.take 6 rfl (by kernel_rfl) (fun _ _ _ h=>Fin.np h) rfl rfl (p_move rfl rfl) ?_;refine SA.take 7 rfl (by kernel_rfl) (fun _ _ _ h=>Fin.np h) rfl rfl (p_mul rfl rfl rfl (w64 (by omega))) ?_;refine SA.take 9 rfl (by kernel_rfl) (fun _ _ _ h=>Fin.np h) rfl rfl (p_move rfl rfl) ?_;refine SA.take 10 rfl (by kernel_rfl) (fun _ _ _ h=>Fin.np h) rfl rfl (p_mul rfl rfl rfl (w64 (by omega))) ?_)
  refine SA.allocs (fuel:=3) [(8,.int .i64 (64*m)),(11,.int .i64 (64*m)),(14,.int .i64 (8*m)),(17,.int .i64 (8*m))] 4
   [⟨2,9,fun b=>.slice (some ⟨b,0,none⟩) (64*m) (64*m),cl (zs [.int .u8 0] (64*m)) 5⟩,⟨5,12,fun b=>.slice (some ⟨b,0,none⟩) (64*m) (64*m),cl (zs [.int .u8 0] (64*m)) 5⟩,
    ⟨8,15,fun b=>.slice (some ⟨b,0,none⟩) (8*m) (8*m),cl (zs [.bool false] (8*m)) 4⟩,⟨11,18,fun b=>.slice (some ⟨b,0,none⟩) (8*m) (8*m),cl (zs [.bool false] (8*m)) 4⟩] [] _ _ _ rfl (by simp) (by simp) (by simp) (by simp) (by kernel_rfl) trivial ⟨rfl,rfl,rfl,rfl,trivial⟩ ⟨_,List.Perm.refl _⟩ ?_ ?_
  ·intro x hx
   simp only [List.mem_cons,List.not_mem_nil,or_false] at hx
   rcases hx with rfl|rfl|rfl|rfl
   ·exact⟨_,rfl,fun K ρ H hs hk=>SL.make (n:=1) (l:=64*m) (c:=64*m) rfl rfl rfl hs.1 hs.1 (by omega) (by omega) (by rfl) (by decide) (Nat.le_refl _) (by omega) (by decide) fun b=>SL.nil (hk b)⟩
   ·exact⟨_,rfl,fun K ρ H hs hk=>SL.make (n:=1) (l:=64*m) (c:=64*m) rfl rfl rfl hs.2.1 hs.2.1 (by omega) (by omega) (by rfl) (by decide) (Nat.le_refl _) (by omega) (by decide) fun b=>SL.nil (hk b)⟩
   ·exact⟨_,rfl,fun K ρ H hs hk=>SL.make (n:=1) (l:=8*m) (c:=8*m) rfl rfl rfl hs.2.2.1 hs.2.2.1 (by omega) (by omega) (by rfl) (by decide) (Nat.le_refl _) (by omega) (by decide) fun b=>SL.nil (hk b)⟩
   ·exact⟨_,rfl,fun K ρ H hs hk=>SL.make (n:=1) (l:=8*m) (c:=8*m) rfl rfl rfl hs.2.2.2.1 hs.2.2.2.1 (by omega) (by omega) (by rfl) (by decide) (Nat.le_refl _) (by omega) (by decide) fun b=>SL.nil (hk b)⟩
  ·intro f ρ' H' _ hf hp
   simp only [List.mem_cons,List.not_mem_nil,or_false,forall_eq_or_imp,forall_eq] at hf
   obtain⟨f1,f2,f3,f4⟩:=hf
   simp only [List.map_cons,List.map_nil,List.cons_append,List.nil_append] at hp
   refine SA.weaken [(9,.slice (some ⟨f 2,0,none⟩) (64*m) (64*m)),(12,.slice (some ⟨f 5,0,none⟩) (64*m) (64*m)),(15,.slice (some ⟨f 8,0,none⟩) (8*m) (8*m)),(18,.slice (some ⟨f 11,0,none⟩) (8*m) (8*m))] _ ⟨f1,f2,f3,f4,trivial⟩ hp ?_
   refine SA.one 12 rfl (by kernel_rfl) ?_
   repeat' (refine W.ow ?_;try intro b_)
   refine Beh.mk ?_
   refine SA.one 13 rfl (by kernel_rfl) ?_
   repeat' (refine W.ow ?_;try intro b_)
   refine Beh.mk ?_
   refine SA.one 14 rfl (by kernel_rfl) ?_
   repeat' (refine W.ow ?_;try intro b_)
   refine Beh.mk ?_
   refine SA.done (by kernel_rfl) ?_
   repeat' (refine W.ow ?_;try intro b_)
   refine Fin.s1 (.inl rfl) rfl rfl ⟨b_,rfl,Dv.new_ok m,f 2,f 5,f 8,f 11,_,_,[],[],Sl.nil _ _,Sl.nil _ _,?_⟩
   have hz:(Dv.new m).ws.length=8*m:=by simp [Dv.new];omega
   have hz2:(Dv.new m).len=64*m:=by rw [Dv.len,hz];omega
   have hws:(Dv.new m).ws=List.replicate (8*m) Wd.zero:=by simp only [Dv.new];congr 1;omega
   have e8:∀ (n:Nat) (v:Value),(List.replicate n (List.replicate 8 v)).flatten=List.replicate (8*n) v:=fun n v=>by rw [List.flatten_replicate_replicate];congr 1;omega
   have h1:rl (Dv.new m).ws=zs [.int .u8 0] (64*m):=by
    rw [hws,zs_one,rl,List.flatMap_def,List.map_replicate]
    show (List.replicate (8*m) (List.replicate 8 (Value.int .u8 0))).flatten=_
    rw [e8];congr 1;omega
   have h2:rn (Dv.new m).ws=zs [.int .u8 0] (64*m):=by
    rw [hws,zs_one,rn,List.flatMap_def,List.map_replicate]
    show (List.replicate (8*m) (List.replicate 8 (Value.int .u8 0))).flatten=_
    rw [e8];congr 1;omega
   have h3:rp (Dv.new m).ws=zs [.bool false] (8*m):=by rw [hws,zs_one,rp,List.map_replicate];rfl
   have h4:rm (Dv.new m).ws=zs [.bool false] (8*m):=by rw [hws,zs_one,rm,List.map_replicate];rfl
   rw [hz2,hz,h1,h2,h3,h4]
   rfl
 ·obtain⟨m,hm0⟩:∃ m:Nat,m=0:=⟨0,rfl⟩
  rw [show (Dv.new ((0:Nat):Int))=Dv.new (m:Int) by rw [hm0]]
  have hm:m≤1024:=by omega
  repeat' (refine W.ow ?_;try intro b_)
  refine SW.weaken (r:=[(0,.int .i64 m)]) ⟨by rw [hm0];rfl,trivial⟩ (Part.nil _) ?_
  refine SW.regionB [] 99 (by kernel_rfl) ?_
  (refine SA.take 0 rfl (by kernel_rfl) (fun _ _ _ h=>Fin.np h) rfl rfl (p_move rfl rfl) ?_;refine SA.take 1 rfl (by kernel_rfl) (fun _ _ _ h=>Fin.np h) rfl rfl (p_mul rfl rfl rfl (w64 (by omega))) ?_;refine SA.take 3 rfl (by kernel_rfl) (fun _ _ _ h=>Fin.np h) rfl rfl (p_move rfl rfl) ?_;refine SA.take 4 rfl (by kernel_rfl) (fun _ _ _ h=>Fin.np h) rfl rfl (p_mul rfl rfl rfl (w64 (by omega))) ?_;refine SA.take 6 rfl (by kernel_rfl) (fun _ _ _ h=>Fin.np h) rfl rfl (p_move rfl rfl) ?_;refine SA.take 7 rfl (by kernel_rfl) (fun _ _ _ h=>Fin.np h) rfl rfl (p_mul rfl rfl rfl (w64 (by omega))) ?_;refine SA.take 9 rfl (by kernel_rfl) (fun _ _ _ h=>Fin.np h) rfl rfl (p_move rfl rfl) ?_;refine SA.take 10 rfl (by kernel_rfl) (fun _ _ _ h=>Fin.np h) rfl rfl (p_mul rfl rfl rfl (w64 (by omega))) ?_)
  refine SA.allocs (fuel:=3) [(8,.int .i64 (64*m)),(11,.int .i64 (64*m)),(14,.int .i64 (8*m)),(17,.int .i64 (8*m))] 4
   [⟨2,9,fun b=>.slice (some ⟨b,0,none⟩) (64*m) (64*m),cl (zs [.int .u8 0] (64*m)) 5⟩,⟨5,12,fun b=>.slice (some ⟨b,0,none⟩) (64*m) (64*m),cl (zs [.int .u8 0] (64*m)) 5⟩,
    ⟨8,15,fun b=>.slice (some ⟨b,0,none⟩) (8*m) (8*m),cl (zs [.bool false] (8*m)) 4⟩,⟨11,18,fun b=>.slice (some ⟨b,0,none⟩) (8*m) (8*m),cl (zs [.bool false] (8*m)) 4⟩] [] _ _ _ rfl (by simp) (by simp) (by simp) (by simp) (by kernel_rfl) trivial ⟨rfl,rfl,rfl,rfl,trivial⟩ ⟨_,List.Perm.refl _⟩ ?_ ?_
  ·intro x hx
   simp only [List.mem_cons,List.not_mem_nil,or_false] at hx
   rcases hx with rfl|rfl|rfl|rfl
   ·exact⟨_,rfl,fun K ρ H hs hk=>SL.make (n:=1) (l:=64*m) (c:=64*m) rfl rfl rfl hs.1 hs.1 (by omega) (by omega) (by rfl) (by decide) (Nat.le_refl _) (by omega) (by decide) fun b=>SL.nil (hk b)⟩
   ·exact⟨_,rfl,fun K ρ H hs hk=>SL.make (n:=1) (l:=64*m) (c:=64*m) rfl rfl rfl hs.2.1 hs.2.1 (by omega) (by omega) (by rfl) (by decide) (Nat.le_refl _) (by omega) (by decide) fun b=>SL.nil (hk b)⟩
   ·exact⟨_,rfl,fun K ρ H hs hk=>SL.make (n:=1) (l:=8*m) (c:=8*m) rfl rfl rfl hs.2.2.1 hs.2.2.1 (by omega) (by omega) (by rfl) (by decide) (Nat.le_refl _) (by omega) (by decide) fun b=>SL.nil (hk b)⟩
   ·exact⟨_,rfl,fun K ρ H hs hk=>SL.make (n:=1) (l:=8*m) (c:=8*m) rfl rfl rfl hs.2.2.2.1 hs.2.2.2.1 (by omega) (by omega) (by rfl) (by decide) (Nat.le_refl _) (by omega) (by decide) fun b=>SL.nil (hk b)⟩
  ·intro f ρ' H' _ hf hp
   simp only [List.mem_cons,List.not_mem_nil,or_false,forall_eq_or_imp,forall_eq] at hf
   obtain⟨f1,f2,f3,f4⟩:=hf
   simp only [List.map_cons,List.map_nil,List.cons_append,List.nil_append] at hp
   refine SA.weaken [(9,.slice (some ⟨f 2,0,none⟩) (64*m) (64*m)),(12,.slice (some ⟨f 5,0,none⟩) (64*m) (64*m)),(15,.slice (some ⟨f 8,0,none⟩) (8*m) (8*m)),(18,.slice (some ⟨f 11,0,none⟩) (8*m) (8*m))] _ ⟨f1,f2,f3,f4,trivial⟩ hp ?_
   refine SA.one 12 rfl (by kernel_rfl) ?_
   repeat' (refine W.ow ?_;try intro b_)
   refine Beh.mk ?_
   refine SA.one 13 rfl (by kernel_rfl) ?_
   repeat' (refine W.ow ?_;try intro b_)
   refine Beh.mk ?_
   refine SA.one 14 rfl (by kernel_rfl) ?_
   repeat' (refine W.ow ?_;try intro b_)
   refine Beh.mk ?_
   refine SA.done (by kernel_rfl) ?_
   repeat' (refine W.ow ?_;try intro b_)
   refine Fin.s1 (.inl rfl) rfl rfl ⟨b_,rfl,Dv.new_ok m,f 2,f 5,f 8,f 11,_,_,[],[],Sl.nil _ _,Sl.nil _ _,?_⟩
   have hz:(Dv.new m).ws.length=8*m:=by simp [Dv.new];omega
   have hz2:(Dv.new m).len=64*m:=by rw [Dv.len,hz];omega
   have hws:(Dv.new m).ws=List.replicate (8*m) Wd.zero:=by simp only [Dv.new];congr 1;omega
   have e8:∀ (n:Nat) (v:Value),(List.replicate n (List.replicate 8 v)).flatten=List.replicate (8*n) v:=fun n v=>by rw [List.flatten_replicate_replicate];congr 1;omega
   have h1:rl (Dv.new m).ws=zs [.int .u8 0] (64*m):=by
    rw [hws,zs_one,rl,List.flatMap_def,List.map_replicate]
    show (List.replicate (8*m) (List.replicate 8 (Value.int .u8 0))).flatten=_
    rw [e8];congr 1;omega
   have h2:rn (Dv.new m).ws=zs [.int .u8 0] (64*m):=by
    rw [hws,zs_one,rn,List.flatMap_def,List.map_replicate]
    show (List.replicate (8*m) (List.replicate 8 (Value.int .u8 0))).flatten=_
    rw [e8];congr 1;omega
   have h3:rp (Dv.new m).ws=zs [.bool false] (8*m):=by rw [hws,zs_one,rp,List.map_replicate];rfl
   have h4:rm (Dv.new m).ws=zs [.bool false] (8*m):=by rw [hws,zs_one,rm,List.map_replicate];rfl
   rw [hz2,hz,h1,h2,h3,h4]
   rfl
theorem rnew_p(m:Nat)(hm:m≤1024):Tri Tryz.prog 47 [.int .i64 m] [] (fun _=>True) (fun v H'=>∃ p,v=.pointer (some ⟨p,0,none⟩)∧DevR p (Dv.new m) H'):=rnew_g m m (.inl rfl) hm
end Go.Proofs.YtnigolgkkjidiaaGreat
namespace Go.Proofs.YtnigolgkkjidiaaGreat
open Go
attribute [local irreducible] SW SL SQ SH SA Pu Fin
end Go.Proofs.YtnigolgkkjidiaaGreat
namespace Go.Proofs.YtnigolgkkjidiaaGreat
open Go
attribute [local irreducible] SW SL SQ SH SA SS Pu Fin CutF HandF
end Go.Proofs.YtnigolgkkjidiaaGreat
namespace Go.Proofs.YtnigolgkkjidiaaGreat
open Go
theorem store_wl(σ:Dv)(x:Int)(bs:List UInt8):(σ.store x bs).ws.length=σ.ws.length:=by
 unfold Dv.store
 split
 ·split
  ·show (storeW _ _ _).length=_
   rw [storeW_len,act_wl]
  ·exact act_wl _ _
 ·rfl
theorem flush_wl(σ:Dv)(x n:Int):(σ.flush x n).ws.length=σ.ws.length:=by
 unfold Dv.flush
 split
 ·split
  ·show (flushW _ _ _).length=_
   unfold flushW
   split
   ·exact act_wl _ _
   ·rw [mapR_len,act_wl]
  ·exact act_wl _ _
 ·rfl
theorem fence_wl(σ:Dv):σ.fence.ws.length=σ.ws.length:=by
 unfold Dv.fence
 split
 ·split
  ·show (List.map _ _).length=_
   rw [List.length_map,act_wl]
  ·exact act_wl _ _
 ·rfl
theorem doo_wl(σ:Dv):σ.doo.ws.length=σ.ws.length:=by
 unfold Dv.doo
 split
 ·rfl
 ·exact act_wl _ _
end Go.Proofs.YtnigolgkkjidiaaGreat
