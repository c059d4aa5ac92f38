/- The memory that lasts: its model, and words. -/
import Derived.Test.YtdfclocfackkmaaGreatPm1
import Derived.Test.YtdfclocfackkmaaGreatPm3
set_option linter.unusedVariables false
set_option linter.unusedSimpArgs false
set_option linter.unusedSectionVars false
set_option maxHeartbeats 1600000
namespace Go.Proofs.YtdfclocfackkmaaGreat
open Go Go.Proofs.Tryz
section
attribute [local irreducible] SW SL SQ SH SA Pu Fin
structure Wd where
 lasts:LB
 now:LB
 pend:Bool
 mark:Bool
structure Dv where
 ws:List Wd
 down:Bool
 fuse:Int
 picks:LB
 acts:List (Int×Int×Int)
def bv(b:UInt8):Value:=.int .u8 (b.toNat:Int)
instance(b:UInt8):One (bv b):=⟨rfl⟩
def wc(w:Wd):LV:=w.lasts.map bv++(w.now.map bv++[.bool w.pend,.bool w.mark])
instance(w:Wd):OC (wc w):=by unfold wc;infer_instance
def ac(a:Int×Int×Int):LV:=[.int .i64 a.1,.int .i64 a.2.1,.int .i64 a.2.2]
instance(a:Int×Int×Int):OC (ac a):=by unfold ac;infer_instance
def Wd.Len(w:Wd):Prop:=w.lasts.length=8/\w.now.length=8
def Wd.Ok(w:Wd):Prop:=w.Len/\(w.mark=true->w.pend=true)
theorem kD{w:Wd}(h:w.Len):(wc w).length=18:=by simp [wc,h.1,h.2]
structure Dv.Ok(C:Dv):Prop where
 n:C.ws.length<=8192
 ok:∀ w∈C.ws,w.Ok
 f0:0<=C.fuse
 f1:C.fuse<=9223372036854775807
 a:C.acts.length<=16384
def eX(p:Nat)(C:Dv)(H:Hp):Prop:=
 C.Ok/\∃ bw vp va Hq Ha,Sl 5 1 vp (C.picks.map bv) Hq/\Sl 136 3 va (C.acts.flatMap ac) Ha /\
  H=(p,cl [.slice (some ⟨bw,0,none⟩) C.ws.length C.ws.length,.bool C.down,.int .i64 C.fuse,vp,va] 129)::(bw,cl (C.ws.flatMap wc) 175)::(Hq++Ha)
theorem Sl.one{e n:Nat}{v:Value}{xs:LV}{H:Hp}(h:Sl e n v xs H):One v:=by rcases h with ⟨rfl,_,_⟩|⟨b,len,cap,junk,rfl,_⟩ <;> exact⟨rfl⟩
def Wd.stored(w:Wd):Wd:={ w with pend:=true,mark:=false }
def Wd.flushed(w:Wd):Wd:={ w with mark:=w.pend }
def Wd.fenced(w:Wd):Wd:=bif w.mark then { lasts:=w.now,now:=w.now,pend:=false,mark:=false } else w
theorem Wd.stored_ok{w:Wd}(h:w.Ok):w.stored.Ok:=⟨h.1,by simp [Wd.stored]⟩
theorem Wd.flushed_ok{w:Wd}(h:w.Ok):w.flushed.Ok:=⟨h.1,by simp [Wd.flushed]⟩
theorem Wd.fenced_ok{w:Wd}(h:w.Ok):w.fenced.Ok:=by
 unfold Wd.fenced;cases hm:w.mark
 ·exact h
 exact⟨⟨h.1.2,h.1.2⟩,by simp⟩
def aCf(g:FuncId)(h:Wd->Wd):Prop:=∀ (b:Nat) (A B:LV) (u:Wd),u.Ok ->
 Tri prog g [.pointer (some ⟨b,A.length,none⟩)] [(b,cl (A++(wc u++B)) 175)] NT (fun v H'=>v=.tuple #[]/\H'=[(b,cl (A++(wc (h u)++B)) 175)])
theorem aE6(A B:LV){u:Wd}(h:u.Len):(A++(wc u++B))[A.length+16]?=some (.bool u.pend)/\(A++(wc u++B))[A.length+17]?=some (.bool u.mark):=by
 constructor
 ·rw [aEs A _ B 16 _ rfl (by rw [kD h];omega)];simp [wc,List.getElem?_append,h.1,h.2]
 rw [aEs A _ B 17 _ rfl (by rw [kD h];omega)];simp [wc,List.getElem?_append,h.1,h.2]
theorem zL(A B:LV){u:Wd}(h:u.Len)(p:Bool):(A++(wc u++B)).set (A.length+16) (.bool p)=A++(wc { u with pend:=p }++B)/\(A++(wc u++B)).set (A.length+17) (.bool p)=A++(wc { u with mark:=p }++B):=by
 constructor
 ·rw [aE0 A _ B 16 _ _ rfl (by rw [kD h];omega)];simp [wc,List.set_append,h.1,h.2]
 rw [aE0 A _ B 17 _ _ rfl (by rw [kD h];omega)];simp [wc,List.set_append,h.1,h.2]
theorem aHs(A B:LV){u:Wd}(h:u.Len):((A++(wc u++B)).drop (A.length+8)).take 8=u.now.map bv/\((A++(wc u++B)).drop (A.length+0)).take 8=u.lasts.map bv:=by
 constructor
 ·rw [aGy A _ B 8 8 _ rfl (by rw [kD h];omega)];simp [wc,gM,h.1,h.2,cQ,aK]
 rw [aGy A _ B 0 8 _ rfl (by rw [kD h];omega)];simp [wc,h.1,h.2,aK]
theorem aHt(A B:LV){u:Wd}(h:u.Len)(r:LB)(hr:r.length=8):(A++(wc u++B)).take (A.length+0)++r.map bv++(A++(wc u++B)).drop (A.length+0+8)=A++(wc { u with lasts:=r }++B) /\ (A++(wc u++B)).take (A.length+8)++r.map bv++(A++(wc u++B)).drop (A.length+8+8)=A++(wc { u with now:=r }++B):=by
 have hl:(r.map bv).length=8:=by simpa using hr
 constructor
 ·have:=aC8 A (wc u) B (r.map bv) 0 (A.length+0) rfl (by rw [kD h,hl];omega);rw [hl] at this;rw [this];simp [wc,h.1,h.2,gM,cQ]
 have:=aC8 A (wc u) B (r.map bv) 8 (A.length+8) rfl (by rw [kD h,hl];omega);rw [hl] at this;rw [this];simp [wc,h.1,h.2,iO,gM,cQ,aK]
theorem aCB(A B:LV){u:Wd}(h:u.Len):(A++(wc u++B)).length=A.length+(18+B.length):=by simp [kD h]
theorem aLs:aCf 262 Wd.stored:=fun b A B u hu=>by
 have hl:=aCB A B hu.1
 have h16:A.length+16<(A++(wc u++B)).length:=by rw [hl];omega
 have h17:A.length+17<((A++(wc u++B)).set (A.length+16) (.bool true)).length:=by rw [cE,hl];omega
 refine Tri.mt func262 ntmps262 fun w hw=>?_
 refine W.o ?_
 refine Fin.s0 (.inr rfl) rfl ⟨rfl,?_⟩
 rw [(zL A B hu.1 true).1,(zL A B (u:={ u with pend:=true }) hu.1 false).2]
 rfl
theorem aIP:aCf 263 Wd.flushed:=fun b A B u hu=>by
 have hl:=aCB A B hu.1
 have h17:A.length+17<(A++(wc u++B)).length:=by rw [hl];omega
 have g16:=(aE6 A B hu.1).1
 refine Tri.mt func263 ntmps263 fun w hw=>?_
 refine W.o ?_
 refine Fin.s0 (.inr rfl) rfl ⟨rfl,?_⟩
 rw [(zL A B hu.1 _).2]
 rfl
theorem aKh:aCf 211 Wd.fenced:=fun b A B u hu=>by
 have hl:=aCB A B hu.1
 have g17:=(aE6 A B hu.1).2
 have gn:=(aHs A B hu.1).1
 have hn:(u.now.map bv).length=8:=by simpa using hu.1.2
 have h0:A.length+0+8<=(A++(wc u++B)).length:=by rw [hl];omega
 have gp:=(aHt A B hu.1 u.now hu.1.2).1
 have hu2:({ u with lasts:=u.now }:Wd).Len:=⟨hu.1.2,hu.1.2⟩
 have hl2:=aCB A B hu2
 have h16:A.length+16<(A++(wc { u with lasts:=u.now }++B)).length:=by rw [hl2];omega
 have h17:A.length+17<((A++(wc { u with lasts:=u.now }++B)).set (A.length+16) (.bool false)).length:=by rw [cE,hl2];omega
 refine Tri.mt func211 ntmps211 fun w hw=>?_
 refine W.o ?_
 refine jG rfl (fun hm=>?_) (fun hm=>?_)
 ·refine W.o ?_
  refine Fin.s0 (.inr rfl) rfl ⟨rfl,?_⟩
  rw [(zL A B hu2 false).1]
  rw [(zL A B (u:={ u with lasts:=u.now,pend:=false }) hu2 false).2]
  simp [Wd.fenced,hm]
 ·refine W.o ?_
  refine Fin.s0 (.inr rfl) rfl ⟨rfl,?_⟩
  simp [Wd.fenced,hm]
theorem aHX{p:Nat}{C:Dv}{H:Hp}(hD:eX p C H):Tri prog 87 [.pointer (some ⟨p,0,none⟩)] H NT (fun v H'=>v=.bool C.down/\H'=H):=by obtain⟨hO,bw,vp,va,Hq,Ha,h1,h2,rfl⟩:=hD;refine Tri.mt func87 ntmps87 fun w hw=>?_;refine W.o ?_;exact Fin.s1 (.inl rfl) rfl rfl ⟨rfl,rfl⟩
def Dv.len(C:Dv):Nat:=8*C.ws.length
theorem aCA{p:Nat}{C:Dv}{H:Hp}(hD:eX p C H):Tri prog 69 [.pointer (some ⟨p,0,none⟩)] H NT (fun v H'=>v=.int .i64 C.len/\H'=H):=by obtain⟨hO,bw,vp,va,Hq,Ha,h1,h2,rfl⟩:=hD;have hn:=hO.n;refine Tri.mt func69 ntmps69 fun w hw=>?_;refine W.o ?_;exact Fin.s1 (.inl rfl) rfl rfl ⟨by simp [Dv.len],rfl⟩
def Dv.on(C:Dv):Dv:={ C with down:=false,fuse:=0 }
theorem Dv.on_ok{C:Dv}(h:C.Ok):C.on.Ok:=⟨h.n,h.ok,Int.le_refl _,by simp [Dv.on],h.a⟩
theorem aOx{p:Nat}{C:Dv}{H:Hp}(hD:eX p C H):Tri prog 13 [.pointer (some ⟨p,0,none⟩)] H NT (fun v H'=>v=.tuple #[]/\eX p C.on H'):=by obtain⟨hO,bw,vp,va,Hq,Ha,h1,h2,rfl⟩:=hD;refine Tri.mt func13 ntmps13 fun w hw=>?_;(refine W.o ?_;repeat intro b_);exact Fin.s0 (.inr rfl) rfl ⟨rfl,Dv.on_ok hO,bw,vp,va,Hq,Ha,h1,h2,rfl⟩
def Dv.rdy(C:Dv)(x n:Int):Int:=if C.down=true then 8 else if x<0\/n<0\/(C.len:Int)<n\/(C.len:Int)-n<x then 3 else 0
theorem aAy{p:Nat}{C:Dv}{H:Hp}(hD:eX p C H)(x n:Int):Tri prog 161 [.pointer (some ⟨p,0,none⟩),.int .i64 x,.int .i64 n] H NT (fun v H'=>v=.int .i64 (C.rdy x n)/\H'=H):=by
 have hlen:=aCA hD;obtain⟨hO,bw,vp,va,Hq,Ha,h1,h2,hH⟩:=hD;have hn:C.len<=65536:=by have:=hO.n;simp only [Dv.len];omega
 subst hH;refine Tri.mt func161 ntmps161 fun w hw=>?_;repeat' (first|(refine sB ?_;refine zT rfl rfl ?_)|(refine pB ?_;((refine nX _ rfl rfl rfl rfl hlen (fun _ _=>trivial) ?_;rintro _ _ ⟨rfl,rfl⟩)))|(refine W.ow ?_;try intro b_)  | refine dP (oV rfl rfl rfl) rfl rfl (fun h_=>?_) (fun h_=>?_)|refine dP (oU rfl rfl rfl) rfl rfl (fun h_=>?_) (fun h_=>?_)|refine dP (oS rfl rfl rfl) rfl rfl (fun h_=>?_) (fun h_=>?_)|refine dP (oR rfl rfl rfl) rfl rfl (fun h_=>?_) (fun h_=>?_)|refine dP (mV rfl rfl rfl) rfl rfl (fun h_=>?_) (fun h_=>?_)|refine dP (oW rfl rfl rfl) rfl rfl (fun h_=>?_) (fun h_=>?_)|refine jG rfl (fun h_=>?_) (fun h_=>?_))
 all_goals (refine Fin.r1 (.inl rfl) rfl rfl _ ⟨?_,rfl⟩;unfold Dv.rdy;congr 1)
 all_goals (repeat' split)
 all_goals first|rfl|(exfalso;simp_all;done)|(exfalso;omega)
def iX(h:Wd->Wd)(x y:Nat)(ws:List Wd):List Wd:=ws.mapIdx fun i w=>if x<=i/\i<y then h w else w
theorem rB(h:Wd->Wd)(x:Nat)(ws:List Wd):iX h x x ws=ws:=by
 apply cM;intro i;simp only [iX,fD];cases ws[i]? with
 | none=>rfl
 | some w=>simp only [Option.map_some];rw [if_neg oQ]
theorem aDJ(h:Wd->Wd)(x y:Nat)(ws:List Wd)(w:Wd)(hxy:x<=y)(hw:ws[y]?=some w):(iX h x y ws)[y]?=some w/\(iX h x y ws).set y (h w)=iX h x (y+1) ws:=by
 constructor
 ·simp only [iX,fD,hw,Option.map_some];rw [if_neg oQ]
 apply cM;intro i;simp only [iX,dW,nI,fD];by_cases hi:y=i
 ·subst hi;have hlt:y<ws.length:=(aD.1 hw).1;simp only [hlt,if_true,hw,Option.map_some];rw [if_pos oQ]
 rw [if_neg hi];cases ws[i]? with
 | none=>rfl
 | some u=>
  simp only [Option.map_some,cR]
  by_cases h1:x<=i/\i<y
  ·rw [if_pos h1,if_pos oQ]
  ·rw [if_neg h1,if_neg oQ]
theorem oD(h:Wd->Wd)(x y:Nat)(ws:List Wd):(iX h x y ws).length=ws.length:=by simp [iX]
theorem xH{h:Wd->Wd}(hh:∀ w,w.Ok->(h w).Ok)(x y:Nat){ws:List Wd}(hw:∀ w∈ws,w.Ok):∀ w∈iX h x y ws,w.Ok:=by
 intro w hm;obtain⟨i,hi⟩:=cW.1 hm;simp only [iX,fD] at hi;cases hu:ws[i]? with
 | none=>rw [hu] at hi;simp at hi
 | some u=>
  rw [hu] at hi
  simp only [Option.map_some,cR] at hi
  have hm:u∈ws:=aP hu
  rw [<-hi]
  split
  ·exact hh u (hw u hm)
  ·exact hw u hm
theorem aOd{g:FuncId} [bC prog g]{h:Wd->Wd}(hg:aCf g h)(hh:∀ w,w.Ok->(h w).Ok)(p bw n:Nat)(x1 x2 x3 x4:Value)(ws:List Wd)(hn:ws.length=n)(hn2:n<=8192)(hok:∀ w∈ws,w.Ok)(x y:Nat)(hxy:x<=y)(hy:y<=n):Tri prog 210 [.pointer (some ⟨p,0,none⟩),.int .i64 x,.int .i64 y,.func (.func g) #[] #[]] [(p,cl [.slice (some ⟨bw,0,none⟩) n n,x1,x2,x3,x4] 129),(bw,cl (ws.flatMap wc) 175)] NT (fun v H'=>v=.tuple #[]/\H'=[(p,cl [.slice (some ⟨bw,0,none⟩) n n,x1,x2,x3,x4] 129),(bw,cl ((iX h x y ws).flatMap wc) 175)]):=by
 refine Tri.mt func210 ntmps210 fun w hw=>?_;repeat' (first|(refine W.ow ?_;try intro b_)  | refine dP (oV rfl rfl rfl) rfl rfl (fun h_=>?_) (fun h_=>?_)|refine dP (oU rfl rfl rfl) rfl rfl (fun h_=>?_) (fun h_=>?_)|refine dP (oS rfl rfl rfl) rfl rfl (fun h_=>?_) (fun h_=>?_)|refine dP (oR rfl rfl rfl) rfl rfl (fun h_=>?_) (fun h_=>?_)|refine dP (mV rfl rfl rfl) rfl rfl (fun h_=>?_) (fun h_=>?_)|refine dP (oW rfl rfl rfl) rfl rfl (fun h_=>?_) (fun h_=>?_)|refine jG rfl (fun h_=>?_) (fun h_=>?_))
 refine zV (fun k:Nat=>[(0,.pointer (some ⟨p,0,none⟩)),(2,.int .i64 y),(3,.func (.func g) #[] #[]),(8,.int .i64 k)])
  (fun k=>[(p,cl [.slice (some ⟨bw,0,none⟩) n n,x1,x2,x3,x4] 129),(bw,cl ((iX h x k ws).flatMap wc) 175)])
  (fun k=>y-k) (fun k=>x<=k/\k<=y) x ⟨rfl,rfl,rfl,rfl,trivial⟩ (by rw [rB];infer_instance) ⟨Nat.le_refl _,hxy⟩ ?_
 rintro k ⟨hk1,hk2⟩;repeat' (first|(refine W.ow ?_;try intro b_)  | refine dP (oV rfl rfl rfl) rfl rfl (fun h_=>?_) (fun h_=>?_)|refine dP (oU rfl rfl rfl) rfl rfl (fun h_=>?_) (fun h_=>?_)|refine dP (oS rfl rfl rfl) rfl rfl (fun h_=>?_) (fun h_=>?_)|refine dP (oR rfl rfl rfl) rfl rfl (fun h_=>?_) (fun h_=>?_)|refine dP (mV rfl rfl rfl) rfl rfl (fun h_=>?_) (fun h_=>?_)|refine dP (oW rfl rfl rfl) rfl rfl (fun h_=>?_) (fun h_=>?_)|refine jG rfl (fun h_=>?_) (fun h_=>?_))
 ·have hlt:k<ws.length:=oQ;obtain⟨u,hu⟩:∃ u,ws[k]?=some u:=⟨_,aA hlt⟩;obtain⟨h1,h2⟩:=aDJ h x k ws u hk1 hu;have hok2:=xH hh x k hok;have hl2:(iX h x k ws).length=n:=by rw [oD,hn]
  have hwl:∀ w∈iX h x k ws,(wc w).length=18:=fun w hw=>kD (hok2 w hw).1;rw [qA wc _ k u h1];have hA:(((iX h x k ws).take k).flatMap wc).length=k*18:=by rw [lX wc 18 _ (fun w hw=>hwl w (dM hw)),aH];congr 1;omega
  have hf:=hg bw (((iX h x k ws).take k).flatMap wc) (((iX h x k ws).drop (k+1)).flatMap wc) u (hok2 _ (aP h1));rw [hA] at hf;refine W.o ?_;refine bN (gV rfl rfl rfl oQ oQ (j':=k*18) oQ) rfl rfl ?_;refine dN [(bw,_)] rfl rfl rfl rfl rfl rfl hf (fun _ _=>trivial) ?_;rintro _ _ ⟨rfl,rfl⟩;rw [<-aGZ wc _ k _ oQ,h2];refine W.o ?_;refine rW.mk (k+1) oQ ⟨rfl,rfl,rfl,rfl,trivial⟩ inferInstance ⟨oQ,oQ⟩
 refine Fin.s0 (.inr rfl) rfl ⟨rfl,?_⟩;have:k=y:=oQ;rw [this]
def yT(q:LB)(j:Nat):Bool:=match q[j%q.length]? with
 | some b=>(b &&& 1) == 1
 | none=>false
def Wd.crash(b:Bool)(w:Wd):Wd:=⟨bif b then w.now else w.lasts,bif b then w.now else w.lasts,false,false⟩
def kB(q:LB):Nat->List Wd->List Wd
 | _,[]=>[]
 | j,w::t=>bif w.pend then w.crash (yT q j)::kB q (j+1) t else w::kB q j t
def Dv.crash(q:LB)(C:Dv):Dv:=bif C.down then C else { C with ws:=kB q 0 C.ws,down:=true,fuse:=0 }
theorem uD(q:LB):∀ (j:Nat) (l:List Wd),(kB q j l).length=l.length
 | _,[]=>rfl
 | j,w::t=>by unfold kB;cases w.pend <;> simp [uD q _ t]
theorem Wd.crash_ok{w:Wd}(b:Bool)(h:w.Ok):(w.crash b).Ok:=by
 cases b
 ·exact⟨⟨h.1.1,h.1.1⟩,by simp [Wd.crash]⟩
 exact⟨⟨h.1.2,h.1.2⟩,by simp [Wd.crash]⟩
theorem aAX(q:LB):∀ (j:Nat) (l:List Wd),(∀ w∈l,w.Ok)->∀ w∈kB q j l,w.Ok
 | _,[],_=>by simp [kB]
 | j,w::t,h=>by
  unfold kB;have ht:∀ w∈t,w.Ok:=fun x hx=>h x (by simp [hx]);cases w.pend
  ·intro x hx;simp only [cond_false,cD] at hx;rcases hx with rfl|hx
   ·exact h x (by simp)
   exact aAX q _ t ht x hx
  intro x hx;simp only [cond_true,cD] at hx;rcases hx with rfl|hx
  ·exact Wd.crash_ok _ (h w (by simp))
  exact aAX q _ t ht x hx
theorem Dv.crash_ok{C:Dv}(q:LB)(h:C.Ok):(C.crash q).Ok:=by
 unfold Dv.crash;cases C.down
 ·exact⟨by simp only [cond_false];rw [uD];exact h.n,aAX q 0 _ h.ok,Int.le_refl _,by simp,h.a⟩
 exact h
theorem aFA(b:UInt8):(IntKind.u8.wrap (((BitVec.ofInt IntKind.u8.bits ((b.toNat:Nat):Int)) &&& (BitVec.ofInt IntKind.u8.bits 1)).toNat)=1)↔((b &&& 1) == 1)=true:=by
 have hp:(0:Nat)<2^8:=dQ;have h1:((b &&& 1) == 1)=true↔b.toNat%2=1:=by rw [beq_iff_eq,<-kG,UInt8.toNat_and,UInt8.toNat_one,rH]
 rw [h1];have h2:(((BitVec.ofInt IntKind.u8.bits ((b.toNat:Nat):Int)) &&& (BitVec.ofInt IntKind.u8.bits 1)).toNat)=b.toNat%2:=by
  have e1:BitVec.ofInt IntKind.u8.bits ((b.toNat:Nat):Int)=b.toBitVec:=by apply lV;rw [iN];have:=b.toNat_lt;show ((b.toNat:Int)%(256:Int)).toNat=b.toNat;omega
  have e2:BitVec.ofInt IntKind.u8.bits 1=(1:BitVec 8):=rfl;rw [e1,e2];show (b.toBitVec &&& (1:BitVec 8)).toNat=_;rw [sQ];exact rH _
 rw [h2];have h3:IntKind.u8.wrap ((b.toNat%2:Nat):Int)=((b.toNat%2:Nat):Int):=by show (((b.toNat%2:Nat):Int)%256)=_;omega
 rw [h3];omega
def hdr(bw n:Nat)(d:Bool)(f:Int)(vp va:Value):Obj:=cl [.slice (some ⟨bw,0,none⟩) n n,.bool d,.int .i64 f,vp,va] 129
theorem aCo{p bw:Nat}{C:Dv}(hO:C.Ok)(vp va q:Value)(qs:LB):Tri prog 41 [.pointer (some ⟨p,0,none⟩),q] [(p,hdr bw C.ws.length C.down C.fuse vp va),(bw,cl (C.ws.flatMap wc) 175)] (fun w=>Rd [p,bw] w 1 q (qs.map bv)) (fun v H'=>v=.tuple #[]/\H'=[(p,hdr bw (C.crash qs).ws.length (C.crash qs).down (C.crash qs).fuse vp va),(bw,cl ((C.crash qs).ws.flatMap wc) 175)]):=by
 unfold hdr;obtain⟨ws,dn,fu,pk,ak⟩:=C;have hn:=hO.n;have hok:=hO.ok;simp only at hn hok;refine Tri.mt func41 ntmps41 fun w hw=>?_;obtain⟨a,len,cap,rfl,hlen,hcap,hrd⟩:=hw;rw [aC,Nat.mul_one] at hlen;cases dn
 ·dsimp only;refine W.o ?_;refine zV (fun x:List Wd×List Wd×Nat=>[(0,.pointer (some ⟨p,0,none⟩)),(1,.slice a len cap),(4,.int .i64 x.2.2),(19,.int .i64 ws.length),(20,.int .i64 x.1.length)])
   (fun x=>[(p,cl [.slice (some ⟨bw,0,none⟩) ws.length ws.length,.bool false,.int .i64 fu,vp,va] 129),(bw,cl ((x.1++x.2.1).flatMap wc) 175)])
   (fun x=>x.2.1.length) (fun x=>kB qs 0 ws=x.1++kB qs x.2.2 x.2.1/\x.1.length+x.2.1.length=ws.length/\x.2.2<=x.1.length/\(∀ w∈x.1++x.2.1,w.Ok))
   ([],ws,0) ⟨rfl,rfl,rfl,rfl,rfl,trivial⟩ (by dsimp only [List.nil_append];infer_instance) ⟨rfl,by simp,Nat.le_refl _,hok⟩ ?_
  rintro⟨done,todo,j⟩ ⟨hc,hl,hj,hk⟩;dsimp only at hc hl hj hk |-;cases todo with
  | nil=>
   have hl2:done.length=ws.length:=by simpa using hl
   refine W.o ?_
   refine Fin.s0 (.inr rfl) rfl ⟨rfl,?_⟩
   simp [Dv.crash,hc,kB,hl2]
  | cons u t=>
   have hl2:done.length+(t.length+1)=ws.length:=by simpa using hl
   have hu:u.Ok:=hk u (by simp)
   have hA:(done.flatMap wc).length=done.length*18:=lX wc 18 _ (fun w hw=>kD (hk w (by simp [hw])).1)
   rw [cP,dE]
   have g16:=(aE6 (done.flatMap wc) (t.flatMap wc) hu.1).1
   have hL:∀ v:Wd,v.Len->((done.flatMap wc)++(wc v++t.flatMap wc)).length=done.length*18+(18+(t.flatMap wc).length):=fun v hv=>by rw [aCB _ _ hv,hA]
   refine W.o ?_
   refine bN (gV rfl rfl rfl oQ oQ (j':=(done.flatMap wc).length) oQ) rfl rfl ?_
   obtain⟨la,no,pe,ma⟩:=u
   dsimp only at g16
   cases pe
   ·refine W.o ?_
    refine rW.eq (done++[⟨la,no,false,ma⟩],t,j) (by simp) ⟨rfl,rfl,rfl,rfl,?_,trivial⟩ ?_ ⟨?_,?_,?_,?_⟩
    ·simp [lk,pt]
    ·simp
    ·rw [hc];simp [kB]
    ·simp;omega
    ·simp;omega
    ·simpa using hk
   ·have hn8:(no.map bv).length=8:=by simpa using hu.1.2
    have rn:=(aHs (done.flatMap wc) (t.flatMap wc) hu.1).1
    have b0:(done.flatMap wc).length+0+8<=(done.flatMap wc++(wc ⟨la,no,true,ma⟩++t.flatMap wc)).length:=by rw [hL _ hu.1];omega
    have p0:=(aHt (done.flatMap wc) (t.flatMap wc) hu.1 no hu.1.2).1
    dsimp only at p0 rn
    have key:∀ l:LB,l.length=8->(∀ (l':LB),l'=l->((⟨l',l',false,false⟩:Wd)=Wd.crash (yT qs j) ⟨la,no,true,ma⟩)) ->
     let X:=done.flatMap wc++(wc ⟨l,no,true,ma⟩++t.flatMap wc)
     let Y:=done.flatMap wc++(wc ⟨l,l,true,ma⟩++t.flatMap wc)
     (X.drop ((done.flatMap wc).length+0)).take 8=l.map bv/\(l.map bv).length=8/\(done.flatMap wc).length+8+8<=X.length /\
      X.take ((done.flatMap wc).length+8)++l.map bv++X.drop ((done.flatMap wc).length+8+8)=Y/\(done.flatMap wc).length+16<Y.length/\(done.flatMap wc).length+17<(Y.set ((done.flatMap wc).length+16) (.bool false)).length /\
      (Y.set ((done.flatMap wc).length+16) (.bool false)).set ((done.flatMap wc).length+17) (.bool false)=((done++[Wd.crash (yT qs j) ⟨la,no,true,ma⟩])++t).flatMap wc:=by
     intro l h8 hcr X Y
     have hX:(⟨l,no,true,ma⟩:Wd).Len:=⟨h8,hu.1.2⟩
     have hY:(⟨l,l,true,ma⟩:Wd).Len:=⟨h8,h8⟩
     have hY2:(⟨l,l,false,ma⟩:Wd).Len:=⟨h8,h8⟩
     have hXl:=hL _ hX
     have hYl:=hL _ hY
     refine⟨(aHs (done.flatMap wc) (t.flatMap wc) hX).2,by simpa using h8,?_,(aHt (done.flatMap wc) (t.flatMap wc) hX l h8).2,?_,?_,?_⟩
     ·show _<=(done.flatMap wc++(wc ⟨l,no,true,ma⟩++t.flatMap wc)).length
      rw [hXl];omega
     ·show _<(done.flatMap wc++(wc ⟨l,l,true,ma⟩++t.flatMap wc)).length
      rw [hYl];omega
     ·show _<((done.flatMap wc++(wc ⟨l,l,true,ma⟩++t.flatMap wc)).set _ _).length
      rw [cE,hYl];omega
     ·rw [(zL (done.flatMap wc) (t.flatMap wc) hY false).1,(zL (done.flatMap wc) (t.flatMap wc) hY2 false).2]
      rw [hcr l rfl];simp
    have fin:∀ A:Fr,subF [(0,.pointer (some ⟨p,0,none⟩)),(1,.slice a len cap),(4,.int .i64 (j+1)),(19,.int .i64 ws.length),(20,.int .i64 (done.length+1))] A->rW (fun x:List Wd×List Wd×Nat=>[(0,.pointer (some ⟨p,0,none⟩)),(1,.slice a len cap),(4,.int .i64 x.2.2),(19,.int .i64 ws.length),(20,.int .i64 x.1.length)])
      (fun x=>[(p,cl [.slice (some ⟨bw,0,none⟩) ws.length ws.length,.bool false,.int .i64 fu,vp,va] 129),(bw,cl ((x.1++x.2.1).flatMap wc) 175)])
      (fun x=>x.2.1.length) (fun x=>kB qs 0 ws=x.1++kB qs x.2.2 x.2.1/\x.1.length+x.2.1.length=ws.length/\x.2.2<=x.1.length/\(∀ w∈x.1++x.2.1,w.Ok)) (done,⟨la,no,true,ma⟩::t,j) A
      [(p,cl [.slice (some ⟨bw,0,none⟩) ws.length ws.length,.bool false,.int .i64 fu,vp,va] 129),(bw,cl (((done++[Wd.crash (yT qs j) ⟨la,no,true,ma⟩])++t).flatMap wc) 175)]:=by
     intro A hρ
     refine rW.eq (done++[Wd.crash (yT qs j) ⟨la,no,true,ma⟩],t,j+1) (by simp) (by simpa using hρ) rfl ⟨?_,?_,?_,?_⟩
     ·rw [hc];simp [kB]
     ·simp;omega
     ·simp;omega
     ·have:=Wd.crash_ok (yT qs j) hu
      simp only [bJ,cD,dJ,or_false] at hk |-
      rintro w ((hw|rfl)|hw)
      ·exact hk w (.inl hw)
      ·exact this
      ·exact hk w (.inr (.inr hw))
    rcases fS len with h0|h0
    ·subst h0
     have hq:qs=[]:=bI hlen
     obtain⟨k1,k2,k3,k4,k5,k6,k7⟩:=key la hu.1.1 (fun l' h=>by subst h hq;simp [yT,Wd.crash])
     refine W.o ?_
     rw [k7]
     exact fin _ ⟨rfl,rfl,rfl,rfl,rfl,trivial⟩
    ·obtain⟨b,o,l,T,fz,rfl,hb,hbk,hrow⟩:=hrd.resolve_left oQ
     obtain⟨x,hx⟩:∃ x,qs[j%qs.length]?=some x:=⟨_,aA (Nat.mod_lt _ oQ)⟩
     have hlx:l[o+(j%len)*1]?=some (bv x):=by
      have:=congrArg (fun z=>z[j%len]?) hrow
      rw [bD,if_pos (by have:=Nat.mod_lt j h0;omega),bH,aL,<-hlen,hx] at this
      rw [Nat.mul_one,<-hlen];exact this
     refine W.o ?_
     refine bN (aCO rfl rfl rfl oQ (r:=((j%len:Nat):Int)) (by rw [vT])) rfl rfl ?_
     refine bN (gV rfl rfl rfl oQ (by have:=Nat.mod_lt j h0;omega) (j':=o+(j%len)*1) (by rw [aS])) rfl rfl ?_
     refine bN (tP rfl rfl hb hbk hlx) rfl rfl ?_
     refine bN (aP0 rfl rfl rfl rfl) rfl rfl ?_
     by_cases hbit:((x &&& 1) == 1)=true
     ·obtain⟨k1,k2,k3,k4,k5,k6,k7⟩:=key no hu.1.2 (fun l' h=>by subst h;simp only [yT,hx,hbit];rfl)
      refine bN (Pu.t (mV rfl rfl rfl) ((aFA x).2 hbit)) rfl rfl ?_
      refine W.o ?_
      rw [k7]
      exact fin _ ⟨rfl,rfl,rfl,rfl,rfl,trivial⟩
     ·obtain⟨k1,k2,k3,k4,k5,k6,k7⟩:=key la hu.1.1 (fun l' h=>by subst h;simp only [Bool.not_eq_true] at hbit;simp only [yT,hx,hbit];rfl)
      refine bN (Pu.f (mV rfl rfl rfl) (fun h=>hbit ((aFA x).1 h))) rfl rfl ?_
      refine W.o ?_
      rw [k7]
      exact fin _ ⟨rfl,rfl,rfl,rfl,rfl,trivial⟩
 dsimp only;refine W.o ?_;refine Fin.s0 (.inl rfl) rfl ⟨rfl,rfl⟩
theorem aMb{p:Nat}{C:Dv}{H:Hp}(hD:eX p C H)(q:Value)(qs:LB):Tri prog 41 [.pointer (some ⟨p,0,none⟩),q] H (fun w=>Rd (H.map Prod.fst) w 1 q (qs.map bv)) (fun v H'=>v=.tuple #[]/\eX p (C.crash qs) H'):=by
 obtain⟨hO,bw,vp,va,Hq,Ha,h1,h2,rfl⟩:=hD;refine ((aCo (p:=p) (bw:=bw) hO vp va q qs).frame (r:=Hq++Ha) (List.Perm.refl _) (fun w ho hr=>?_)).mono ?_
 ·obtain⟨a,len,cap,rfl,hl,hc,hb⟩:=hr;refine⟨a,len,cap,rfl,hl,hc,hb.imp id fun⟨b,o,l,T,fz,ha,hb,hk,hy⟩=>⟨b,o,l,T,fz,ha,hb,fun hm=>hk ?_,hy⟩⟩;simp only [cD,dJ,or_false] at hm;rcases hm with rfl|rfl <;> simp
 rintro v H' ⟨H1,rfl,rfl,rfl⟩;refine⟨rfl,Dv.crash_ok qs hO,bw,vp,va,Hq,Ha,?_,?_,rfl⟩
 ·unfold Dv.crash;cases C.down <;> exact h1
 unfold Dv.crash;cases C.down <;> exact h2
def Dv.push(C:Dv)(a:Int×Int×Int):Dv:=if C.acts.length<16384 then { C with acts:=C.acts++[a] } else C
def Dv.act(C:Dv)(a:Int×Int×Int):Dv:=if 0<C.fuse then (if C.fuse=1 then ({ C with fuse:=0 }:Dv).crash C.picks else ({ C with fuse:=C.fuse-1 }:Dv).push a) else C.push a
def Dv.actE(C:Dv):Int:=if C.fuse=1 then 8 else 0
theorem Dv.fuse_ok{C:Dv}(f:Int)(h:C.Ok)(h0:0<=f)(h1:f<=9223372036854775807):({ C with fuse:=f }:Dv).Ok:=⟨h.n,h.ok,h0,h1,h.a⟩
theorem aHD{p:Nat}{C:Dv}{H:Hp}(hD:eX p C H)(a:Int×Int×Int):Tri prog 162 [.pointer (some ⟨p,0,none⟩),.agg #[.int .i64 a.1,.int .i64 a.2.1,.int .i64 a.2.2]] H NT (fun v H'=>v=.int .i64 C.actE/\eX p (C.act a) H'):=by
 obtain⟨hO,bw,vp,va,Hq,Ha,h1,h2,rfl⟩:=hD;have hf0:=hO.f0;have hf1:=hO.f1;have ha:=hO.a;have hof:One vp:=h1.one;obtain⟨aa,la,ca,rfl,hla⟩:=h2.form;have hla2:la=C.acts.length:=by rw [lX ac 3 _ (fun x _=>rfl)] at hla;omega
 subst hla2;refine Tri.mt func162 ntmps162 fun w hw=>?_;by_cases c0:0<C.fuse
 ·refine W.o fun b_=>?_;by_cases c1:C.fuse=1
  ·have e0:C.fuse-1=0:=oQ;have hc:=aCo (p:=p) (bw:=bw) (Dv.fuse_ok (C.fuse-1) hO oQ oQ) vp (.slice aa C.acts.length ca) vp C.picks;unfold hdr at hc;dsimp only at hc;refine W.o ?_;dsimp only [List.set];refine aFo [p,bw] rfl rfl rfl rfl hc (fun w hs=>Rd.own (Hc:=[(p,cl [.slice (some ⟨bw,0,none⟩) C.ws.length C.ws.length,.bool C.down,.int .i64 (C.fuse-1),vp,.slice aa C.acts.length ca] 129),(bw,cl (C.ws.flatMap wc) 175)]) h1 hs inferInstance) ?_;rintro _ _ ⟨rfl,rfl⟩;refine W.o ?_;refine Fin.rm b_ (Fin.s1 (.inl rfl) rfl rfl ⟨?_,?_⟩)
   ·simp [Dv.actE,c1]
   have he:C.act a=({ C with fuse:=C.fuse-1 }:Dv).crash C.picks:=by simp [Dv.act,c1]
   rw [he];refine⟨Dv.crash_ok _ (Dv.fuse_ok _ hO oQ oQ),bw,vp,_,Hq,Ha,?_,?_,rfl⟩
   ·unfold Dv.crash;cases C.down <;> exact h1
   unfold Dv.crash;cases C.down <;> exact h2
  have c3:C.fuse-1≠0:=oQ;by_cases c2:C.acts.length<16384
  ·refine W.o ?_;refine mH [p,b_] 10 kQ ?_;refine SA.take 0 rfl kQ (fun _ _ _ h=>Fin.np h) rfl rfl (fA rfl rfl) ?_;refine SA.take 1 rfl kQ (fun _ _ _ h=>Fin.np h) rfl rfl (fA rfl rfl) ?_;refine SA.take 2 rfl kQ (fun _ _ _ h=>Fin.np h) rfl rfl (rP rfl rfl) ?_;refine SA.take 3 rfl kQ (fun _ _ _ h=>Fin.np h) rfl rfl (gJ rfl rfl rfl) ?_;refine SA.take 4 rfl kQ (fun _ _ _ h=>Fin.np h) rfl rfl (jD rfl rfl rfl) ?_;refine SA.take 5 rfl kQ (fun _ _ _ h=>Fin.np h) rfl rfl (mL rfl rfl rfl rfl) ?_;refine SA.one 6 rfl kQ ?_;refine iE (n:=3) rfl rfl rfl rfl (by rfl) dQ (by rfl) dQ (fun b2=>?_);refine jB ?_;refine Beh.mk ?_;refine SA.one 7 rfl kQ ?_;refine SL.append (n:=3) (m:=1) (ys:=ac a) Ha rfl rfl rfl rfl rfl h2 (fun w hs=>eQ.block (hs.at (b:=b2)) rfl rfl) rfl rfl dQ dQ ?_ (fun v2 Ha2 h3=>?_)
   ·rw [hla];simp [ac];omega
   have hov:One v2:=h3.one;refine jB ?_;refine Beh.mk ?_;refine SA.one 8 rfl kQ ?_;refine W.o ?_;refine Beh.mk ?_;refine SA.one 9 rfl kQ ?_;refine W.o ?_;refine Beh.mk ?_;refine SA.last rfl kQ ?_;refine W.o ?_;refine Fin.rm b_ (Fin.rm b2 ?_);have he:C.act a=({ C with fuse:=C.fuse-1,acts:=C.acts++[a] }:Dv):=by simp [Dv.act,Dv.push,c0,c1,c2]
   rw [he];have hl2:(C.acts++[a]).flatMap ac=C.acts.flatMap ac++ac a:=by simp
   rw [<-hl2] at h3;exact Fin.perm cA (Fin.s1 (.inl rfl) rfl rfl ⟨by simp [Dv.actE,c1],⟨hO.n,hO.ok,by dsimp only;omega,by dsimp only;omega,by simp;omega⟩,bw,vp,v2,Hq,Ha2,h1,h3,by rw [aG];rfl⟩)
  refine W.o ?_;refine Fin.rm b_ (Fin.s1 (.inl rfl) rfl rfl ⟨?_,?_⟩)
  ·simp [Dv.actE,c1]
  have he:C.act a=({ C with fuse:=C.fuse-1 }:Dv):=by simp [Dv.act,Dv.push,c0,c1,c2]
  have hOK:=Dv.fuse_ok (C.fuse-1) hO oQ oQ;rw [he];exact⟨hOK,bw,vp,_,Hq,Ha,h1,h2,rfl⟩
 refine W.o fun b_=>?_;by_cases c2:C.acts.length<16384
 ·refine W.o ?_;refine mH [p,b_] 10 kQ ?_;refine SA.take 0 rfl kQ (fun _ _ _ h=>Fin.np h) rfl rfl (fA rfl rfl) ?_;refine SA.take 1 rfl kQ (fun _ _ _ h=>Fin.np h) rfl rfl (fA rfl rfl) ?_;refine SA.take 2 rfl kQ (fun _ _ _ h=>Fin.np h) rfl rfl (rP rfl rfl) ?_;refine SA.take 3 rfl kQ (fun _ _ _ h=>Fin.np h) rfl rfl (gJ rfl rfl rfl) ?_;refine SA.take 4 rfl kQ (fun _ _ _ h=>Fin.np h) rfl rfl (jD rfl rfl rfl) ?_;refine SA.take 5 rfl kQ (fun _ _ _ h=>Fin.np h) rfl rfl (mL rfl rfl rfl rfl) ?_;refine SA.one 6 rfl kQ ?_;refine iE (n:=3) rfl rfl rfl rfl (by rfl) dQ (by rfl) dQ (fun b2=>?_);refine jB ?_;refine Beh.mk ?_;refine SA.one 7 rfl kQ ?_;refine SL.append (n:=3) (m:=1) (ys:=ac a) Ha rfl rfl rfl rfl rfl h2 (fun w hs=>eQ.block (hs.at (b:=b2)) rfl rfl) rfl rfl dQ dQ ?_ (fun v2 Ha2 h3=>?_)
  ·rw [hla];simp [ac];omega
  have hov:One v2:=h3.one;refine jB ?_;refine Beh.mk ?_;refine SA.one 8 rfl kQ ?_;refine W.o ?_;refine Beh.mk ?_;refine SA.one 9 rfl kQ ?_;refine W.o ?_;refine Beh.mk ?_;refine SA.last rfl kQ ?_;refine W.o ?_;refine Fin.rm b_ (Fin.rm b2 ?_);have he:C.act a=({ C with acts:=C.acts++[a] }:Dv):=by simp [Dv.act,Dv.push,c0,c2]
  rw [he];have hl2:(C.acts++[a]).flatMap ac=C.acts.flatMap ac++ac a:=by simp
  rw [<-hl2] at h3;exact Fin.perm cA (Fin.s1 (.inl rfl) rfl rfl ⟨by simp [Dv.actE];omega,⟨hO.n,hO.ok,by dsimp only;omega,by dsimp only;omega,by simp;omega⟩,bw,vp,v2,Hq,Ha2,h1,h3,by rw [aG];rfl⟩)
 refine W.o ?_;refine Fin.rm b_ (Fin.s1 (.inl rfl) rfl rfl ⟨?_,?_⟩)
 ·simp [Dv.actE];omega
 have he:C.act a=C:=by simp [Dv.act,Dv.push,c0,c2]
 have hOK:=hO;rw [he];exact⟨hOK,bw,vp,_,Hq,Ha,h1,h2,rfl⟩
theorem aCq{g:FuncId} [bC prog g]{h:Wd->Wd}(hg:aCf g h)(hh:∀ w,w.Ok->(h w).Ok){p:Nat}{C:Dv}{H:Hp}(hD:eX p C H)(x y:Nat)(hxy:x<=y)(hy:y<=C.ws.length):Tri prog 210 [.pointer (some ⟨p,0,none⟩),.int .i64 x,.int .i64 y,.func (.func g) #[] #[]] H NT (fun v H'=>v=.tuple #[]/\eX p { C with ws:=iX h x y C.ws } H'):=by obtain⟨hO,bw,vp,va,Hq,Ha,h1,h2,rfl⟩:=hD;refine ((aOd hg hh p bw _ _ _ _ _ C.ws rfl hO.n hO.ok x y hxy hy).frame (r:=Hq++Ha) (List.Perm.refl _) (fun w _ _=>trivial)).mono ?_;rintro v H' ⟨H1,rfl,rfl,rfl⟩;exact⟨rfl,⟨by dsimp only;rw [oD];exact hO.n,xH hh x y hO.ok,hO.f0,hO.f1,hO.a⟩,bw,vp,va,Hq,Ha,h1,h2,by dsimp only;rw [oD];rfl⟩
def Dv.doo(C:Dv):Dv:=if C.down=true then C else C.act (4,0,0)
def Dv.dooE(C:Dv):Int:=if C.down=true then 8 else C.actE
theorem Dv.rdy00(C:Dv):C.rdy 0 0=if C.down=true then 8 else 0:=by
 unfold Dv.rdy;split
 ·rfl
 rw [if_neg];omega
theorem aPR{p:Nat}{C:Dv}{H:Hp}(hD:eX p C H):Tri prog 88 [.pointer (some ⟨p,0,none⟩)] H NT (fun v H'=>v=.int .i64 C.dooE/\eX p C.doo H'):=by
 have hr:=aAy hD 0 0;have ha:=aHD hD (4,0,0);rw [Dv.rdy00] at hr;refine Tri.mt func88 ntmps88 fun w hw=>?_;by_cases hd:C.down=true
 ·rw [if_pos hd] at hr;repeat' (first|(refine sB ?_;refine zT rfl rfl ?_)|(refine pB ?_;((refine nX _ rfl rfl rfl rfl hr (fun _ _=>trivial) ?_;rintro _ _ ⟨rfl,rfl⟩)))|(refine W.ow ?_;try intro b_)  | refine dP (oV rfl rfl rfl) rfl rfl (fun h_=>?_) (fun h_=>?_)|refine dP (oU rfl rfl rfl) rfl rfl (fun h_=>?_) (fun h_=>?_)|refine dP (oS rfl rfl rfl) rfl rfl (fun h_=>?_) (fun h_=>?_)|refine dP (oR rfl rfl rfl) rfl rfl (fun h_=>?_) (fun h_=>?_)|refine dP (mV rfl rfl rfl) rfl rfl (fun h_=>?_) (fun h_=>?_)|refine dP (oW rfl rfl rfl) rfl rfl (fun h_=>?_) (fun h_=>?_)|refine jG rfl (fun h_=>?_) (fun h_=>?_))
  rw [aG];exact Fin.s1 (.inl rfl) rfl rfl ⟨by simp [Dv.dooE,hd],by simpa [Dv.doo,hd] using hD⟩
 rw [if_neg hd] at hr;repeat' (first|(refine sB ?_;refine zT rfl rfl ?_)|(refine pB ?_;((refine nX _ rfl rfl rfl rfl hr (fun _ _=>trivial) ?_;rintro _ _ ⟨rfl,rfl⟩)))|(refine W.ow ?_;try intro b_)  | refine dP (oV rfl rfl rfl) rfl rfl (fun h_=>?_) (fun h_=>?_)|refine dP (oU rfl rfl rfl) rfl rfl (fun h_=>?_) (fun h_=>?_)|refine dP (oS rfl rfl rfl) rfl rfl (fun h_=>?_) (fun h_=>?_)|refine dP (oR rfl rfl rfl) rfl rfl (fun h_=>?_) (fun h_=>?_)|refine dP (mV rfl rfl rfl) rfl rfl (fun h_=>?_) (fun h_=>?_)|refine dP (oW rfl rfl rfl) rfl rfl (fun h_=>?_) (fun h_=>?_)|refine jG rfl (fun h_=>?_) (fun h_=>?_))
 refine nX _ rfl rfl rfl rfl ha (fun _ _=>trivial) ?_;rintro _ _ ⟨rfl,hD2⟩;refine W.o ?_;rw [aG];exact Fin.s1 (.inl rfl) rfl rfl ⟨by simp [Dv.dooE,hd],by simpa [Dv.doo,hd] using hD2⟩
theorem aDf(v:Value)(ys:LV) [OC ys](hys:ys.length<=1048576):Tri prog 97 [v] [] (fun w=>Rd [] w 1 v ys) (fun v' H'=>Sl 5 1 v' ys H'):=by
 refine Tri.mt func97 ntmps97 fun w hw=>?_;obtain⟨a,len,cap,rfl,hlen,hcap,hrd⟩:=hw;cases a with
 | none=>
  have:ys=[]:=by rcases hrd with h0|⟨b,o,l,T,fz,h,_⟩;exact bI oQ;cases h
  subst this
  refine W.o ?_
  exact Fin.s1 (.inl rfl) rfl rfl (Sl.nil _ _)
 | some a=>
  refine W.o ?_
  refine iE (n:=1) (r:=[]) rfl rfl rfl rfl (by rfl) dQ (by rfl) dQ (fun b_=>?_)
  refine W.o ?_
  refine SL.append (n:=1) (m:=len) (ys:=ys) (xs:=[]) [(b_,cl [] 5)] rfl rfl rfl rfl rfl (.inr ⟨b_,0,0,[],rfl,rfl,rfl,Nat.le_refl _,rfl⟩) (fun w2 hs=>Rd.srcAt ⟨_,_,_,rfl,hlen,hcap,hrd⟩ (hs.tail (H:=(b_,_)::[]) (List.Perm.refl _))) hlen (by rfl) dQ dQ ?_ (fun v2 Ha2 h3=>?_)
  ·dsimp only [List.length_nil];omega
  refine W.o ?_
  rw [aG]
  exact Fin.s1 (.inl rfl) rfl rfl h3
theorem aEn(v:Value)(ys:LV) [OC ys](hys:ys.length<=1048576):Tri prog 49 [v] [] (fun w=>Rd [] w 3 v ys) (fun v' H'=>Sl 136 3 v' ys H'):=by
 refine Tri.mt func49 ntmps49 fun w hw=>?_;obtain⟨a,len,cap,rfl,hlen,hcap,hrd⟩:=hw;cases a with
 | none=>
  have:ys=[]:=by rcases hrd with h0|⟨b,o,l,T,fz,h,_⟩;exact bI oQ;cases h
  subst this
  refine W.o ?_
  exact Fin.s1 (.inl rfl) rfl rfl (Sl.nil _ _)
 | some a=>
  refine W.o ?_
  refine iE (n:=3) (r:=[]) rfl rfl rfl rfl (by rfl) dQ (by rfl) dQ (fun b_=>?_)
  refine W.o ?_
  refine SL.append (n:=3) (m:=len) (ys:=ys) (xs:=[]) [(b_,cl [] 136)] rfl rfl rfl rfl rfl (.inr ⟨b_,0,0,[],rfl,rfl,rfl,Nat.le_refl _,rfl⟩) (fun w2 hs=>Rd.srcAt ⟨_,_,_,rfl,hlen,hcap,hrd⟩ (hs.tail (H:=(b_,_)::[]) (List.Perm.refl _))) hlen (by rfl) dQ dQ ?_ (fun v2 Ha2 h3=>?_)
  ·dsimp only [List.length_nil];omega
  refine W.o ?_
  rw [aG]
  exact Fin.s1 (.inl rfl) rfl rfl h3
def Dv.arm(C:Dv)(n:Int)(qs:LB):Dv:={ C with fuse:=max n 0,picks:=qs }
instance(qs:LB):OC (qs.map bv):=inferInstance
theorem aPN{p:Nat}{C:Dv}{H:Hp}(hD:eX p C H)(n:Int)(hn:n<=9223372036854775807)(v:Value)(qs:LB)(hq:qs.length<=1048576):Tri prog 43 [.pointer (some ⟨p,0,none⟩),.int .i64 n,v] H (fun w=>Rd (H.map Prod.fst) w 1 v (qs.map bv)) (fun v H'=>v=.tuple #[]/\eX p (C.arm n qs) H'):=by
 obtain⟨hO,bw,vp,va,Hq,Ha,h1,h2,rfl⟩:=hD;refine Tri.mt func43 ntmps43 fun w hw=>?_;have hc:=aDf v (qs.map bv) (by simpa using hq);repeat' (first|(refine sB ?_;refine zT rfl rfl ?_)|(refine pB ?_;(refine nX [] rfl rfl rfl rfl hc (fun w2 hs=>Rd.ro (Hc:=[]) hw hs) ?_))|(refine W.ow ?_;try intro b_)  | refine dP (oV rfl rfl rfl) rfl rfl (fun h_=>?_) (fun h_=>?_)|refine dP (oU rfl rfl rfl) rfl rfl (fun h_=>?_) (fun h_=>?_)|refine dP (oS rfl rfl rfl) rfl rfl (fun h_=>?_) (fun h_=>?_)|refine dP (oR rfl rfl rfl) rfl rfl (fun h_=>?_) (fun h_=>?_)|refine dP (mV rfl rfl rfl) rfl rfl (fun h_=>?_) (fun h_=>?_)|refine dP (oW rfl rfl rfl) rfl rfl (fun h_=>?_) (fun h_=>?_)|refine jG rfl (fun h_=>?_) (fun h_=>?_))
 intro v2 Hq2 h3;have hov:One v2:=h3.one;(refine W.o ?_;repeat intro b_);refine Fin.drop Hq (Fin.perm (aJc _ _ _ _) (Fin.s0 (.inr rfl) rfl ⟨rfl,⟨hO.n,hO.ok,by simp only [Dv.arm];omega,by simp only [Dv.arm];omega,hO.a⟩,bw,v2,va,Hq2,Ha,h3,h2,rfl⟩))
def Wd.zero:Wd:=⟨List.replicate 8 0,List.replicate 8 0,false,false⟩
def Dv.new(n:Int):Dv:=⟨List.replicate (8*min (max n 0) 1024).toNat Wd.zero,false,0,[],[]⟩
theorem Dv.new_ok(n:Int):(Dv.new n).Ok:=⟨by simp [Dv.new];omega,by intro w hw;simp only [Dv.new,List.mem_replicate] at hw;rw [hw.2];exact⟨⟨rfl,rfl⟩,by simp [Wd.zero]⟩,Int.le_refl _,by simp [Dv.new],by simp [Dv.new]⟩
theorem aOw(n:Int):Tri prog 29 [.int .i64 n] [] NT (fun v H'=>∃ p,v=.pointer (some ⟨p,0,none⟩)/\eX p (Dv.new n) H'):=by
 refine Tri.mt func29 ntmps29 fun w hw=>?_;refine W.o ?_;refine SL.make (n:=18) (l:=(8*min (max n 0) 1024).toNat) (c:=(8*min (max n 0) 1024).toNat) rfl rfl rfl rfl rfl oQ oQ (by rfl) dQ (Nat.le_refl _) oQ dQ (fun bw=>?_);refine W.o fun b_=>?_;refine Fin.perm (List.Perm.refl _) (Fin.s1 (.inl rfl) rfl rfl ⟨b_,rfl,Dv.new_ok n,bw,_,_,[],[],Sl.nil _ _,Sl.nil _ _,?_⟩);have hz:(Dv.new n).ws.length=(8*min (max n 0) 1024).toNat:=by simp [Dv.new]
 have hw:(Dv.new n).ws.flatMap wc=zs (wc Wd.zero) (8*min (max n 0) 1024).toNat:=by simp only [Dv.new,zs,gO,eG]
 rw [hz,hw];rfl
theorem aGQ{p:Nat}{C:Dv}{H:Hp}(hD:eX p C H):Tri prog 15 [.pointer (some ⟨p,0,none⟩)] H NT (fun v H'=>∃ Hs,H'=Hs++H/\Sl 136 3 v (C.acts.flatMap ac) Hs):=by
 obtain⟨hO,bw,vp,va,Hq,Ha,h1,h2,rfl⟩:=hD;have hc:=aEn va (C.acts.flatMap ac) (by rw [lX ac 3 _ (fun x _=>rfl)];have:=hO.a;omega);have hoa:One va:=h2.one;refine Tri.mt func15 ntmps15 fun w hw=>?_;repeat' (first|(refine sB ?_;refine zT rfl rfl ?_)|(refine pB ?_;(refine nX [] rfl rfl rfl rfl hc (fun w2 hs=>Rd.own (Hc:=[]) h2 hs inferInstance) ?_))|(refine W.ow ?_;try intro b_)  | refine dP (oV rfl rfl rfl) rfl rfl (fun h_=>?_) (fun h_=>?_)|refine dP (oU rfl rfl rfl) rfl rfl (fun h_=>?_) (fun h_=>?_)|refine dP (oS rfl rfl rfl) rfl rfl (fun h_=>?_) (fun h_=>?_)|refine dP (oR rfl rfl rfl) rfl rfl (fun h_=>?_) (fun h_=>?_)|refine dP (mV rfl rfl rfl) rfl rfl (fun h_=>?_) (fun h_=>?_)|refine dP (oW rfl rfl rfl) rfl rfl (fun h_=>?_) (fun h_=>?_)|refine jG rfl (fun h_=>?_) (fun h_=>?_))
 intro v2 Hs h3;refine W.o ?_;exact Fin.s1 (.inl rfl) rfl rfl ⟨Hs,rfl,h3⟩
structure Rg where
 c:Int
 root:LB
def rgc(r:Rg):LV:=.int .u64 r.c::r.root.map bv
instance(r:Rg):OC (rgc r):=by unfold rgc;infer_instance
structure Rg.Ok(r:Rg):Prop where
 len:r.root.length=32
 c0:0<=r.c
 c1:r.c<=18446744073709551615
theorem mR{r:Rg}(h:r.Ok):(rgc r).length=33:=by simp [rgc,h.len]
def fnc(f p:Nat):Value:=.func (.func f) #[.pointer (some ⟨p,0,none⟩)] #[]
def trc(p:Nat)(r:Rg):LV:=rgc r++[fnc 87 p,fnc 88 p]
theorem aBv(p:Nat){r:Rg}(h:r.Ok):((trc p r).drop (0+0)).take 33=rgc r/\(rgc r).length=33/\(trc p r)[0+33]?=some (fnc 87 p)/\(trc p r)[0+34]?=some (fnc 88 p)/\(trc p r)[0+0+0]?=some (.int .u64 r.c)/\(trc p r).length=35:=by
 have hl:=mR h;refine⟨?_,hl,?_,?_,rfl,by simp [trc,hl]⟩
 ·rw [trc,bQ,cT hl]
 ·rw [trc,aV oQ,hl];rfl
 rw [trc,aV oQ,hl];rfl
theorem aM7(p:Nat){r r':Rg}(h:r.Ok)(h':r'.Ok):(trc p r).take (0+0)++rgc r'++(trc p r).drop (0+0+33)=trc p r':=by rw [trc,cU,List.nil_append,eR (by rw [mR h])];rfl
theorem uR(tp p:Nat)(r:Rg)(h:r.Ok):Tri prog 46 [.pointer (some ⟨tp,0,none⟩)] [(tp,cl (trc p r) 201)] NT (fun v H=>v=.agg (rgc r).toArray/\H=[(tp,cl (trc p r) 201)]):=by obtain⟨f1,f2,f3,f4,f5,f6⟩:=aBv p h;refine Tri.mt func46 ntmps46 fun w hw=>?_;refine W.o fun b_=>?_;exact Fin.c1e (.inl rfl) (rgc r) rfl rfl (by simp [rgc,h.len]) (by rw [f2]) ⟨rfl,rfl⟩
theorem aKr(tp p:Nat)(r:Rg)(h:r.Ok):Tri prog 71 [.pointer (some ⟨tp,0,none⟩)] [(tp,cl (trc p r) 201)] NT (fun v H=>v=.bool (decide (r.c=18446744073709551615))/\H=[(tp,cl (trc p r) 201)]):=by
 obtain⟨f1,f2,f3,f4,f5,f6⟩:=aBv p h;refine Tri.mt func71 ntmps71 fun w hw=>?_;by_cases hc:r.c=18446744073709551615
 ·refine W.o ?_;exact Fin.s1 (.inl rfl) rfl rfl ⟨by simp [hc],rfl⟩
 refine W.o ?_;exact Fin.s1 (.inl rfl) rfl rfl ⟨by simp [hc],rfl⟩
theorem aQw(p:Nat)(r:Rg)(h:r.Ok):Tri prog 30 [.pointer (some ⟨p,0,none⟩),.agg (rgc r).toArray] [] NT (fun v H=>∃ tp,v=.pointer (some ⟨tp,0,none⟩)/\H=[(tp,cl (trc p r) 201)]):=by
 have hl:=mR h;have hr:((rgc r).drop 0).take 33=rgc r:=by rw [bQ,aK oQ]
 refine Tri.mt func30 ntmps30 fun w hw=>?_;refine W.o fun b_=>?_;refine bN (pQ (r:=trc p r) rfl rfl ?_) rfl rfl ?_
 ·refine uC (rgc r++[.nilFunc,.nilFunc]) rfl hl dQ (by rfl) ?_;refine uC (rgc r++[fnc 87 p,.nilFunc]) rfl rfl (by simp [hl]) (by simp [hl,vl,fnc,iO,gM]) ?_;refine uC (trc p r) rfl rfl (by simp [hl]) (by simp [hl,vl,fnc,trc,iO,gM,aK,cQ]) rfl
 refine W.o fun b_=>?_;rename_i b1;exact Fin.rm b1 (Fin.s1 (.inl rfl) rfl rfl ⟨b_,rfl,rfl⟩)
end
def Wd.put(j:Nat)(c:UInt8)(w:Wd):Wd:={ w with now:=w.now.set j c }
def Wd.tam(j:Nat)(c:UInt8)(w:Wd):Wd:={ w with now:=w.now.set j c,lasts:=w.lasts.set j c }
theorem Wd.put_ok(j:Nat)(c:UInt8){w:Wd}(h:w.Ok):(w.put j c).Ok:=⟨⟨h.1.1,by simp [Wd.put,h.1.2]⟩,h.2⟩
theorem Wd.tam_ok(j:Nat)(c:UInt8){w:Wd}(h:w.Ok):(w.tam j c).Ok:=⟨⟨by simp [Wd.tam,h.1.1],by simp [Wd.tam,h.1.2]⟩,h.2⟩
def nM(f:Nat->UInt8->Wd->Wd)(ws:List Wd)(i:Nat)(c:UInt8):List Wd:=ws.modify (i/8) (f (i%8) c)
def fW(f:Nat->UInt8->Wd->Wd):List Wd->Nat->LB->List Wd
 | ws,_,[]=>ws
 | ws,i,c::t=>fW f (nM f ws i c) (i+1) t
theorem rC(f:Nat->UInt8->Wd->Wd):∀ (l:LB) (ws:List Wd) (i:Nat) (c:UInt8),fW f ws i (l++[c])=nM f (fW f ws i l) (i+l.length) c
 | [],ws,i,c=>rfl
 | x::l,ws,i,c=>by show fW f (nM f ws i x) (i+1) (l++[c])=_;rw [rC f l];show nM f (fW f (nM f ws i x) (i+1) l) (i+1+l.length) c=nM f (fW f (nM f ws i x) (i+1) l) (i+(l.length+1)) c;congr 1;omega
theorem aCJ(f:Nat->UInt8->Wd->Wd)(ws:List Wd)(i:Nat)(c:UInt8):(nM f ws i c).length=ws.length:=by simp [nM]
theorem jJ(f:Nat->UInt8->Wd->Wd):∀ (l:LB) (ws:List Wd) (i:Nat),(fW f ws i l).length=ws.length
 | [],ws,i=>rfl
 | x::l,ws,i=>by show (fW f (nM f ws i x) (i+1) l).length=_;rw [jJ f l,aCJ]
theorem xJ{f:Wd->Wd}(hf:∀ w,w.Ok->(f w).Ok){ws:List Wd}(m:Nat)(h:∀ w∈ws,w.Ok):∀ w∈ws.modify m f,w.Ok:=by
 intro w hw;obtain⟨k,hk⟩:=cW.1 hw;rw [mG] at hk;cases hu:ws[k]? with
 | none=>rw [hu] at hk;simp at hk
 | some u=>
  rw [hu] at hk
  have hm:=h u (aP hu)
  simp only [rZ,Option.map_some,cR] at hk
  rw [<-hk]
  split
  ·exact hf u hm
  ·exact hm
theorem sD{f:Nat->UInt8->Wd->Wd}(hf:∀ j c w,w.Ok->(f j c w).Ok):∀ (l:LB) (ws:List Wd) (i:Nat),(∀ w∈ws,w.Ok)->∀ w∈fW f ws i l,w.Ok
 | [],ws,i,h=>h
 | x::l,ws,i,h=>sD hf l _ _ (xJ (hf _ _) _ h)
theorem aPp{ws:List Wd}(hok:∀ w∈ws,w.Ok){m j:Nat}{u:Wd}(hu:ws[m]?=some u)(hj:j<18):(ws.flatMap wc)[m*18+j]?=(wc u)[j]?:=by
 have hm:m<ws.length:=(aD.1 hu).1;have hA:((ws.take m).flatMap wc).length=m*18:=by rw [lX wc 18 _ (fun w hw=>kD (hok w (dM hw)).1),aH];congr 1;omega
 rw [qA wc ws m u hu];exact aEs _ _ _ j _ oQ (by rw [kD (hok u (aP hu)).1];exact hj)
theorem aHv{ws:List Wd}(hok:∀ w∈ws,w.Ok){m j:Nat}{u u':Wd}{v:Value}(hu:ws[m]?=some u)(hj:j<18)(h:(wc u).set j v=wc u'):(ws.flatMap wc).set (m*18+j) v=(ws.set m u').flatMap wc:=by
 have hm:m<ws.length:=(aD.1 hu).1;have hA:((ws.take m).flatMap wc).length=m*18:=by rw [lX wc 18 _ (fun w hw=>kD (hok w (dM hw)).1),aH];congr 1;omega
 rw [qA wc ws m u hu,aE0 _ _ _ j _ v oQ (by rw [kD (hok u (aP hu)).1];exact hj),h,aGZ wc ws m u' hm]
theorem aHu{ws:List Wd}(hok:∀ w∈ws,w.Ok):(ws.flatMap wc).length=ws.length*18:=lX wc 18 _ (fun w hw=>kD (hok w hw).1)
theorem aM9{u:Wd}(h:u.Len){j:Nat}(hj:j<8):(wc u)[8+j]?=u.now[j]?.map bv/\(wc u)[j]?=u.lasts[j]?.map bv:=by
 unfold wc;have h1:(u.lasts.map bv).length=8:=by simpa using h.1
 have h2:(u.now.map bv).length=8:=by simpa using h.2
 constructor
 ·rw [aV oQ,h1,aJ oQ,aL];congr 2;omega
 rw [aJ oQ,aL]
theorem aE7{u:Wd}(h:u.Len){j:Nat}(hj:j<8)(c:UInt8):(wc u).set (8+j) (bv c)=wc (u.put j c)/\(wc u).set j (bv c)=wc { u with lasts:=u.lasts.set j c }:=by
 unfold wc Wd.put;have h1:(u.lasts.map bv).length=8:=by simpa using h.1
 have h2:(u.now.map bv).length=8:=by simpa using h.2
 constructor
 ·rw [bY _ _ oQ,h1,gI _ _ oQ,gC];congr 3;omega
 rw [gI _ _ oQ,gC]
theorem pI{ws:List Wd}{m:Nat}{u:Wd}(f:Wd->Wd)(hu:ws[m]?=some u):ws.modify m f=ws.set m (f u):=by
 apply cM;intro k;rw [mG,dW];by_cases hk:m=k
 ·subst hk;obtain⟨hm,rfl⟩:=aD.1 hu;simp [hm]
 simp [hk]
def lP(ws:List Wd):LB:=ws.flatMap Wd.now
def kZ(ws:List Wd):LB:=ws.flatMap Wd.lasts
theorem fmU{J:Type}(f:Wd->List J){ws:List Wd}(hf:∀ w∈ws,(f w).length=8){m j:Nat}{u:Wd}(hu:ws[m]?=some u)(hj:j<8):(ws.flatMap f)[m*8+j]?=(f u)[j]?:=by
 induction ws generalizing m with
 | nil=>simp at hu
 | cons w t ih=>
  have hw:=hf w (by simp)
  rw [dE]
  cases m with
  | zero=>simp at hu;subst hu;rw [aJ oQ];congr 1;omega
  | succ m=>
   rw [aV oQ,hw]
   have:=ih (fun x hx=>hf x (by simp [hx])) (m:=m) (by simpa using hu)
   rw [<-this];congr 1;omega
theorem aAf{J:Type}(f:Wd->List J):∀ {ws:List Wd},(∀ w∈ws,(f w).length=8)->(ws.flatMap f).length=8*ws.length
 | [],_=>rfl
 | w::t,h=>by rw [dE,aB,h w (by simp),aAf f (fun x hx=>h x (by simp [hx])),aW];omega
theorem aKC{ws:List Wd}(hok:∀ w∈ws,w.Ok){i:Nat}{u:Wd}(hu:ws[i/8]?=some u):(lP ws)[i]?=u.now[i%8]?:=by have:=fmU Wd.now (fun w hw=>(hok w hw).1.2) hu (Nat.mod_lt i (by decide:0<8));rw [<-this];unfold lP;congr 1;omega
theorem rM{ws:List Wd}(hok:∀ w∈ws,w.Ok):(lP ws).length=8*ws.length:=aAf _ fun w hw=>(hok w hw).1.2
theorem aA4{ws:List Wd}(hok:∀ w∈ws,w.Ok):(kZ ws).length=8*ws.length:=aAf _ fun w hw=>(hok w hw).1.1
def Dv.setWs(C:Dv)(ws:List Wd):Dv:={ C with ws:=ws }
def qU(ws:List Wd)(i:Nat)(bs:LB):List Wd:=if bs.length=0 then ws else iX Wd.stored (i/8) ((i+bs.length-1)/8+1) (fW Wd.put ws i bs)
def Dv.store(C:Dv)(i:Int)(bs:LB):Dv:=if C.rdy i bs.length=0 then (if C.actE=0 then (C.act (1,i,bs.length)).setWs (qU (C.act (1,i,bs.length)).ws i.toNat bs) else C.act (1,i,bs.length)) else C
def Dv.actR(C:Dv)(i n:Int):Int:=if C.rdy i n=0 then C.actE else C.rdy i n
def kW(ws:List Wd)(i n:Nat):List Wd:=if n=0 then ws else iX Wd.flushed (i/64*8) (((i+n-1)/64+1)*8) ws
def Dv.flush(C:Dv)(i n:Int):Dv:=if C.rdy i n=0 then (if C.actE=0 then (C.act (2,i,n)).setWs (kW (C.act (2,i,n)).ws i.toNat n.toNat) else C.act (2,i,n)) else C
def Dv.fence(C:Dv):Dv:=if C.rdy 0 0=0 then (if C.actE=0 then (C.act (3,0,0)).setWs ((C.act (3,0,0)).ws.map Wd.fenced) else C.act (3,0,0)) else C
def Dv.tamB(C:Dv)(i:Int)(n:Nat):Bool:=decide (0<=i/\n<=C.len/\i<=(C.len:Int)-n)
def Dv.tam(C:Dv)(i:Int)(bs:LB):Dv:=if C.tamB i bs.length=true then C.setWs (fW Wd.tam C.ws i.toNat bs) else C
theorem Dv.setWs_ok{C:Dv}{ws:List Wd}(h:C.Ok)(hn:ws.length=C.ws.length)(hok:∀ w∈ws,w.Ok):(C.setWs ws).Ok:=⟨by show ws.length<=_;rw [hn];exact h.n,hok,h.f0,h.f1,h.a⟩
theorem aHq(ws:List Wd)(i:Nat)(bs:LB):(qU ws i bs).length=ws.length:=by
 unfold qU;split
 ·rfl
 rw [oD,jJ]
theorem aF2(h:Wd->Wd)(ws:List Wd):iX h 0 ws.length ws=ws.map h:=by
 apply cM;intro i;simp only [iX,fD,aL];cases hw:ws[i]? with
 | none=>rfl
 | some w=>
  have:=(aD.1 hw).1
  simp only [Option.map_some];rw [if_pos oQ]
theorem aFH(q:LB)(C:Dv):(C.crash q).ws.length=C.ws.length:=by unfold Dv.crash;cases C.down <;> simp [uD]
theorem qR(C:Dv)(a:Int×Int×Int):(C.act a).ws.length=C.ws.length:=by
 unfold Dv.act Dv.push;split
 ·split
  ·rw [aFH]
  split <;> rfl
 split <;> rfl
theorem rQ{C:Dv}{x n:Int}(h:C.rdy x n=0):C.down=false/\0<=x/\0<=n/\n<=C.len/\x<=C.len-n:=by
 unfold Dv.rdy at h;split at h
 ·cases h
 rename_i hd;split at h
 ·cases h
 exact⟨by simpa using hd,oQ,oQ,oQ,oQ⟩
section
attribute [local irreducible] SW SL SQ SH SA SS Pu Fin bS aN
theorem aM5{p:Nat}{C:Dv}{H:Hp}(hD:eX p C H)(x:Int)(v:Value)(bs:LB)(hbs:bs.length<=1048576):Tri prog 234 [.pointer (some ⟨p,0,none⟩),.int .i64 x,v] H (fun w=>Rd (H.map Prod.fst) w 1 v (bs.map bv)) (fun v' H'=>v'=.int .i64 (C.actR x bs.length)/\eX p (C.store x bs) H'):=by
 have hr:=aAy hD x bs.length;have ha:=aHD hD (1,x,bs.length);refine Tri.mt func234 ntmps234 fun w hw=>?_;obtain⟨aa,len,cap,rfl,hlen,hcap,hrd⟩:=hw.get;rw [aC,Nat.mul_one] at hlen;subst hlen;refine W.k ?_;refine W.cq hr ?_;by_cases h0:C.rdy x bs.length=0
 ·obtain⟨hdn,hx0,-,hn,hxn⟩:=rQ h0;rw [h0];refine W.k ?_;refine aF ha ?_;rintro _ H1 ⟨rfl,hD1⟩;by_cases h1:C.actE=0
  ·rw [h1];refine W.j ?_;have hwl:(C.act (1,x,bs.length)).ws.length=C.ws.length:=qR _ _;have hres:C.store x bs=(C.act (1,x,bs.length)).setWs (qU (C.act (1,x,bs.length)).ws x.toNat bs):=by unfold Dv.store;rw [if_pos h0,if_pos h1]
   have hresE:C.actR x bs.length=0:=by unfold Dv.actR;rw [if_pos h0,h1]
   rw [hres,hresE];have hlen:C.len=8*C.ws.length:=rfl;generalize C.act (1,x,bs.length)=E at hD1 hwl |-;obtain⟨i,rfl⟩:∃ i:Nat,x=i:=⟨x.toNat,oQ⟩;rw [aS];have hN:=hD1.1.n;obtain⟨hO,bw,vp,va,Hq,Ha,h2,h3,rfl⟩:=hD1;refine SW.cut [0,1,2] [bw] (fun _:Unit=>[]) (fun _=>[(bw,cl ((fW Wd.put E.ws i bs).flatMap wc) 175)]) NT ?_ ?_
   ·refine W.k ?_;refine cI [0,1,2,28,29] [bw] (fun k:Nat=>[(30,.int .i64 k)]) (fun k=>[(bw,cl ((fW Wd.put E.ws i (bs.take k)).flatMap wc) 175)]) (fun k=>bs.length-k) (fun k=>k<=bs.length) 0 (Nat.zero_le _) ?_;intro k hk;have hok:=sD (fun j c w=>Wd.put_ok j c) (bs.take k) E.ws i hO.ok;have hml:=jJ Wd.put (bs.take k) E.ws i;by_cases hkl:k<bs.length
    ·obtain⟨b,o,l,T,fz,rfl,hb,hbk,hys⟩:=hrd oQ;obtain⟨c,hc⟩:∃ c,bs[k]?=some c:=⟨_,aA hkl⟩;have hlc:l[o+k]?=some (bv c):=aAJ hys (by simp [hc]);have hm:(i+k)/8<(fW Wd.put E.ws i (bs.take k)).length:=oQ;obtain⟨u,hu⟩:∃ u,(fW Wd.put E.ws i (bs.take k))[(i+k)/8]?=some u:=⟨_,aA hm⟩;have hj:(i+k)%8<8:=Nat.mod_lt _ dQ;have hset:=aHv hok (v:=bv c) hu (j:=8+(i+k)%8) oQ (aE7 (hok u (aP hu)).1 hj c).1;have hlt:(i+k)/8*18+8+(i+k)%8<((fW Wd.put E.ws i (bs.take k)).flatMap wc).length:=by rw [aHu hok];omega
     refine W.k ?_;rw [lQ,hset,<-pI (Wd.put ((i+k)%8) c) hu];have hsn:(fW Wd.put E.ws i (bs.take k)).modify ((i+k)/8) (Wd.put ((i+k)%8) c)=fW Wd.put E.ws i (bs.take (k+1)):=by rw [aY,hc,dI,rC,aH,cO hk];rfl
     rw [hsn];refine aN.mk (k+1) ?_;omega
    have:k=bs.length:=oQ;subst this;rw [bO];refine W.k ?_;refine bS.mk () ?_;trivial
   intro _ _;have hD2:eX p (E.setWs (fW Wd.put E.ws i bs)) ((p,cl [.slice (some ⟨bw,0,none⟩) E.ws.length E.ws.length,.bool E.down,.int .i64 E.fuse,vp,va] 129)::(bw,cl ((fW Wd.put E.ws i bs).flatMap wc) 175)::(Hq++Ha)):=
    ⟨Dv.setWs_ok hO (jJ _ _ _ _) (sD (fun j c w=>Wd.put_ok j c) bs E.ws i hO.ok),bw,vp,va,Hq,Ha,h2,h3,by simp [Dv.setWs,jJ]⟩
   by_cases hz:bs.length=0
   ·refine W.k ?_;refine Fin.perm (List.Perm.swap _ _ _) (F.f1 ?_);have:bs=[]:=bI hz;subst this;exact⟨rfl,by simpa [qU,fW] using hD2⟩
   have he:=aCq aLs (fun w=>Wd.stored_ok) hD2 (i/8) ((i+bs.length-1)/8+1) oQ (by show _<=(fW Wd.put E.ws i bs).length;rw [jJ];omega);refine W.k ?_;refine eC he ?_ ?_
   ·simp;omega
   rintro _ H3 ⟨rfl,hD3⟩;refine W.k ?_;refine F.f1 ?_;refine⟨rfl,?_⟩;have:qU E.ws i bs=iX Wd.stored (i/8) ((i+bs.length-1)/8+1) (fW Wd.put E.ws i bs):=by unfold qU;rw [if_neg hz]
   rw [this];simp only [aG];exact hD3
  refine W.k ?_;refine F.f1 ?_;rw [aG];have hres:C.store x bs=C.act (1,x,bs.length):=by unfold Dv.store;rw [if_pos h0,if_neg h1]
  have hresE:C.actR x bs.length=C.actE:=by unfold Dv.actR;rw [if_pos h0]
  rw [hres,hresE];exact⟨rfl,hD1⟩
 refine W.k ?_;refine F.f1 ?_;rw [aG];have hres:C.store x bs=C:=by unfold Dv.store;rw [if_neg h0]
 have hresE:C.actR x bs.length=C.rdy x bs.length:=by unfold Dv.actR;rw [if_neg h0]
 rw [hres,hresE];exact⟨rfl,hD⟩
theorem aMh{p:Nat}{C:Dv}{H:Hp}(hD:eX p C H)(h8:C.ws.length%8=0)(x n:Int):Tri prog 235 [.pointer (some ⟨p,0,none⟩),.int .i64 x,.int .i64 n] H NT (fun v' H'=>v'=.int .i64 (C.actR x n)/\eX p (C.flush x n) H'):=by
 have hr:=aAy hD x n;have ha:=aHD hD (2,x,n);refine Tri.mt func235 ntmps235 fun w hw=>?_;refine W.k ?_;refine W.cq hr ?_;by_cases h0:C.rdy x n=0
 ·obtain⟨hdn,hx0,hn0,hn,hxn⟩:=rQ h0;rw [h0];refine W.k ?_;refine aF ha ?_;rintro _ H1 ⟨rfl,hD1⟩;have hwl:(C.act (2,x,n)).ws.length=C.ws.length:=qR _ _;by_cases h1:C.actE=0
  ·rw [h1];have hres:C.flush x n=(C.act (2,x,n)).setWs (kW (C.act (2,x,n)).ws x.toNat n.toNat):=by unfold Dv.flush;rw [if_pos h0,if_pos h1]
   have hresE:C.actR x n=0:=by unfold Dv.actR;rw [if_pos h0,h1]
   rw [hres,hresE];have hlen:C.len=8*C.ws.length:=rfl;have hN:=hD1.1.n;generalize C.act (2,x,n)=E at hD1 hwl hN |-;obtain⟨i,rfl⟩:∃ i:Nat,x=i:=⟨x.toNat,oQ⟩;obtain⟨m,rfl⟩:∃ m:Nat,n=m:=⟨n.toNat,oQ⟩;rw [aS,aS];by_cases hz:m=0
   ·refine W.k ?_;refine F.f1 ?_;subst hz;refine⟨rfl,?_⟩;simp only [aG];exact hD1
   have he:=aCq aIP (fun w=>Wd.flushed_ok) hD1 (i/64*8) (((i+m-1)/64+1)*8) oQ oQ;refine W.k ?_;refine eC he ?_ ?_
   ·simp;omega
   rintro _ H3 ⟨rfl,hD3⟩;refine W.k ?_;refine F.f1 ?_;refine⟨rfl,?_⟩;unfold kW;rw [if_neg hz];simp only [aG];exact hD3
  refine W.k ?_;refine F.f1 ?_;have hres:C.flush x n=C.act (2,x,n):=by unfold Dv.flush;rw [if_pos h0,if_neg h1]
  have hresE:C.actR x n=C.actE:=by unfold Dv.actR;rw [if_pos h0]
  rw [hres,hresE];refine⟨rfl,?_⟩;simp only [aG];exact hD1
 refine W.k ?_;refine F.f1 ?_;have hres:C.flush x n=C:=by unfold Dv.flush;rw [if_neg h0]
 have hresE:C.actR x n=C.rdy x n:=by unfold Dv.actR;rw [if_neg h0]
 rw [hres,hresE];refine⟨rfl,?_⟩;simp only [aG];exact hD
theorem aBS{p:Nat}{C:Dv}{H:Hp}(hD:eX p C H):Tri prog 146 [.pointer (some ⟨p,0,none⟩)] H NT (fun v' H'=>v'=.int .i64 (C.actR 0 0)/\eX p C.fence H'):=by
 have hr:=aAy hD 0 0;have ha:=aHD hD (3,0,0);refine Tri.mt func146 ntmps146 fun w hw=>?_;refine W.k ?_;refine W.cq hr ?_;by_cases h0:C.rdy 0 0=0
 ·rw [h0];refine W.k ?_;refine aF ha ?_;rintro _ H1 ⟨rfl,hD1⟩;by_cases h1:C.actE=0
  ·rw [h1];have hres:C.fence=(C.act (3,0,0)).setWs ((C.act (3,0,0)).ws.map Wd.fenced):=by unfold Dv.fence;rw [if_pos h0,if_pos h1]
   have hresE:C.actR 0 0=0:=by unfold Dv.actR;rw [if_pos h0,h1]
   rw [hres,hresE];generalize C.act (3,0,0)=E at hD1 |-;have he:=aCq aKh (fun w=>Wd.fenced_ok) hD1 0 E.ws.length (Nat.zero_le _) (Nat.le_refl _);have hat:∃ bw x1 x2 x3 x4,At H1 p (cl [.slice (some ⟨bw,0,none⟩) E.ws.length E.ws.length,x1,x2,x3,x4] 129):=by obtain⟨hO,bw,vp,va,Hq,Ha,h2,h3,rfl⟩:=hD1;exact⟨bw,_,_,_,_,inferInstance⟩
   obtain⟨bw,x1,x2,x3,x4,hat⟩:=hat;refine W.k ?_;refine aF he ?_;rintro _ H3 ⟨rfl,hD3⟩;refine W.k ?_;refine F.f1 ?_;refine⟨rfl,?_⟩;rw [aF2] at hD3;simp only [aG];exact hD3
  refine W.k ?_;refine F.f1 ?_;have hres:C.fence=C.act (3,0,0):=by unfold Dv.fence;rw [if_pos h0,if_neg h1]
  have hresE:C.actR 0 0=C.actE:=by unfold Dv.actR;rw [if_pos h0]
  rw [hres,hresE];refine⟨rfl,?_⟩;simp only [aG];exact hD1
 refine W.k ?_;refine F.f1 ?_;have hres:C.fence=C:=by unfold Dv.fence;rw [if_neg h0]
 have hresE:C.actR 0 0=C.rdy 0 0:=by unfold Dv.actR;rw [if_neg h0]
 rw [hres,hresE];refine⟨rfl,?_⟩;simp only [aG];exact hD
theorem aAZ(A:LV)(m:Nat)(z v:Value):(A++List.replicate (m+1) z).set A.length v=A++[v]++List.replicate m z:=by rw [bY _ _ (Nat.le_refl _),dO,fI,fR];simp
def Dv.loadB(C:Dv)(i n:Int):LB:=if C.rdy i n=0 then ((lP C.ws).drop i.toNat).take n.toNat else []
theorem aG9{p:Nat}{C:Dv}{H:Hp}(hD:eX p C H)(x n:Int):Tri prog 107 [.pointer (some ⟨p,0,none⟩),.int .i64 x,.int .i64 n] H NT (fun v' H'=>∃ sv Hs,v'=.tuple #[sv,.int .i64 (C.rdy x n)]/\Sl 5 1 sv ((C.loadB x n).map bv) Hs/\H'=Hs++H):=by
 have hr:=aAy hD x n;refine Tri.mt func107 ntmps107 fun w hw=>?_;refine W.k ?_;refine W.cq hr ?_;by_cases h0:C.rdy x n=0
 ·obtain⟨hdn,hx0,hn0,hn,hxn⟩:=rQ h0;have hb:C.loadB x n=((lP C.ws).drop x.toNat).take n.toNat:=by unfold Dv.loadB;rw [if_pos h0]
  rw [h0,hb];have hlen:C.len=8*C.ws.length:=rfl;obtain⟨i,rfl⟩:∃ i:Nat,x=i:=⟨x.toNat,oQ⟩;obtain⟨m,rfl⟩:∃ m:Nat,n=m:=⟨n.toNat,oQ⟩;rw [aS,aS];have hN:=hD.1.n;obtain⟨hO,bw,vp,va,Hq,Ha,h2,h3,rfl⟩:=hD;have hnl:=rM hO.ok;refine W.k fun b_=>?_;refine cI [0,1,9,21] [b_] (fun k:Nat=>[(22,.int .i64 k)]) (fun k=>[(b_,cl ((((lP C.ws).drop i).take k).map bv++List.replicate (m-k) (.int .u8 0)) 5)]) (fun k=>m-k) (fun k=>k<=m) 0 (Nat.zero_le _) ?_ (by simp [lJ]);intro k hk;by_cases hkl:k<m
  ·obtain⟨u,hu⟩:∃ u,C.ws[(i+k)/8]?=some u:=⟨_,aA oQ⟩;have hj:(i+k)%8<8:=Nat.mod_lt _ dQ;have hul:=(hO.ok u (aP hu)).1;obtain⟨c,hc⟩:∃ c,u.now[(i+k)%8]?=some c:=⟨_,aA (by rw [hul.2];exact hj)⟩;have hg:(C.ws.flatMap wc)[(i+k)/8*18+8+(i+k)%8]?=some (bv c):=by rw [lQ,aPp hO.ok hu oQ,(aM9 hul hj).1,hc];rfl
   have hnb:(lP C.ws)[i+k]?=some c:=by rw [aKC hO.ok hu,hc]
   have hAl:((((lP C.ws).drop i).take k).map bv).length=k:=by simp;omega
   have hst:k<(((((lP C.ws).drop i).take k).map bv)++List.replicate (m-k) (Value.int .u8 0)).length:=by rw [aB,hAl];simp;omega
   refine W.k ?_;have hf:=aAZ ((((lP C.ws).drop i).take k).map bv) (m-(k+1)) (.int .u8 0) (bv c);rw [hAl,show m-(k+1)+1=m-k by omega] at hf;have hf2:(((lP C.ws).drop i).take k).map bv++[bv c]=(((lP C.ws).drop i).take (k+1)).map bv:=by rw [aY,bH,hnb];simp
   rw [hf,hf2];refine aN.mk (k+1) ?_;omega
  have:k=m:=oQ;subst this;refine W.k ?_;refine F.f2 ?_;refine⟨_,[(b_,cl ((((lP C.ws).drop i).take k).map bv) 5)],rfl,  .inr ⟨b_,k,k,[],rfl,by simp;omega,by simp,Nat.le_refl _,by simp⟩,?_⟩;simp
 have hb:C.loadB x n=[]:=by unfold Dv.loadB;rw [if_neg h0]
 refine W.k ?_;refine F.f2 ?_;refine⟨_,[],rfl,?_,by simp⟩;rw [hb];exact Sl.nil _ _
end
theorem aC9(C:Dv)(x:Int)(bs:LB):(C.store x bs).ws.length=C.ws.length:=by
 unfold Dv.store;split
 ·split
  ·show (qU _ _ _).length=_;rw [aHq,qR]
  exact qR _ _
 rfl
theorem aFP(C:Dv)(x n:Int):(C.flush x n).ws.length=C.ws.length:=by
 unfold Dv.flush;split
 ·split
  ·show (kW _ _ _).length=_;unfold kW;split
   ·exact qR _ _
   rw [oD,qR]
  exact qR _ _
 rfl
theorem wB(C:Dv):C.fence.ws.length=C.ws.length:=by
 unfold Dv.fence;split
 ·split
  ·show (List.map _ _).length=_;rw [aC,qR]
  exact qR _ _
 rfl
theorem aKd(C:Dv):C.doo.ws.length=C.ws.length:=by
 unfold Dv.doo;split
 ·rfl
 exact qR _ _
theorem aPl(C:Dv)(x:Int)(bs:LB):(C.tam x bs).ws.length=C.ws.length:=by
 unfold Dv.tam;split
 ·exact jJ _ _ _ _
 rfl
end Go.Proofs.YtdfclocfackkmaaGreat
