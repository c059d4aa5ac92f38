/- A store that is opened: the program's. -/
import Derived.Test.YtnigolgkkjidiaaGreatPm33
import Derived.Test.YtnigolgkkjidiaaGreatPm10
import Derived.Test.YtnigolgkkjidiaaGreatPm36
set_option linter.unusedVariables false
set_option linter.unusedSimpArgs false
set_option linter.unusedSectionVars false
set_option maxHeartbeats 1000000
namespace Go.Proofs.YtnigolgkkjidiaaGreat
open Go
attribute [local irreducible] SW SL SQ SH SA SS Pu Fin CutF HandF
theorem allS_p{J:Nat→Hp→Prop}{E:Int→Hp→Prop}{v:Value}{Hs:Hp}(fs:List Value)(hS:Sl 146 1 v fs Hs)(hn:fs.length≤1000)(hfs:∀ i v,fs[i]?=some v→StepF Tryz.prog v (J i) (J (i+1)) E){H0:Hp}(h0:J 0 H0) :
  Tri Tryz.prog 55 [v] (Hs++H0) (fun _=>True)
  (fun r H=>∃ H',H=Hs++H'∧((r=.int .i64 0∧J fs.length H')∨∃ e:Int,e≠0∧r=.int .i64 e∧E e H')):=by
 have hv1:=hS.isOne
 rcases hS with ⟨rfl,rfl,rfl⟩|⟨sb,len,cap,junk,rfl,hxl,hj,hlc,rfl⟩
 ·refine Tri.mk Tryz.func55 rfl Tryz.ntmps55 rfl fun w hw=>?_
  repeat' (first|(refine W.go ?_;try intro b_)|fail)
  refine SW.loopF [6,7] (fun k:Nat=>[(8,.int .i64 (k:Int))]) (fun _=>[]) (fun k=>0-k) (fun k=>k=0) 0 rfl ?_
  rintro k rfl
  repeat' (first|(refine W.go ?_;try intro b_)|fail)
  refine Fin.to ([]++H0) ?_
  exact F.f1 ⟨H0,rfl,.inl ⟨rfl,h0⟩⟩
 obtain rfl:len=fs.length:=by omega
 refine Tri.mk Tryz.func55 rfl Tryz.ntmps55 rfl fun w hw=>?_
 repeat' (first|(refine W.go ?_;try intro b_)|fail)
 refine SW.loopF [6,7] (fun x:Nat×Hp=>[(8,.int .i64 (x.1:Int))]) (fun x=>(sb,cl (fs++junk) 146)::x.2) (fun x=>fs.length-x.1) (fun x=>x.1≤fs.length∧J x.1 x.2) (0,H0) ⟨Nat.zero_le _,h0⟩ ?_
 rintro⟨k,Hk⟩ ⟨hk,hJ⟩
 dsimp only at hk hJ ⊢
 by_cases h:k<fs.length
 ·have hv:=List.getElem?_eq_getElem h
  obtain⟨f,us,cs,hfv,iF,hT⟩:=hfs k _ hv
  have hv2:(fs++junk)[k]?=some fs[k]:=by rw [List.getElem?_append_left h];exact hv
  rw [hfv] at hv2
  clear hfv hv
  have hT2:=hT Hk hJ
  repeat' (first|(refine W.go ?_;try intro b_)|fail)
  refine SL.callv Hk rfl rfl rfl rfl rfl rfl hT2 (fun _ _=>trivial) ?_
  rintro _ H2 (⟨rfl,hJ2⟩|⟨e,he,rfl,hE⟩)
  ·repeat' (first|(refine W.go ?_;try intro b_)|fail)
   refine HandF.mk (k+1,H2) ?_
   exact⟨h,hJ2⟩
  ·repeat' (first|(refine W.go ?_;try intro b_)|fail)
   refine Fin.to ([(sb,cl (fs++junk) 146)]++H2) ?_
   exact F.f1 ⟨H2,rfl,.inr ⟨e,he,rfl,hE⟩⟩
 ·have:k=fs.length:=by omega
  subst this
  repeat' (first|(refine W.go ?_;try intro b_)|fail)
  refine Fin.to ([(sb,cl (fs++junk) 146)]++Hk) ?_
  exact F.f1 ⟨Hk,rfl,.inl ⟨rfl,hJ⟩⟩
theorem cloneU_p(es:List UInt64)(h1:1≤es.length)(hn:es.length≤1000000)(v:Value):Tri Tryz.prog 128 [v] [] (fun w=>Rd [] w 1 v (uv es)) (fun o H=>Sl 28 1 o (uv es) H):=by
 refine Tri.mk Tryz.func128 rfl Tryz.ntmps128 rfl fun w hw=>?_
 have hw2:=hw
 obtain⟨a,la,ca,rfl,hl1,hc1,hr1⟩:=hw.get
 rw [Nat.mul_one,uv_len] at hl1
 subst hl1
 obtain⟨b,o,l,T,fz,rfl,-⟩:=hr1 (by omega)
 repeat' (first|(refine W.go ?_;try intro b_)|fail)
 refine W.ap (ys:=uv es) (mm:=es.length) (Sl.own 28 1 b_ (len:=0) (xs:=[]) rfl) (fun w2 hs=>hw2.srcAt hs) (fun v1 H1 hv1=>?_) (hys:=by rw [uv_len,Nat.mul_one]) (hbytes:=by rw [uv_len];simp;omega)
 have h11:=hv1.isOne
 rw [List.nil_append] at hv1
 repeat' (first|(refine W.go ?_;try intro b_)|fail)
 refine Fin.to H1 ?_
 exact F.f1 hv1
theorem stNew_p{d tr s bk p t:Nat}(h:Gm.Ok p t){σ:Dv}{Hd Ht:Hp}(hD:DevP d σ Hd)(hlen:σ.len=256*Gm.total p t)(es:List UInt64)(hes:es.length=Gm.sealed p)(ev:Value){l:List (List UInt8)}{tp:Nat}(hT:TreeV tp bk l Ht)(hl:l.length=Gm.leaves p)(h32:D32 l)(wr:Bool) :
  Tri Tryz.prog 56 [baseV d tr s bk p t,ev,ptv tp,.bool wr] (Hd++Ht) (fun w=>Rd ((Hd++Ht).map Prod.fst) w 1 ev (uv es))
  (fun v H=>∃ sp Hn,v=.tuple #[ptv sp,.int .i64 0]∧StoreP sp d tr s bk p t ⟨es,l,wr,0⟩ Hn∧H=Hn++(Hd++Ht)):=by
 refine Tri.mk Tryz.func56 rfl Tryz.ntmps56 rfl fun w hw=>?_
 have hw2:=hw
 obtain⟨a,la,ca,rfl,hl1,hc1,-⟩:=hw.get
 rw [Nat.mul_one,uv_len] at hl1
 subst hl1
 have hY:One (Value.slice a es.length ca):=⟨rfl⟩
 have hck:=gcheck_p h
 have hln:=len_p hD
 have htt:=gtotal_p h
 have htl:=Gm.total_le2 h
 have hse:=gsealedN_p h
 have hsl:=Gm.sealed_le h
 have hs1:1≤Gm.sealed p:=by unfold Gm.sealed;omega
 have hlv:=gleaves_p h
 have hll:=Gm.leaves_le h
 have hlp:1≤Gm.leaves p:=by unfold Gm.leaves;omega
 have hby:=gbytes_p (k:=Gm.total p t) (by omega)
 have htn:=Len_p hT
 have hcp:=Copy_p hT h32 (by omega) (by omega)
 have hcu:=cloneU_p es (by omega) (by omega) (.slice a es.length ca)
 rw [hlen] at hln
 rw [hl] at htn
 rw [← hes] at hse
 generalize Gm.total p t=m at *
 generalize Gm.leaves p=n at *
 repeat' (first|(refine W.go ?_;try intro b_)|fail)
 (refine SW.rg [] [0,1] ?_;(repeat' (first|refine SG.g ?_|fail));refine SS.effK 2 ?_ rfl (by kernel_rfl))
 refine W.call hck ?_
 rintro _ _ ⟨rfl,rfl⟩
 (refine SL.nilG [3,4,5,6,8,9] ?_;(repeat' (first|refine SG.g ?_|fail));(first|refine SS.sk 7 rfl ?_;(first|refine SS.sk 10 rfl ?_;(first|refine SS.sk 11 rfl ?_;refine SG.on [12,13,14,15] ?_;(repeat' (first|refine SG.g ?_|fail))|refine SS.effK 11 ?_ rfl (by kernel_rfl))|refine SS.effK 10 ?_ rfl (by kernel_rfl))|refine SS.effK 7 ?_ rfl (by kernel_rfl)))
 refine W.call hln ?_
 rintro _ Hd ⟨rfl,rfl⟩
 (refine SL.nilG [] ?_;(first|refine SS.sk 10 rfl ?_;(first|refine SS.sk 11 rfl ?_;refine SG.on [12,13,14,15] ?_;(repeat' (first|refine SG.g ?_|fail))|refine SS.effK 11 ?_ rfl (by kernel_rfl))|refine SS.effK 10 ?_ rfl (by kernel_rfl)))
 refine W.call htt ?_
 rintro _ _ ⟨rfl,rfl⟩
 (refine SL.nilG [] ?_;(first|refine SS.sk 11 rfl ?_;refine SG.on [12,13,14,15] ?_;(repeat' (first|refine SG.g ?_|fail))|refine SS.effK 11 ?_ rfl (by kernel_rfl)))
 refine W.call hby ?_
 rintro _ _ ⟨rfl,rfl⟩
 (refine SL.nilG [12,13,14,15] ?_;(repeat' (first|refine SG.g ?_|fail)))
 repeat' (first|(refine W.go ?_;try intro b_)|fail)
 (refine SW.rg [] [0,1,2,3] ?_;(repeat' (first|refine SG.g ?_|fail));refine SS.effK 4 ?_ rfl (by kernel_rfl))
 refine W.call hse ?_
 rintro _ _ ⟨rfl,rfl⟩
 (refine SL.nilG [5,6,7,9,10] ?_;(repeat' (first|refine SG.g ?_|fail));(first|refine SS.sk 8 rfl ?_;(first|refine SS.sk 11 rfl ?_;refine SG.on [12,13,14,15] ?_;(repeat' (first|refine SG.g ?_|fail))|refine SS.effK 11 ?_ rfl (by kernel_rfl))|refine SS.effK 8 ?_ rfl (by kernel_rfl)))
 refine W.call htn ?_
 rintro _ Ht ⟨rfl,rfl⟩
 (refine SL.nilG [] ?_;(first|refine SS.sk 11 rfl ?_;refine SG.on [12,13,14,15] ?_;(repeat' (first|refine SG.g ?_|fail))|refine SS.effK 11 ?_ rfl (by kernel_rfl)))
 refine W.call hlv ?_
 rintro _ _ ⟨rfl,rfl⟩
 (refine SL.nilG [12,13,14,15] ?_;(repeat' (first|refine SG.g ?_|fail)))
 repeat' (first|(refine W.go ?_;try intro b_)|fail)
 (refine SW.rg [] [0,1,3,5] ?_;(repeat' (first|refine SG.g ?_|fail));refine SS.effK 2 ?_ rfl (by kernel_rfl))
 refine W.call hcu ?_ (hpre:=fun w2 hs=>hw2.ro (Hc:=[]) hs)
 intro v1 H1 h1
 have h11:=h1.isOne
 obtain⟨a1,l1,c1,rfl,-⟩:=h1.form
 (refine SL.nilG [] ?_;refine SS.effK 4 ?_ rfl (by kernel_rfl))
 refine W.call hcp ?_
 rintro _ _ ⟨c,Hc,rfl,rfl,hTc⟩
 have hbf:bfill (fun i=>[(0,6),(6,1),(7,1),(8,1),(9,1)][i]?) (List.replicate 4 (.pointer none)++[.int .i64 0,.int .i64 0]++[.slice none 0 0]++[.pointer none]++[.bool false]++[.int .i64 0]) [(0,baseV d tr s bk p t),(1,.slice a1 l1 c1),(2,ptv c),(3,.bool wr)]=some [ptv d,ptv tr,ptv s,ptv bk,.int .i64 (p:Int),.int .i64 (t:Int),.slice a1 l1 c1,ptv c,.bool wr,.int .i64 0]:=rfl
 (refine SL.nilG [6] ?_;(repeat' (first|refine SG.g ?_|fail));refine SS.effK 7 ?_ rfl (by kernel_rfl);(repeat' (first|(refine W.g1 ?_;try intro b_)|fail));refine SG.on [8,9,10] ?_;(repeat' (first|refine SG.g ?_|fail)))
 repeat' (first|(refine W.go ?_;try intro b_)|fail)
 refine Fin.to (((b_,cl [ptv d,ptv tr,ptv s,ptv bk,.int .i64 (p:Int),.int .i64 (t:Int),.slice a1 l1 c1,ptv c,.bool wr,.int .i64 0] 169)::(H1++Hc))++(Hd++Ht)) ?_
 exact F.f2 ⟨b_,_,rfl,⟨_,c,H1,Hc,rfl,h1,hTc⟩,rfl⟩
def opnS(p t:Nat)(w:Bool)(l:List (List UInt8)):TS:=(wholeS p t l).t.and (if w=true then bumpS else fun σ=>(0,σ))
def openO(p t:Nat)(w:Bool)(σ:Dv)(r:Rg):Option So:=if (openS p t w (σ,r)).1=0 then some ⟨epsB p (lookB p t σ r).2,sumsB (lookB p t σ r).2,w,0⟩ else none
def openK(p t:Nat)(w:Bool)(σ:Dv)(r:Rg)(β:Bk):Bk:=
 if w=true∧r.c=18446744073709551615 then β else if σ.down=true then β else lookK p t r (σ.blks 0 (Gm.leaves p)) (σ.blks (Gm.leaves p) (1+t)) β
theorem look_ok{p t:Nat}{σ:Dv}{r:Rg}(hok:σ.Ok)(hd:σ.down=false)(hl:σ.len=256*Gm.total p t):(lookB p t σ r).2.length=Gm.leaves p∧∀ b∈(lookB p t σ r).2,b.length=256:=by
 have htot:Gm.total p t=Gm.leaves p+(1+t):=rfl
 have h1:=blks_256 (a:=0) (n:=Gm.leaves p) hok hd hl (by omega)
 have h2:=σ.blks_len 0 (Gm.leaves p)
 unfold lookB
 generalize σ.blks 0 (Gm.leaves p)=l at *
 generalize σ.blks (Gm.leaves p) (1+t)=logs
 by_cases hf:fitsB p t r.root l=true
 ·rw [foundB_fit hf];exact⟨h2,h1⟩
 ·cases hlr:logR p t r logs with
  | none=>rw [foundB_none hf hlr];exact⟨h2,h1⟩
  | some x=>
   rw [foundB_some hf hlr]
   split
   ·exact⟨by rw [redoB_len];exact h2,redoB_256 (logR_may hlr) h1⟩
   ·exact⟨h2,h1⟩
section
variable (d tr fp p t:Nat)(F0:List Value)(l:List (List UInt8))(σ:Dv)(r:Rg)(Hb:Hp)
abbrev opH(r':Rg)(Hd:Hp):Hp:=(fp,cl F0 145)::(tr,cl (trc d r') 225)::(Hd++Hb)
def opJ(i:Nat)(H:Hp):Prop:=∃ (σ':Dv) (r':Rg) (Hd':Hp),DevP d σ' Hd'∧H.Perm (opH d tr fp F0 Hb r' Hd') ∧
 match i with
 | 0=>σ'=σ∧r'=r
 | 1=>wholeD l σ=(0,σ')∧r'=r
 | 2=>wholeS p t l σ=(0,σ')∧r'=r
 | _=>opnS p t true l (σ,r)=(0,(σ',r'))
def opE(w:Bool)(e:Int)(H:Hp):Prop:=∃ (σ':Dv) (r':Rg) (Hd':Hp),DevP d σ' Hd'∧H.Perm (opH d tr fp F0 Hb r' Hd')∧opnS p t w l (σ,r)=(e,(σ',r'))
end
section
variable {d tr s bk fp p t:Nat}{kind cnt:Int}{bv lv Lv ev tv:Value}{l:List (List UInt8)}{σ:Dv}{r:Rg}{Hb:Hp}
theorem op0(hB:Bls bv l Hb)(o1:One lv)(o2:One Lv)(o3:One ev)(o4:One tv)(w:Bool)(h8:σ.ws.length%8=0)(hn:l.length≤1000)(hb:∀ b∈l,b.length=256):StepF Tryz.prog (.func (.func 52) [ptv fp].toArray [].toArray) (opJ d tr fp p t (foundC d tr s bk p t kind bv lv cnt Lv ev tv) l σ r Hb 0) (opJ d tr fp p t (foundC d tr s bk p t kind bv lv cnt Lv ev tv) l σ r Hb 1) (opE d tr fp p t (foundC d tr s bk p t kind bv lv cnt Lv ev tv) l σ r Hb w):=by
 refine⟨_,[ptv fp],[],rfl,inferInstance,fun Hc hJ=>?_⟩
 obtain⟨σ',r',Hd,hD,hp,rfl,rfl⟩:=hJ
 refine ((Tri.perm hp ((whole_p (fp:=fp) (d:=d) (tr:=tr) (s:=s) (bk:=bk) (p:=p) (t:=t) (kind:=kind) (cnt:=cnt) hD h8 hB o1 o2 o3 o4 hn hb).frame (r:=[(tr,cl (trc d r') 225)]) perm_of (fun _ _ _=>trivial)))).mono ?_
 rintro v H ⟨H1,rfl,rfl,Hd',hD',rfl⟩
 by_cases h0:(wholeD l σ').1=0
 ·exact .inl ⟨by rw [h0],(wholeD l σ').2,r',Hd',hD',perm_of,pair0 h0,rfl⟩
 ·have e1:(wholeS p t l).t (σ',r')=((wholeD l σ').1,(wholeD l σ').2,r'):=by
   show (((wholeD l).and _ σ').1,((wholeD l).and _ σ').2,r')=_
   rw [DS.and_ne h0]
  refine .inr ⟨_,h0,rfl,(wholeD l σ').2,r',Hd',hD',perm_of,?_⟩
  unfold opnS
  rw [TS.and_ne (by rw [e1];exact h0)]
  exact e1
theorem op1(h:Gm.Ok p t)(hB:Bls bv l Hb)(o1:One lv)(o2:One Lv)(o3:One ev)(o4:One tv)(w:Bool)(h8:σ.ws.length%8=0):StepF Tryz.prog (.func (.func 53) [ptv fp].toArray [].toArray) (opJ d tr fp p t (foundC d tr s bk p t kind bv lv cnt Lv ev tv) l σ r Hb 1) (opJ d tr fp p t (foundC d tr s bk p t kind bv lv cnt Lv ev tv) l σ r Hb 2) (opE d tr fp p t (foundC d tr s bk p t kind bv lv cnt Lv ev tv) l σ r Hb w):=by
 refine⟨_,[ptv fp],[],rfl,inferInstance,fun Hc hJ=>?_⟩
 obtain⟨σ',r',Hd,hD,hp,hwd,rfl⟩:=hJ
 have hw2:=((putL_wl (rowL 0 l)).and feS_wl) σ
 rw [show ((putL (rowL 0 l)).and feS) σ=(0,σ') from hwd] at hw2
 dsimp only at hw2
 refine ((Tri.perm hp ((mscrub_p (fp:=fp) (d:=d) (tr:=tr) (s:=s) (bk:=bk) (kind:=kind) (cnt:=cnt) h hD (by rw [hw2];exact h8) hB.one o1 o2 o3 o4).frame (r:=(tr,cl (trc d r') 225)::Hb) perm_of (fun _ _ _=>trivial)))).mono ?_
 rintro v H ⟨H1,rfl,rfl,Hd',hD',rfl⟩
 have e0:wholeS p t l σ=scrubS (Gm.leaves p) (1+t) σ':=DS.and_eq hwd
 by_cases h0:(scrubS (Gm.leaves p) (1+t) σ').1=0
 ·exact .inl ⟨by rw [h0],(scrubS (Gm.leaves p) (1+t) σ').2,r',Hd',hD',perm_of,by rw [e0];exact pair0 h0,rfl⟩
 ·have e1:(wholeS p t l).t (σ,r')=((scrubS (Gm.leaves p) (1+t) σ').1,(scrubS (Gm.leaves p) (1+t) σ').2,r'):=by
   show ((wholeS p t l σ).1,(wholeS p t l σ).2,r')=_
   rw [e0]
  refine .inr ⟨_,h0,rfl,(scrubS (Gm.leaves p) (1+t) σ').2,r',Hd',hD',perm_of,?_⟩
  unfold opnS
  rw [TS.and_ne (by rw [e1];exact h0)]
  exact e1
theorem op2(hB:Bls bv l Hb)(o1:One lv)(o2:One Lv)(o3:One ev)(o4:One tv)(hr:r.Ok)(hlt:r.c<18446744073709551615):StepF Tryz.prog (.func (.func 54) [ptv fp].toArray [].toArray) (opJ d tr fp p t (foundC d tr s bk p t kind bv lv cnt Lv ev tv) l σ r Hb 2) (opJ d tr fp p t (foundC d tr s bk p t kind bv lv cnt Lv ev tv) l σ r Hb 3) (opE d tr fp p t (foundC d tr s bk p t kind bv lv cnt Lv ev tv) l σ r Hb true):=by
 refine⟨_,[ptv fp],[],rfl,inferInstance,fun Hc hJ=>?_⟩
 obtain⟨σ',r',Hd,hD,hp,hws,rfl⟩:=hJ
 refine ((Tri.perm hp ((bump_p (fp:=fp) (tr:=tr) (s:=s) (bk:=bk) (p:=p) (t:=t) (kind:=kind) (cnt:=cnt) hD hr hlt hB.one o1 o2 o3 o4).frame (r:=Hb) perm_of (fun _ _ _=>trivial)))).mono ?_
 rintro v H ⟨H1,rfl,rfl,Hd',hD',rfl⟩
 have e1:(wholeS p t l).t (σ,r')=(0,(σ',r')):=by
  show ((wholeS p t l σ).1,(wholeS p t l σ).2,r')=_
  rw [hws]
 have e2:opnS p t true l (σ,r')=bumpS (σ',r'):=by
  unfold opnS
  rw [TS.and_eq e1,if_pos rfl]
 by_cases h0:(bumpS (σ',r')).1=0
 ·exact .inl ⟨by rw [h0],(bumpS (σ',r')).2.1,(bumpS (σ',r')).2.2,Hd',hD',perm_of,by show opnS p t true l (σ,r')=_;rw [e2];exact pair0 h0⟩
 ·exact .inr ⟨_,h0,rfl,(bumpS (σ',r')).2.1,(bumpS (σ',r')).2.2,Hd',hD',perm_of,e2⟩
end
def opFs(fp:Nat)(w:Bool):List Value:=[.func (.func 52) #[ptv fp] #[],.func (.func 53) #[ptv fp] #[]]++if w=true then [.func (.func 54) #[ptv fp] #[]] else []
theorem opAll_p{d tr s bk fp p t:Nat}{kind cnt:Int}{bv lv Lv ev tv:Value}{l:List (List UInt8)}{σ:Dv}{r:Rg}{Hd Hb Hs:Hp}(h:Gm.Ok p t)(hD:DevP d σ Hd)(hB:Bls bv l Hb)(o1:One lv)(o2:One Lv)(o3:One ev)(o4:One tv)(w:Bool)(h8:σ.ws.length%8=0)(hn:l.length≤1000)(hb:∀ b∈l,b.length=256)(hr:r.Ok)(hlt:w=true→r.c<18446744073709551615){v:Value}(hS:Sl 146 1 v (opFs fp w) Hs) :
  Tri Tryz.prog 55 [v] (Hs++opH d tr fp (foundC d tr s bk p t kind bv lv cnt Lv ev tv) Hb r Hd) (fun _=>True)
  (fun v H=>∃ e σ' r' Hd',opnS p t w l (σ,r)=(e,(σ',r'))∧v=.int .i64 e∧DevP d σ' Hd'∧H=Hs++opH d tr fp (foundC d tr s bk p t kind bv lv cnt Lv ev tv) Hb r' Hd'):=by
 have hJ0:opJ d tr fp p t (foundC d tr s bk p t kind bv lv cnt Lv ev tv) l σ r Hb 0 (opH d tr fp (foundC d tr s bk p t kind bv lv cnt Lv ev tv) Hb r Hd):=⟨σ,r,Hd,hD,List.Perm.refl _,rfl,rfl⟩
 cases w with
 | false=>
  have hfs:∀ i v,(opFs fp false)[i]?=some v→StepF Tryz.prog v (opJ d tr fp p t (foundC d tr s bk p t kind bv lv cnt Lv ev tv) l σ r Hb i) (opJ d tr fp p t (foundC d tr s bk p t kind bv lv cnt Lv ev tv) l σ r Hb (i+1)) (opE d tr fp p t (foundC d tr s bk p t kind bv lv cnt Lv ev tv) l σ r Hb false):=fun i v hv=>by
   have hi:=(List.getElem?_eq_some_iff.1 hv).1
   have hi5:i<2:=hi
   rcases (by omega:i=0∨i=1) with rfl|rfl
   ·cases hv;exact op0 hB o1 o2 o3 o4 false h8 hn hb
   ·cases hv;exact op1 h hB o1 o2 o3 o4 false h8
  refine (allS_p (opFs fp false) hS (by show 2≤1000;decide) hfs hJ0).to ?_
  rintro v H ⟨H',rfl,⟨rfl,σ',r',Hd',hD',hp,hws,rfl⟩|⟨e,he,rfl,σ',r',Hd',hD',hp,hF⟩⟩
  ·refine⟨_,[],by rw [List.append_nil];exact hp.append_left Hs,0,σ',r',Hd',?_,rfl,hD',rfl⟩
   unfold opnS
   rw [TS.and_eq (y:=(σ',r')) (by show ((wholeS p t l σ).1,(wholeS p t l σ).2,r')=_;rw [hws]),if_neg (by decide)]
  ·exact⟨_,[],by rw [List.append_nil];exact hp.append_left Hs,e,σ',r',Hd',hF,rfl,hD',rfl⟩
 | true=>
  have hfs:∀ i v,(opFs fp true)[i]?=some v→StepF Tryz.prog v (opJ d tr fp p t (foundC d tr s bk p t kind bv lv cnt Lv ev tv) l σ r Hb i) (opJ d tr fp p t (foundC d tr s bk p t kind bv lv cnt Lv ev tv) l σ r Hb (i+1)) (opE d tr fp p t (foundC d tr s bk p t kind bv lv cnt Lv ev tv) l σ r Hb true):=fun i v hv=>by
   have hi:=(List.getElem?_eq_some_iff.1 hv).1
   have hi5:i<3:=hi
   rcases (by omega:i=0∨i=1∨i=2) with rfl|rfl|rfl
   ·cases hv;exact op0 hB o1 o2 o3 o4 true h8 hn hb
   ·cases hv;exact op1 h hB o1 o2 o3 o4 true h8
   ·cases hv;exact op2 hB o1 o2 o3 o4 hr (hlt rfl)
  refine (allS_p (opFs fp true) hS (by show 3≤1000;decide) hfs hJ0).to ?_
  rintro v H ⟨H',rfl,⟨rfl,σ',r',Hd',hD',hp,hF⟩|⟨e,he,rfl,σ',r',Hd',hD',hp,hF⟩⟩
  ·exact⟨_,[],by rw [List.append_nil];exact hp.append_left Hs,0,σ',r',Hd',hF,rfl,hD',rfl⟩
  ·exact⟨_,[],by rw [List.append_nil];exact hp.append_left Hs,e,σ',r',Hd',hF,rfl,hD',rfl⟩
theorem opn_wl(p t:Nat)(w:Bool)(l:List (List UInt8))(x:Dv×Rg):(opnS p t w l x).2.1.ws.length=x.1.ws.length:=by
 have h1:(wholeS p t l x.1).2.ws.length=x.1.ws.length:=(((putL_wl (rowL 0 l)).and feS_wl).and (scrubS_wl _ _)) x.1
 unfold opnS TS.and
 split
 ·split
  ·rw [bump_wl];exact h1
  ·exact h1
 ·exact h1
theorem openS_opn{p t:Nat}{w:Bool}{σ:Dv}{r:Rg}(h1:¬ (w=true∧r.c=18446744073709551615))(h2:σ.down=false)(h3:(lookB p t σ r).1≠3):openS p t w (σ,r)=opnS p t w (lookB p t σ r).2 (σ,r):=by
 unfold openS
 rw [if_neg h1,if_neg (by show ¬ σ.down=true;rw [h2];decide),if_neg h3]
 rfl
theorem Open_p{d tr s bk tb p t:Nat}(h:Gm.Ok p t){σ:Dv}{r:Rg}{β:Bk}{Hd Hk:Hp}(hD:DevP d σ Hd)(hlen:σ.len=256*Gm.total p t)(hr:r.Ok)(hK:BookP bk tb β Hk)(wr:Bool) :
  Tri Tryz.prog 11 [baseV d tr s bk p t,.bool wr] ((tr,cl (trc d r) 225)::(Hd++Hk)) (fun _=>True)
  (fun v H=>∃ sv Hd' Hk' HS Hx,v=.tuple #[sv,.int .i64 (openS p t wr (σ,r)).1]∧DevP d (openS p t wr (σ,r)).2.1 Hd'∧BookP bk tb (openK p t wr σ r β) Hk'∧StO sv d tr s bk p t (openO p t wr σ r) HS ∧
   H=(tr,cl (trc d (openS p t wr (σ,r)).2.2) 225)::(Hd'++(Hk'++(HS++Hx)))):=by
 refine Tri.mk Tryz.func11 rfl Tryz.ntmps11 rfl fun w hw=>?_
 have hmy:=mmay_p (tr:=tr) (s:=s) (bk:=bk) h hD hlen
 have hla:=last_p tr d r hr
 by_cases hE:wr=true∧r.c=18446744073709551615
 ·obtain⟨rfl,hc⟩:=hE
  have e1:openS p t true (σ,r)=(21,(σ,r)):=by unfold openS;rw [if_pos ⟨rfl,hc⟩]
  have e2:openK p t true σ r β=β:=by unfold openK;rw [if_pos ⟨rfl,hc⟩]
  have e3:openO p t true σ r=none:=by unfold openO;rw [e1,if_neg (by show ¬ (21:Int)=0;decide)]
  rw [decide_eq_true hc] at hla
  rw [e1,e2,e3]
  repeat' (first|(refine W.go ?_;try intro b_)|fail)
  refine W.call hmy ?_
  rintro _ Hd ⟨rfl,rfl⟩
  repeat' (first|(refine W.go ?_;try intro b_)|fail)
  refine W.call hla ?_
  rintro _ _ ⟨rfl,rfl⟩
  repeat' (first|(refine W.go ?_;try intro b_)|fail)
  refine Fin.to ((tr,cl (trc d r) 225)::(Hd++(Hk++([]++[])))) ?_
  exact F.f2 ⟨_,Hd,Hk,[],[],rfl,hD,hK,⟨rfl,rfl⟩,rfl⟩
 have hlk:=look_p (dt:=d) (tr:=tr) (s:=s) h hD hlen hr hK
 cases wr with
 | false=>
  repeat' (first|(refine W.go ?_;try intro b_)|fail)
  refine W.call hmy ?_
  rintro _ Hd ⟨rfl,rfl⟩
  repeat' (first|(refine W.go ?_;try intro b_)|fail)
  refine W.call hlk ?_
  rintro _ _ (⟨hdn,rfl,rfl⟩|⟨hdn,fp,Hk2,Hf,rfl,hFo,hK2,rfl⟩)
  ·have e1:openS p t false (σ,r)=(8,(σ,r)):=by unfold openS;rw [if_neg hE,if_pos hdn]
   have e2:openK p t false σ r β=β:=by unfold openK;rw [if_neg hE,if_pos hdn]
   have e3:openO p t false σ r=none:=by unfold openO;rw [e1,if_neg (by show ¬ (8:Int)=0;decide)]
   rw [e1,e2,e3]
   repeat' (first|(refine W.go ?_;try intro b_)|fail)
   refine Fin.to ((tr,cl (trc d r) 225)::(Hd++(Hk++([]++[])))) ?_
   exact F.f2 ⟨_,Hd,Hk,[],[],rfl,hD,hK,⟨rfl,rfl⟩,rfl⟩
  have hlo:=look_ok (r:=r) hD.1 hdn hlen
  have e2:openK p t false σ r β=lookK p t r (σ.blks 0 (Gm.leaves p)) (σ.blks (Gm.leaves p) (1+t)) β:=by unfold openK;rw [if_neg hE,if_neg (by rw [hdn];decide)]
  rw [e2]
  clear e2
  generalize lookK p t r (σ.blks 0 (Gm.leaves p)) (σ.blks (Gm.leaves p) (1+t)) β=β2 at *
  by_cases h3:(lookB p t σ r).1=3
  ·have e1:openS p t false (σ,r)=(20,(σ,r)):=by unfold openS;rw [if_neg hE,if_neg (by show ¬ σ.down=true;rw [hdn];decide),if_pos h3]
   have e3:openO p t false σ r=none:=by unfold openO;rw [e1,if_neg (by show ¬ (20:Int)=0;decide)]
   rw [h3] at hFo
   obtain⟨bv,lv,cnt,Lv,ev,tv,Hx,⟨o0,o1,o2,o3,o4⟩,rfl,-⟩:=hFo
   rw [e1,e3]
   repeat' (first|(refine W.go ?_;try intro b_)|fail)
   refine Fin.to ((tr,cl (trc d r) 225)::(Hd++(Hk2++([]++[])))) ?_
   exact F.f2 ⟨_,Hd,Hk2,[],[],rfl,hD,hK2,⟨rfl,rfl⟩,rfl⟩
  obtain⟨bv,lv,cnt,Lv,ev,tv,Hx,⟨o0,o1,o2,o3,o4⟩,rfl,hk3⟩:=hFo
  obtain⟨tp,be,Hb,Ht,Hz,hB,rfl,rfl,hT,rfl⟩:=hk3 h3
  have e1:=openS_opn hE hdn h3
  have e3:openO p t false σ r=if (opnS p t false (lookB p t σ r).2 (σ,r)).1=0 then some ⟨epsB p (lookB p t σ r).2,sumsB (lookB p t σ r).2,false,0⟩ else none:=by unfold openO;rw [e1]
  rw [e1,e3]
  clear e1 e3 hk3 hlk
  have hkn:¬ (((lookB p t σ r).1:Nat):Int)=3:=by omega
  generalize (lookB p t σ r).2=l at *
  generalize (lookB p t σ r).1=k at *
  have h8:σ.ws.length%8=0:=by unfold Dv.len at hlen;omega
  have hll:=Gm.leaves_le h
  have hwl:=opn_wl p t false l (σ,r)
  have hbs:bfill (fun i=>some (i*1,1)) (zs [.nilFunc] 2) [(0,.func (.func 52) #[ptv fp] #[]),(1,.func (.func 53) #[ptv fp] #[])]=some (opFs fp false):=rfl
  repeat' (first|(refine W.go ?_;try intro b_)|fail)
  have hSs:Sl 146 1 (.slice (some ⟨b_,0,none⟩) 2 2) (opFs fp false) [(b_,cl (opFs fp false) 146)]:=Sl.own _ 1 b_ (len:=2) rfl
  refine W.call (opAll_p (d:=d) (tr:=tr) (s:=s) (bk:=bk) (fp:=fp) (kind:=(k:Int)) (cnt:=cnt) (r:=r) h hD hB o1 o2 o3 o4 false h8 (by omega) hlo.2 hr (fun hh=>by cases hh) hSs) ?_
  rintro _ _ ⟨e,σ2,r2,Hd2,hF,rfl,hD2,rfl⟩
  rw [hF] at hwl ⊢
  dsimp only at hwl ⊢
  by_cases he:e=0
  ·subst he
   rw [if_pos rfl]
   have hst:=stNew_p (tr:=tr) (s:=s) (bk:=bk) h hD2 (by unfold Dv.len at *;rw [hwl];exact hlen) (epsB p l) (epsB_len ..) (.slice (some ⟨be,0,none⟩) (Gm.sealed p) (Gm.sealed p)) hT (by rw [sumsB_len];exact hlo.1) (sumsB_32 _) false
   repeat' (first|(refine W.go ?_;try intro b_)|fail)
   (refine SW.rg [] [0,1,2,3,4,5,6,7,8,9] ?_;(repeat' (first|refine SG.g ?_|fail));refine SS.effK 10 ?_ rfl (by kernel_rfl))
   refine W.call hst ?_ (hpre:=fun w2 hs=>Rd.own (Hc:=Hd2++Ht) (Sl.own 28 1 be (len:=Gm.sealed p) (xs:=uv (epsB p l)) (by rw [uv_len,epsB_len,Nat.mul_one])) hs inferInstance)
   rintro _ _ ⟨sp,Hn,rfl,hSt,rfl⟩
   (refine SL.nilG [11,12,13,14,15] ?_;(repeat' (first|refine SG.g ?_|fail)))
   repeat' (first|(refine W.go ?_;try intro b_)|fail)
   refine Fin.to ((tr,cl (trc d r2) 225)::(Hd2++(Hk2++(Hn++[])))) ?_
   exact F.f2 ⟨_,Hd2,Hk2,Hn,[],rfl,hD2,hK2,⟨sp,rfl,hSt⟩,rfl⟩
  ·rw [if_neg he]
   repeat' (first|(refine W.go ?_;try intro b_)|fail)
   refine Fin.to ((tr,cl (trc d r2) 225)::(Hd2++(Hk2++([]++[])))) ?_
   exact F.f2 ⟨_,Hd2,Hk2,[],[],rfl,hD2,hK2,⟨rfl,rfl⟩,rfl⟩
 | true=>
  have hcn:¬ r.c=18446744073709551615:=fun hc=>hE ⟨rfl,hc⟩
  have hlt:r.c<18446744073709551615:=by have:=hr.c1;omega
  rw [decide_eq_false hcn] at hla
  repeat' (first|(refine W.go ?_;try intro b_)|fail)
  refine W.call hmy ?_
  rintro _ Hd ⟨rfl,rfl⟩
  repeat' (first|(refine W.go ?_;try intro b_)|fail)
  refine W.call hla ?_
  rintro _ _ ⟨rfl,rfl⟩
  repeat' (first|(refine W.go ?_;try intro b_)|fail)
  refine W.call hlk ?_
  rintro _ _ (⟨hdn,rfl,rfl⟩|⟨hdn,fp,Hk2,Hf,rfl,hFo,hK2,rfl⟩)
  ·have e1:openS p t true (σ,r)=(8,(σ,r)):=by unfold openS;rw [if_neg hE,if_pos hdn]
   have e2:openK p t true σ r β=β:=by unfold openK;rw [if_neg hE,if_pos hdn]
   have e3:openO p t true σ r=none:=by unfold openO;rw [e1,if_neg (by show ¬ (8:Int)=0;decide)]
   rw [e1,e2,e3]
   repeat' (first|(refine W.go ?_;try intro b_)|fail)
   refine Fin.to ((tr,cl (trc d r) 225)::(Hd++(Hk++([]++[])))) ?_
   exact F.f2 ⟨_,Hd,Hk,[],[],rfl,hD,hK,⟨rfl,rfl⟩,rfl⟩
  have hlo:=look_ok (r:=r) hD.1 hdn hlen
  have e2:openK p t true σ r β=lookK p t r (σ.blks 0 (Gm.leaves p)) (σ.blks (Gm.leaves p) (1+t)) β:=by unfold openK;rw [if_neg hE,if_neg (by rw [hdn];decide)]
  rw [e2]
  clear e2
  generalize lookK p t r (σ.blks 0 (Gm.leaves p)) (σ.blks (Gm.leaves p) (1+t)) β=β2 at *
  by_cases h3:(lookB p t σ r).1=3
  ·have e1:openS p t true (σ,r)=(20,(σ,r)):=by unfold openS;rw [if_neg hE,if_neg (by show ¬ σ.down=true;rw [hdn];decide),if_pos h3]
   have e3:openO p t true σ r=none:=by unfold openO;rw [e1,if_neg (by show ¬ (20:Int)=0;decide)]
   rw [h3] at hFo
   obtain⟨bv,lv,cnt,Lv,ev,tv,Hx,⟨o0,o1,o2,o3,o4⟩,rfl,-⟩:=hFo
   rw [e1,e3]
   repeat' (first|(refine W.go ?_;try intro b_)|fail)
   refine Fin.to ((tr,cl (trc d r) 225)::(Hd++(Hk2++([]++[])))) ?_
   exact F.f2 ⟨_,Hd,Hk2,[],[],rfl,hD,hK2,⟨rfl,rfl⟩,rfl⟩
  obtain⟨bv,lv,cnt,Lv,ev,tv,Hx,⟨o0,o1,o2,o3,o4⟩,rfl,hk3⟩:=hFo
  obtain⟨tp,be,Hb,Ht,Hz,hB,rfl,rfl,hT,rfl⟩:=hk3 h3
  have e1:=openS_opn hE hdn h3
  have e3:openO p t true σ r=if (opnS p t true (lookB p t σ r).2 (σ,r)).1=0 then some ⟨epsB p (lookB p t σ r).2,sumsB (lookB p t σ r).2,true,0⟩ else none:=by unfold openO;rw [e1]
  rw [e1,e3]
  clear e1 e3 hk3 hlk
  have hkn:¬ (((lookB p t σ r).1:Nat):Int)=3:=by omega
  generalize (lookB p t σ r).2=l at *
  generalize (lookB p t σ r).1=k at *
  have h8:σ.ws.length%8=0:=by unfold Dv.len at hlen;omega
  have hll:=Gm.leaves_le h
  have hwl:=opn_wl p t true l (σ,r)
  have hbs:bfill (fun i=>some (i*1,1)) (zs [.nilFunc] 2) [(0,.func (.func 52) #[ptv fp] #[]),(1,.func (.func 53) #[ptv fp] #[])]=some (opFs fp false):=rfl
  have hbs2:bfill (fun i=>some (i*1,1)) (zs [.nilFunc] 1) [(0,.func (.func 54) #[ptv fp] #[])]=some [.func (.func 54) #[ptv fp] #[]]:=rfl
  repeat' (first|(refine W.go ?_;try intro b_)|fail)
  rename_i b9
  refine W.ap (Sl.own 146 1 b9 (len:=2) (xs:=opFs fp false) rfl) (ys:=[.func (.func 54) #[ptv fp] #[]]) (mm:=1) (fun w2 hs=>(Sl.own 146 1 b_ (xs:=[.func (.func 54) #[ptv fp] #[]]) rfl).srcAt hs inferInstance) (fun v3 H3 h33=>?_) (hys:=rfl) (hbytes:=by simp [opFs])
  have h31:=h33.isOne
  rw [show opFs fp false++[.func (.func 54) #[ptv fp] #[]]=opFs fp true from rfl] at h33
  repeat' (first|(refine W.go ?_;try intro b_)|fail)
  refine W.call (opAll_p (d:=d) (tr:=tr) (s:=s) (bk:=bk) (fp:=fp) (kind:=(k:Int)) (cnt:=cnt) (r:=r) h hD hB o1 o2 o3 o4 true h8 (by omega) hlo.2 hr (fun _=>hlt) h33) ?_
  rintro _ _ ⟨e,σ2,r2,Hd2,hF,rfl,hD2,rfl⟩
  rw [hF] at hwl ⊢
  dsimp only at hwl ⊢
  by_cases he:e=0
  ·subst he
   rw [if_pos rfl]
   have hst:=stNew_p (tr:=tr) (s:=s) (bk:=bk) h hD2 (by unfold Dv.len at *;rw [hwl];exact hlen) (epsB p l) (epsB_len ..) (.slice (some ⟨be,0,none⟩) (Gm.sealed p) (Gm.sealed p)) hT (by rw [sumsB_len];exact hlo.1) (sumsB_32 _) true
   repeat' (first|(refine W.go ?_;try intro b_)|fail)
   (refine SW.rg [] [0,1,2,3,4,5,6,7,8,9] ?_;(repeat' (first|refine SG.g ?_|fail));refine SS.effK 10 ?_ rfl (by kernel_rfl))
   refine W.call hst ?_ (hpre:=fun w2 hs=>Rd.own (Hc:=Hd2++Ht) (Sl.own 28 1 be (len:=Gm.sealed p) (xs:=uv (epsB p l)) (by rw [uv_len,epsB_len,Nat.mul_one])) hs inferInstance)
   rintro _ _ ⟨sp,Hn,rfl,hSt,rfl⟩
   (refine SL.nilG [11,12,13,14,15] ?_;(repeat' (first|refine SG.g ?_|fail)))
   repeat' (first|(refine W.go ?_;try intro b_)|fail)
   refine Fin.to ((tr,cl (trc d r2) 225)::(Hd2++(Hk2++(Hn++[])))) ?_
   exact F.f2 ⟨_,Hd2,Hk2,Hn,[],rfl,hD2,hK2,⟨sp,rfl,hSt⟩,rfl⟩
  ·rw [if_neg he]
   repeat' (first|(refine W.go ?_;try intro b_)|fail)
   refine Fin.to ((tr,cl (trc d r2) 225)::(Hd2++(Hk2++([]++[])))) ?_
   exact F.f2 ⟨_,Hd2,Hk2,[],[],rfl,hD2,hK2,⟨rfl,rfl⟩,rfl⟩
end Go.Proofs.YtnigolgkkjidiaaGreat
