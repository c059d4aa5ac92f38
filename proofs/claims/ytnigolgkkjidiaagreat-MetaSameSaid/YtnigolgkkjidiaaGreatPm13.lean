/- Geometries that may be: how many blocks there are. -/
import Derived.Test.YtnigolgkkjidiaaGreatPm2
import Derived.Test.YtnigolgkkjidiaaGreatPm12
import Derived.Test.YtnigolgkkjidiaaGreatPm5
set_option linter.unusedVariables false
set_option linter.unusedSimpArgs false
set_option linter.unusedSectionVars false
namespace Go.Proofs.YtnigolgkkjidiaaGreat
open Go
attribute [local irreducible] SW SL SQ SH SA SS Pu Fin CutF HandF
namespace Gm
def up(n k:Nat):Nat:=(n+k-1)/k
def sealed(p:Nat):Nat:=1+up p 16+p
def epochs(p:Nat):Nat:=up (sealed p) 32
def leaves(p:Nat):Nat:=1+epochs p+sealed p
def total(p t:Nat):Nat:=leaves p+(1+t)
def Ok(p t:Nat):Prop:=1≤p∧p≤64∧4≤t∧t≤24
theorem up_le(n k:Nat)(hk:0<k):up n k≤n:=by
 unfold up
 rcases Nat.eq_zero_or_pos n with rfl|hn
 ·rw [Nat.zero_add,Nat.div_eq_of_lt (by omega)];exact Nat.le_refl _
 ·refine Nat.div_le_of_le_mul ?_
  have:=Nat.mul_le_mul hn hk
  have h2:k*n=(k-1)*n+n:=by rw [← Nat.succ_mul];congr 1;omega
  have h3:(k-1)*1≤(k-1)*n:=Nat.mul_le_mul (Nat.le_refl _) hn
  omega
theorem sealed_le{p t:Nat}(h:Ok p t):sealed p≤129:=by have:=up_le p 16 (by decide);obtain⟨_,h2,_⟩:=h;unfold sealed;omega
theorem epochs_le{p t:Nat}(h:Ok p t):epochs p≤129:=Nat.le_trans (up_le _ 32 (by decide)) (sealed_le h)
theorem leaves_le{p t:Nat}(h:Ok p t):leaves p≤259:=by have:=sealed_le h;have:=epochs_le h;unfold leaves;omega
theorem total_le{p t:Nat}(h:Ok p t):total p t≤284:=by have:=leaves_le h;obtain⟨_,_,_,h2⟩:=h;unfold total;omega
end Gm
abbrev geoV(p t:Nat):Value:=.agg #[.int .i64 (p:Int),.int .i64 (t:Int)]
abbrev geoL(p t:Nat):List Value:=[.int .i64 (p:Int),.int .i64 (t:Int)]
theorem gcheck_p{p t:Nat}(h:Gm.Ok p t):Tri Tryz.prog 75 [geoV p t] [] (fun _=>True) (fun v H=>v=.int .i64 0∧H=[]):=by
 obtain⟨h1,h2,h3,h4⟩:=h
 refine Tri.mk Tryz.func75 rfl Tryz.ntmps75 rfl fun w hw=>?_
 repeat' (refine W.go ?_;try intro b_)
 refine Fin.to [] ?_
 exact F.f1 ⟨rfl,rfl⟩
theorem gbytes_p{k:Nat}(h:k<65536):Tri Tryz.prog 70 [.int .i64 (k:Int)] [] (fun _=>True) (fun v H=>v=.int .i64 ((256*k:Nat):Int)∧H=[]):=by
 refine Tri.mk Tryz.func70 rfl Tryz.ntmps70 rfl fun w hw=>?_
 rw [show ((256*k:Nat):Int)=256*(k:Int) by omega]
 repeat' (refine W.go ?_;try intro b_)
 refine Fin.to [] ?_
 exact F.f1 ⟨rfl,rfl⟩
theorem gup_p(n k:Nat)(hk:0<k)(hn:n≤1000000)(hk2:k≤1000000):Tri Tryz.prog 148 [.int .i64 (n:Int),.int .i64 (k:Int)] [] (fun _=>True) (fun v H=>v=.int .i64 (Gm.up n k:Nat)∧H=[]):=by
 refine Tri.mk Tryz.func148 rfl Tryz.ntmps148 rfl fun w hw=>?_
 have e:((Gm.up n k:Nat):Int)=((n:Int)+(k:Int)-1)/(k:Int):=by
  unfold Gm.up
  rw [show (n:Int)+(k:Int)-1=((n+k-1:Nat):Int) by omega]
  simp
 rw [e]
 repeat' (refine W.go ?_;try intro b_)
 refine Fin.to [] ?_
 exact F.f1 ⟨rfl,rfl⟩
theorem gsupers_p(p t:Nat):Tri Tryz.prog 272 [geoV p t] [] (fun _=>True) (fun v H=>v=.int .i64 ((1:Nat):Int)∧H=[]):=by
 refine Tri.mk Tryz.func272 rfl Tryz.ntmps272 rfl fun w hw=>?_
 repeat' (refine W.go ?_;try intro b_)
 refine Fin.to [] ?_
 exact F.f1 ⟨rfl,rfl⟩
theorem glogs_p{p t:Nat}(h:Gm.Ok p t):Tri Tryz.prog 181 [geoV p t] [] (fun _=>True) (fun v H=>v=.int .i64 ((1+t:Nat):Int)∧H=[]):=by
 obtain⟨h1,h2,h3,h4⟩:=h
 refine Tri.mk Tryz.func181 rfl Tryz.ntmps181 rfl fun w hw=>?_
 rw [show ((1+t:Nat):Int)=1+(t:Int) by omega]
 repeat' (refine W.go ?_;try intro b_)
 refine Fin.to [] ?_
 exact F.f1 ⟨rfl,rfl⟩
theorem gsealed_p{p t:Nat}(h:Gm.Ok p t):Tri Tryz.prog 139 [geoV p t] [] (fun _=>True) (fun v H=>v=.int .i64 (Gm.sealed p:Nat)∧H=[]):=by
 have hu:=Gm.up_le p 16 (by decide)
 obtain⟨h1,h2,h3,h4⟩:=h
 refine Tri.mk Tryz.func139 rfl Tryz.ntmps139 rfl fun w hw=>?_
 have hc:=gup_p p 16 (by decide) (by omega) (by decide)
 rw [show ((Gm.sealed p:Nat):Int)=1+((Gm.up p 16:Nat):Int)+(p:Int) by unfold Gm.sealed;omega]
 generalize Gm.up p 16=u at *
 repeat' (refine W.go ?_;try intro b_)
 (refine SW.regionS [] ?_ (by kernel_rfl);refine SS.T 0 rfl ?_;(first|refine SS.ls 1 [] rfl ?_|refine SS.sR 1 rfl ?_);refine SS.T 4 rfl ?_;(first|refine SS.ls 5 [] rfl ?_|refine SS.sR 5 rfl ?_);refine SS.effK 2 ?_ rfl (by kernel_rfl))
 refine W.call hc ?_
 rintro _ _ ⟨rfl,rfl⟩
 (refine SL.nilB ?_;refine SS.T 3 rfl ?_;refine SS.T 6 rfl ?_;refine SS.T 7 rfl ?_;refine SS.done ?_ (by kernel_rfl))
 repeat' (refine W.go ?_;try intro b_)
 refine Fin.to [] ?_
 exact F.f1 ⟨rfl,rfl⟩
theorem gepochs_p{p t:Nat}(h:Gm.Ok p t):Tri Tryz.prog 191 [geoV p t] [] (fun _=>True) (fun v H=>v=.int .i64 (Gm.epochs p:Nat)∧H=[]):=by
 refine Tri.mk Tryz.func191 rfl Tryz.ntmps191 rfl fun w hw=>?_
 have hs:=Gm.sealed_le h
 have hc:=gsealed_p h
 have hc2:=gup_p (Gm.sealed p) 32 (by decide) (by omega) (by decide)
 unfold Gm.epochs
 repeat' (refine W.go ?_;try intro b_)
 refine W.call hc ?_
 rintro _ _ ⟨rfl,rfl⟩
 repeat' (refine W.go ?_;try intro b_)
 refine W.call hc2 ?_
 rintro _ _ ⟨rfl,rfl⟩
 repeat' (refine W.go ?_;try intro b_)
 refine Fin.to [] ?_
 exact F.f1 ⟨rfl,rfl⟩
theorem gkinds_p:Tri Tryz.prog 229 [] [] (fun _=>True) (fun v H=>v=.agg #[.func (.func 272) #[] #[],.func (.func 191) #[] #[],.func (.func 139) #[] #[],.func (.func 181) #[] #[]]∧H=[]):=by
 refine Tri.mk Tryz.func229 rfl Tryz.ntmps229 rfl fun w hw=>?_
 have hb:bfill (fun i=>some (i*1,1)) [.nilFunc,.nilFunc,.nilFunc,.nilFunc] [(0,.func (.func 272) #[] #[]),(1,.func (.func 191) #[] #[]),(2,.func (.func 139) #[] #[]),(3,.func (.func 181) #[] #[])]=some [.func (.func 272) #[] #[],.func (.func 191) #[] #[],.func (.func 139) #[] #[],.func (.func 181) #[] #[]]:=rfl
 repeat' (refine W.go ?_;try intro b_)
 exact F.cH [] [.func (.func 272) #[] #[],.func (.func 191) #[] #[],.func (.func 139) #[] #[],.func (.func 181) #[] #[]] ⟨rfl,rfl⟩
def Gm.sumK(p t:Nat):Nat→Nat
 | 0=>0
 | 1=>1
 | 2=>1+Gm.epochs p
 | _=>1+Gm.epochs p+Gm.sealed p
theorem gahead_p{p t:Nat}(h:Gm.Ok p t):Tri Tryz.prog 180 [geoV p t,.int .i64 4] [] (fun _=>True) (fun v H=>v=.int .i64 (Gm.leaves p:Nat)∧H=[]):=by
 refine Tri.mk Tryz.func180 rfl Tryz.ntmps180 rfl fun w hw=>?_
 have c0:=gsupers_p p t
 have c1:=gepochs_p h
 have c2:=gsealed_p h
 have hs:=Gm.sealed_le h
 have he:=Gm.epochs_le h
 have s0:Gm.sumK p t 0=0:=rfl
 have s1:Gm.sumK p t 1=1:=rfl
 have s2:Gm.sumK p t 2=1+Gm.epochs p:=rfl
 have s3:Gm.sumK p t 3=1+Gm.epochs p+Gm.sealed p:=rfl
 repeat' (refine W.gb ?_;try intro b_)
 refine W.call gkinds_p ?_
 rintro _ _ ⟨rfl,rfl⟩
 repeat' (refine W.gb ?_;try intro b_)
 refine SW.cut [] [] (fun _:Unit=>[(5,.int .i64 (Gm.leaves p:Nat))]) (fun _=>[]) (fun _=>True) ?_ ?_
 ·repeat' (refine W.go ?_;try intro b_)
  refine SW.loopF [1,2,8] (fun k:Nat=>[(5,.int .i64 (Gm.sumK p t k:Nat)),(9,.int .i64 (k:Int))]) (fun k=>[(b_,cl (geoL p t) 267)]) (fun k=>4-k) (fun k=>k≤4) 0 (Nat.zero_le _) ?_
  intro k hk
  by_cases h4:k<4
  ·rcases (by omega:k=0∨k=1∨k=2∨k=3) with rfl|rfl|rfl|rfl
   ·repeat' (refine W.go ?_;try intro b_)
    refine SL.callv [] rfl rfl rfl rfl rfl rfl c0 (fun _ _=>trivial) ?_
    rintro _ _ ⟨rfl,rfl⟩
    repeat' (refine W.go ?_;try intro b_)
    rw [show ((Gm.sumK p t 0:Nat):Int)+(1:Nat)=((Gm.sumK p t 1:Nat):Int) by omega]
    refine HandF.mk 1 ?_
    decide
   ·repeat' (refine W.go ?_;try intro b_)
    refine SL.callv [] rfl rfl rfl rfl rfl rfl c1 (fun _ _=>trivial) ?_
    rintro _ _ ⟨rfl,rfl⟩
    repeat' (refine W.go ?_;try intro b_)
    rw [show ((Gm.sumK p t 1:Nat):Int)+(Gm.epochs p:Nat)=((Gm.sumK p t 2:Nat):Int) by omega]
    refine HandF.mk 2 ?_
    decide
   ·repeat' (refine W.go ?_;try intro b_)
    refine SL.callv [] rfl rfl rfl rfl rfl rfl c2 (fun _ _=>trivial) ?_
    rintro _ _ ⟨rfl,rfl⟩
    repeat' (refine W.go ?_;try intro b_)
    rw [show ((Gm.sumK p t 2:Nat):Int)+(Gm.sealed p:Nat)=((Gm.sumK p t 3:Nat):Int) by omega]
    refine HandF.mk 3 ?_
    decide
   ·repeat' (refine W.go ?_;try intro b_)
    rw [show Gm.sumK p t 3=Gm.sumK p t 4 from rfl]
    refine HandF.mk 4 ?_
    decide
  ·have:k=4:=by omega
   subst this
   rw [show Gm.sumK p t 4=Gm.leaves p from rfl]
   repeat' (refine W.go ?_;try intro b_)
   refine CutF.mk () ?_
   trivial
 rintro _ -
 repeat' (refine W.go ?_;try intro b_)
 refine Fin.to [] ?_
 exact F.f1 ⟨rfl,rfl⟩
theorem gleaves1_p{p t:Nat}(h:Gm.Ok p t):Tri Tryz.prog 182 [geoV p t] [] (fun _=>True) (fun v H=>v=.int .i64 (Gm.leaves p:Nat)∧H=[]):=by
 refine Tri.mk Tryz.func182 rfl Tryz.ntmps182 rfl fun w hw=>?_
 have hc:=gahead_p h
 repeat' (refine W.go ?_;try intro b_)
 refine W.call hc ?_
 rintro _ _ ⟨rfl,rfl⟩
 repeat' (refine W.go ?_;try intro b_)
 refine Fin.to [] ?_
 exact F.f1 ⟨rfl,rfl⟩
theorem gtotal1_p{p t:Nat}(h:Gm.Ok p t):Tri Tryz.prog 179 [geoV p t] [] (fun _=>True) (fun v H=>v=.int .i64 (Gm.total p t:Nat)∧H=[]):=by
 refine Tri.mk Tryz.func179 rfl Tryz.ntmps179 rfl fun w hw=>?_
 have hc:=gahead_p h
 have hc2:=glogs_p h
 have hl:=Gm.leaves_le h
 have hl2:=Gm.total_le h
 rw [show ((Gm.total p t:Nat):Int)=((Gm.leaves p:Nat):Int)+((1+t:Nat):Int) by unfold Gm.total;omega]
 have hl3:(1+t)≤25:=by obtain⟨_,_,_,h4⟩:=h;omega
 repeat' (refine W.go ?_;try intro b_)
 (refine SW.regionS [3] ?_ (by kernel_rfl);(first|refine SS.lw 0 [1,3] rfl ?_|refine SS.la 0 [1,3] rfl ?_|refine SS.aR 0 rfl ?_);(first|refine SS.lw 2 [3] rfl ?_|refine SS.la 2 [3] rfl ?_|refine SS.aR 2 rfl ?_);refine SS.effK 1 ?_ rfl (by kernel_rfl))
 refine W.call hc ?_
 rintro _ _ ⟨rfl,rfl⟩
 (refine SL.nilB ?_;refine SS.effB 3 ?_ rfl (by kernel_rfl))
 refine W.call hc2 ?_
 rintro _ _ ⟨rfl,rfl⟩
 (refine SL.nilB ?_;refine SS.T 4 rfl ?_;refine SS.T 5 rfl ?_;refine SS.done ?_ (by kernel_rfl))
 repeat' (refine W.go ?_;try intro b_)
 refine Fin.to [] ?_
 exact F.f1 ⟨rfl,rfl⟩
theorem gasked_p{p t:Nat}(h:Gm.Ok p t){f:FuncId} [IsFn Tryz.prog f]{r:Value} [One r](hc:Tri Tryz.prog f [geoV p t] [] (fun _=>True) (fun v H=>v=r∧H=[])):Tri Tryz.prog 146 [geoV p t,.func (.func f) #[] #[]] [] (fun _=>True) (fun v H=>v=r∧H=[]):=by
 refine Tri.mk Tryz.func146 rfl Tryz.ntmps146 rfl fun w hw=>?_
 have hk:=gcheck_p h
 repeat' (refine W.go ?_;try intro b_)
 refine W.call hk ?_
 rintro _ _ ⟨rfl,rfl⟩
 repeat' (refine W.go ?_;try intro b_)
 refine SL.callv [] rfl rfl rfl rfl rfl rfl hc (fun _ _=>trivial) ?_
 rintro _ _ ⟨rfl,rfl⟩
 repeat' (refine W.go ?_;try intro b_)
 refine Fin.to [] ?_
 exact F.f1 ⟨rfl,rfl⟩
theorem gtotal_p{p t:Nat}(h:Gm.Ok p t):Tri Tryz.prog 116 [geoV p t] [] (fun _=>True) (fun v H=>v=.int .i64 (Gm.total p t:Nat)∧H=[]):=by
 refine Tri.mk Tryz.func116 rfl Tryz.ntmps116 rfl fun w hw=>?_
 have hc:=gasked_p h (gtotal1_p h)
 repeat' (refine W.go ?_;try intro b_)
 refine W.call hc ?_
 rintro _ _ ⟨rfl,rfl⟩
 repeat' (refine W.go ?_;try intro b_)
 refine Fin.to [] ?_
 exact F.f1 ⟨rfl,rfl⟩
theorem gleaves_p{p t:Nat}(h:Gm.Ok p t):Tri Tryz.prog 118 [geoV p t] [] (fun _=>True) (fun v H=>v=.int .i64 (Gm.leaves p:Nat)∧H=[]):=by
 refine Tri.mk Tryz.func118 rfl Tryz.ntmps118 rfl fun w hw=>?_
 have hc:=gasked_p h (gleaves1_p h)
 repeat' (refine W.go ?_;try intro b_)
 refine W.call hc ?_
 rintro _ _ ⟨rfl,rfl⟩
 repeat' (refine W.go ?_;try intro b_)
 refine Fin.to [] ?_
 exact F.f1 ⟨rfl,rfl⟩
end Go.Proofs.YtnigolgkkjidiaaGreat
