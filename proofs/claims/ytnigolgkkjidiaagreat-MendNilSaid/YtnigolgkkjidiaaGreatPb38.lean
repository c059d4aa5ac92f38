/- Bases that may not be: nothing is mended. -/
import Derived.Test.YtnigolgkkjidiaaGreatPb27
import Derived.Test.YtnigolgkkjidiaaGreatPb33
import Derived.Test.YtnigolgkkjidiaaGreatPb35
set_option linter.unusedVariables false
set_option linter.unusedSimpArgs false
set_option linter.unusedSectionVars false
set_option maxHeartbeats 1000000
namespace Go.Proofs.YtnigolgkkjidiaaGreat
open Go
attribute [local irreducible] SW SL SQ SH SA SS Pu Fin CutF HandF
abbrev geV(P T:Int):Value:=.agg #[.int .i64 P,.int .i64 T]
abbrev bsG(d:Nat)(tv:Value)(s bk:Nat)(P T:Int):Value:=.agg #[ptv d,tv,ptv s,ptv bk,.int .i64 P,.int .i64 T]
def GoK(P T:Int):Prop:=1≤P∧P≤64∧4≤T∧T≤24
theorem gcheck_bad{P T:Int}(h:¬ GoK P T):Tri Tryz.prog 75 [geV P T] [] (fun _=>True) (fun v H=>v=.int .i64 1∧H=[]):=by
 unfold GoK at h
 refine Tri.mk Tryz.func75 rfl Tryz.ntmps75 rfl fun w hw=>?_
 by_cases h1:P<1
 ·(repeat' (first|(refine W.go ?_;try intro b_)|fail))
  refine Fin.to [] ?_
  exact F.f1 ⟨rfl,rfl⟩
 by_cases h2:64<P
 ·(repeat' (first|(refine W.go ?_;try intro b_)|fail))
  refine Fin.to [] ?_
  exact F.f1 ⟨rfl,rfl⟩
 by_cases h3:T<4
 ·(repeat' (first|(refine W.go ?_;try intro b_)|fail))
  refine Fin.to [] ?_
  exact F.f1 ⟨rfl,rfl⟩
 have h4:24<T:=by omega
 (repeat' (first|(refine W.go ?_;try intro b_)|fail))
 refine Fin.to [] ?_
 exact F.f1 ⟨rfl,rfl⟩
theorem rgmay_bad{P T:Int}(h:¬ GoK P T):Tri Tryz.prog 27 [geV P T] [] (fun _=>True) (fun v H=>v=.bool false∧H=[]):=by
 unfold GoK at h
 refine Tri.mk Tryz.func27 rfl Tryz.ntmps27 rfl fun w hw=>?_
 by_cases h1:P<1
 ·(repeat' (first|(refine W.go ?_;try intro b_)|fail))
  refine Fin.to [] ?_
  exact F.f1 ⟨rfl,rfl⟩
 by_cases h2:64<P
 ·(repeat' (first|(refine W.go ?_;try intro b_)|fail))
  refine Fin.to [] ?_
  exact F.f1 ⟨rfl,rfl⟩
 by_cases h3:T<4
 ·(repeat' (first|(refine W.go ?_;try intro b_)|fail))
  refine Fin.to [] ?_
  exact F.f1 ⟨rfl,rfl⟩
 have h4:24<T:=by omega
 (repeat' (first|(refine W.go ?_;try intro b_)|fail))
 refine Fin.to [] ?_
 exact F.f1 ⟨rfl,rfl⟩
theorem mmay_nil{d s bk:Nat}{P T:Int}:Tri Tryz.prog 49 [bsG d (.pointer none) s bk P T] [] (fun _=>True) (fun v H=>v=.int .i64 2∧H=[]):=by
 refine Tri.mk Tryz.func49 rfl Tryz.ntmps49 rfl fun w hw=>?_
 (repeat' (first|(refine W.go ?_;try intro b_)|fail))
 refine Fin.to [] ?_
 exact F.f1 ⟨rfl,rfl⟩
theorem mmay_bad{d tr s bk:Nat}{P T:Int}(h:¬ GoK P T){Hd:Hp}:Tri Tryz.prog 49 [bsG d (ptv tr) s bk P T] Hd (fun _=>True) (fun v H=>v=.int .i64 1∧H=Hd):=by
 refine Tri.mk Tryz.func49 rfl Tryz.ntmps49 rfl fun w hw=>?_
 have hck:=gcheck_bad h
 (repeat' (first|(refine W.go ?_;try intro b_)|fail))
 (refine SW.regionS [] ?_ (by kernel_rfl);refine SS.T 0 rfl ?_;(first|refine SS.lw 1 [] rfl ?_|refine SS.la 1 [] rfl ?_|refine SS.tw 1 rfl (p_load_aR rfl rfl (by assumption) (by assumption) (by assumption) (by assumption)) ?_);refine SS.effK 2 ?_ rfl (by kernel_rfl))
 refine W.call hck ?_
 rintro _ _ ⟨rfl,rfl⟩
 (refine SL.nilB ?_;refine SS.T 3 rfl ?_;refine SS.T 4 rfl ?_;(first|refine SS.sk 5 rfl ?_|refine SS.T 5 rfl ?_);(first|refine SS.sk 6 rfl ?_|refine SS.ls 6 [] rfl ?_|refine SS.tw 6 rfl (p_load_sR rfl rfl (by assumption) (by assumption) (by assumption)) ?_);(first|refine SS.sk 8 rfl ?_|refine SS.T 8 rfl ?_);(first|refine SS.sk 9 rfl ?_|refine SS.lw 9 [] rfl ?_|refine SS.la 9 [] rfl ?_|refine SS.tw 9 rfl (p_load_aR rfl rfl (by assumption) (by assumption) (by assumption) (by assumption)) ?_);(first|refine SS.sk 7 rfl ?_;(first|refine SS.sk 10 rfl ?_;(first|refine SS.sk 11 rfl ?_;(first|refine SS.sk 12 rfl ?_|refine SS.T 12 rfl ?_);refine SS.T 13 rfl ?_;refine SS.T 14 rfl ?_;refine SS.done ?_ (by kernel_rfl)|refine SS.effK 11 ?_ rfl (by kernel_rfl))|refine SS.effK 10 ?_ rfl (by kernel_rfl))|refine SS.effK 7 ?_ rfl (by kernel_rfl)))
 (repeat' (first|(refine W.go ?_;try intro b_)|fail))
 refine Fin.to Hd ?_
 exact F.f1 ⟨rfl,rfl⟩
theorem mmay_len{d tr s bk p t:Nat}(h:Gm.Ok p t){σ:Dv}{Hd:Hp}(hD:DevP d σ Hd)(hlen:σ.len≠256*Gm.total p t) :
  Tri Tryz.prog 49 [bsG d (ptv tr) s bk p t] Hd (fun _=>True) (fun v H=>v=.int .i64 1∧H=Hd):=by
 refine Tri.mk Tryz.func49 rfl Tryz.ntmps49 rfl fun w hw=>?_
 have hck:=gcheck_p h
 have hln:=len_p hD
 have htt:=gtotal_p h
 have htl:=Gm.total_le2 h
 have hby:=gbytes_p (k:=Gm.total p t) (by omega)
 have hne:¬ ((σ.len:Nat):Int)=((256*Gm.total p t:Nat):Int):=by omega
 generalize Gm.total p t=m at *
 generalize σ.len=sl at *
 (repeat' (first|(refine W.go ?_;try intro b_)|fail))
 (refine SW.regionS [2,10,11] ?_ (by kernel_rfl);refine SS.T 0 rfl ?_;(first|refine SS.lw 1 [2,4,10,11] rfl ?_|refine SS.la 1 [2,4,10,11] rfl ?_|refine SS.tw 1 rfl (p_load_aR rfl rfl (by assumption) (by assumption) (by assumption) (by assumption)) ?_);refine SS.effB 2 ?_ rfl (by kernel_rfl))
 refine W.call hck ?_
 rintro _ _ ⟨rfl,rfl⟩
 (refine SL.nilB ?_;refine SS.T 3 rfl ?_;refine SS.T 4 rfl ?_;(first|refine SS.sk 5 rfl ?_|refine SS.T 5 rfl ?_);(first|refine SS.sk 6 rfl ?_|refine SS.ls 6 [7,10,11] rfl ?_|refine SS.tw 6 rfl (p_load_sR rfl rfl (by assumption) (by assumption) (by assumption)) ?_);(first|refine SS.sk 8 rfl ?_|refine SS.T 8 rfl ?_);(first|refine SS.sk 9 rfl ?_|refine SS.lw 9 [10,11] rfl ?_|refine SS.la 9 [10,11] rfl ?_|refine SS.tw 9 rfl (p_load_aR rfl rfl (by assumption) (by assumption) (by assumption) (by assumption)) ?_);(first|refine SS.sk 7 rfl ?_;(first|refine SS.sk 10 rfl ?_;(first|refine SS.sk 11 rfl ?_;(first|refine SS.sk 12 rfl ?_|refine SS.T 12 rfl ?_);refine SS.T 13 rfl ?_;refine SS.T 14 rfl ?_;refine SS.done ?_ (by kernel_rfl)|refine SS.effB 11 ?_ rfl (by kernel_rfl))|refine SS.effB 10 ?_ rfl (by kernel_rfl))|refine SS.effK 7 ?_ rfl (by kernel_rfl)))
 refine W.call hln ?_
 rintro _ Hx ⟨rfl,hx⟩
 have hx:=hx.symm
 subst hx
 (refine SL.nilB ?_;(first|refine SS.sk 10 rfl ?_;(first|refine SS.sk 11 rfl ?_;(first|refine SS.sk 12 rfl ?_|refine SS.T 12 rfl ?_);refine SS.T 13 rfl ?_;refine SS.T 14 rfl ?_;refine SS.done ?_ (by kernel_rfl)|refine SS.effB 11 ?_ rfl (by kernel_rfl))|refine SS.effB 10 ?_ rfl (by kernel_rfl)))
 refine W.call htt ?_
 rintro _ _ ⟨rfl,rfl⟩
 (refine SL.nilB ?_;(first|refine SS.sk 11 rfl ?_;(first|refine SS.sk 12 rfl ?_|refine SS.T 12 rfl ?_);refine SS.T 13 rfl ?_;refine SS.T 14 rfl ?_;refine SS.done ?_ (by kernel_rfl)|refine SS.effB 11 ?_ rfl (by kernel_rfl)))
 refine W.call hby ?_
 rintro _ _ ⟨rfl,rfl⟩
 (refine SL.nilB ?_;(first|refine SS.sk 12 rfl ?_|refine SS.T 12 rfl ?_);refine SS.T 13 rfl ?_;refine SS.T 14 rfl ?_;refine SS.done ?_ (by kernel_rfl))
 (repeat' (first|(refine W.go ?_;try intro b_)|fail))
 refine Fin.to Hd ?_
 exact F.f1 ⟨rfl,rfl⟩
section
variable {d s bk:Nat}{tv:Value}{P T e:Int}{Hd:Hp}
theorem mlook_bad(ot:One tv)(he:e≠0)(hm:Tri Tryz.prog 49 [bsG d tv s bk P T] Hd (fun _=>True) (fun v H=>v=.int .i64 e∧H=Hd)) :
  Tri Tryz.prog 51 [bsG d tv s bk P T] Hd (fun _=>True) (fun v H=>v=.tuple #[.pointer none,.int .i64 e]∧H=Hd):=by
 refine Tri.mk Tryz.func51 rfl Tryz.ntmps51 rfl fun w hw=>?_
 (repeat' (first|(refine W.go ?_;try intro b_)|fail))
 refine W.call hm ?_
 rintro _ Hx ⟨rfl,hx⟩
 have hx:=hx.symm
 subst hx
 (repeat' (first|(refine W.go ?_;try intro b_)|fail))
 refine Fin.to Hd ?_
 exact F.f2 ⟨rfl,rfl⟩
theorem mLook_bad(ot:One tv)(he:e≠0)(hm:Tri Tryz.prog 49 [bsG d tv s bk P T] Hd (fun _=>True) (fun v H=>v=.int .i64 e∧H=Hd)) :
  Tri Tryz.prog 12 [bsG d tv s bk P T] Hd (fun _=>True) (fun v H=>v=.tuple #[.int .i64 0,.int .i64 e]∧H=Hd):=by
 have hl:=mlook_bad ot he hm
 refine Tri.mk Tryz.func12 rfl Tryz.ntmps12 rfl fun w hw=>?_
 (repeat' (first|(refine W.go ?_;try intro b_)|fail))
 refine W.call hl ?_
 rintro _ Hx ⟨rfl,hx⟩
 have hx:=hx.symm
 subst hx
 (repeat' (first|(refine W.go ?_;try intro b_)|fail))
 refine Fin.to Hd ?_
 exact F.f2 ⟨rfl,rfl⟩
theorem mOpen_bad(ot:One tv)(he:e≠0)(wr:Bool)(hm:Tri Tryz.prog 49 [bsG d tv s bk P T] Hd (fun _=>True) (fun v H=>v=.int .i64 e∧H=Hd)) :
  Tri Tryz.prog 11 [bsG d tv s bk P T,.bool wr] Hd (fun _=>True) (fun v H=>v=.tuple #[.pointer none,.int .i64 e]∧H=Hd):=by
 refine Tri.mk Tryz.func11 rfl Tryz.ntmps11 rfl fun w hw=>?_
 (repeat' (first|(refine W.go ?_;try intro b_)|fail))
 refine W.call hm ?_
 rintro _ Hx ⟨rfl,hx⟩
 have hx:=hx.symm
 subst hx
 (repeat' (first|(refine W.go ?_;try intro b_)|fail))
 refine Fin.to Hd ?_
 exact F.f2 ⟨rfl,rfl⟩
theorem mFormat_bad(ot:One tv)(he:e≠0)(hm:Tri Tryz.prog 49 [bsG d tv s bk P T] Hd (fun _=>True) (fun v H=>v=.int .i64 e∧H=Hd)) :
  Tri Tryz.prog 16 [bsG d tv s bk P T] Hd (fun _=>True) (fun v H=>v=.int .i64 e∧H=Hd):=by
 refine Tri.mk Tryz.func16 rfl Tryz.ntmps16 rfl fun w hw=>?_
 (repeat' (first|(refine W.go ?_;try intro b_)|fail))
 refine W.call hm ?_
 rintro _ Hx ⟨rfl,hx⟩
 have hx:=hx.symm
 subst hx
 (repeat' (first|(refine W.go ?_;try intro b_)|fail))
 refine Fin.to Hd ?_
 exact F.f1 ⟨rfl,rfl⟩
end
theorem rqmay_bad{d tr s:Nat}{P T:Int}(h:¬ GoK P T){Hd:Hp}:Tri Tryz.prog 15 [.agg #[ptv d,ptv tr,ptv s,.int .i64 P,.int .i64 T]] Hd (fun _=>True) (fun v H=>v=.bool false∧H=Hd):=by
 refine Tri.mk Tryz.func15 rfl Tryz.ntmps15 rfl fun w hw=>?_
 have hm:=rgmay_bad h
 (repeat' (first|(refine W.go ?_;try intro b_)|fail))
 (refine SW.regionS [2] ?_ (by kernel_rfl);refine SS.T 0 rfl ?_;(first|refine SS.lw 1 [2] rfl ?_|refine SS.la 1 [2] rfl ?_|refine SS.tw 1 rfl (p_load_aR rfl rfl (by assumption) (by assumption) (by assumption) (by assumption)) ?_);refine SS.effB 2 ?_ rfl (by kernel_rfl))
 refine W.call hm ?_
 rintro _ _ ⟨rfl,rfl⟩
 (refine SL.nilB ?_;refine SS.T 3 rfl ?_;(first|refine SS.sk 4 rfl ?_|refine SS.T 4 rfl ?_);(first|refine SS.sk 5 rfl ?_|refine SS.ls 5 [] rfl ?_|refine SS.tw 5 rfl (p_load_sR rfl rfl (by assumption) (by assumption) (by assumption)) ?_);(first|refine SS.sk 6 rfl ?_|refine SS.T 6 rfl ?_);(first|refine SS.sk 7 rfl ?_|refine SS.T 7 rfl ?_);(first|refine SS.sk 8 rfl ?_|refine SS.ls 8 [] rfl ?_|refine SS.tw 8 rfl (p_load_sR rfl rfl (by assumption) (by assumption) (by assumption)) ?_);(first|refine SS.sk 9 rfl ?_|refine SS.T 9 rfl ?_);(first|refine SS.sk 10 rfl ?_|refine SS.T 10 rfl ?_);(first|refine SS.sk 11 rfl ?_|refine SS.lw 11 [] rfl ?_|refine SS.la 11 [] rfl ?_|refine SS.tw 11 rfl (p_load_aR rfl rfl (by assumption) (by assumption) (by assumption) (by assumption)) ?_);(first|refine SS.sk 12 rfl ?_;(first|refine SS.sk 13 rfl ?_|refine SS.T 13 rfl ?_);(first|refine SS.sk 14 rfl ?_|refine SS.T 14 rfl ?_);(first|refine SS.sk 15 rfl ?_|refine SS.T 15 rfl ?_);refine SS.T 16 rfl ?_;refine SS.T 17 rfl ?_;refine SS.done ?_ (by kernel_rfl)|refine SS.effK 12 ?_ rfl (by kernel_rfl)))
 (repeat' (first|(refine W.go ?_;try intro b_)|fail))
 refine Fin.to Hd ?_
 exact F.f1 ⟨rfl,rfl⟩
theorem rqmay_len{d tr s p t:Nat}(h:Gm.Ok p t){F0:List Value}{a:Option Addr}{n c:Nat}(hF:F0[1]?=some (.slice a n c)):Tri Tryz.prog 15 [rbaseV d tr s p t] [(d,cl F0 54)] (fun _=>True) (fun v H=>v=.bool (decide (n=256*Gm.total p t))∧H=[(d,cl F0 54)]):=by
 refine Tri.mk Tryz.func15 rfl Tryz.ntmps15 rfl fun w hw=>?_
 have hm:=rgmay_p h
 have hall:=rgall_p h
 have htl:=Gm.total_le2 h
 have hpl:=pcs_len (Gm.all p t)
 rw [Gm.all_len] at hpl
 generalize Gm.all p t=l at *
 generalize Gm.total p t=m at *
 (repeat' (first|(refine W.go ?_;try intro b_)|fail))
 (refine SW.regionS [2] ?_ (by kernel_rfl);refine SS.T 0 rfl ?_;(first|refine SS.lw 1 [2] rfl ?_|refine SS.la 1 [2] rfl ?_|refine SS.tw 1 rfl (p_load_aR rfl rfl (by assumption) (by assumption) (by assumption) (by assumption)) ?_);refine SS.effB 2 ?_ rfl (by kernel_rfl))
 refine W.call hm ?_
 rintro _ _ ⟨rfl,rfl⟩
 (refine SL.nilB ?_;refine SS.T 3 rfl ?_;(first|refine SS.sk 4 rfl ?_|refine SS.T 4 rfl ?_);(first|refine SS.sk 5 rfl ?_|refine SS.ls 5 [] rfl ?_|refine SS.tw 5 rfl (p_load_sR rfl rfl (by assumption) (by assumption) (by assumption)) ?_);(first|refine SS.sk 6 rfl ?_|refine SS.T 6 rfl ?_);(first|refine SS.sk 7 rfl ?_|refine SS.T 7 rfl ?_);(first|refine SS.sk 8 rfl ?_|refine SS.ls 8 [] rfl ?_|refine SS.tw 8 rfl (p_load_sR rfl rfl (by assumption) (by assumption) (by assumption)) ?_);(first|refine SS.sk 9 rfl ?_|refine SS.T 9 rfl ?_);(first|refine SS.sk 10 rfl ?_|refine SS.T 10 rfl ?_);(first|refine SS.sk 11 rfl ?_|refine SS.lw 11 [] rfl ?_|refine SS.la 11 [] rfl ?_|refine SS.tw 11 rfl (p_load_aR rfl rfl (by assumption) (by assumption) (by assumption) (by assumption)) ?_);(first|refine SS.sk 12 rfl ?_;(first|refine SS.sk 13 rfl ?_|refine SS.T 13 rfl ?_);(first|refine SS.sk 14 rfl ?_|refine SS.T 14 rfl ?_);(first|refine SS.sk 15 rfl ?_|refine SS.T 15 rfl ?_);refine SS.T 16 rfl ?_;refine SS.T 17 rfl ?_;refine SS.done ?_ (by kernel_rfl)|refine SS.effK 12 ?_ rfl (by kernel_rfl)))
 refine W.call hall ?_
 rintro v1 H1 ⟨Hs,hS,rfl⟩
 obtain⟨a2,len,cap,rfl,hl1⟩:=hS.form
 have hl2:len=m:=by omega
 subst hl2
 by_cases hn:n=256*len
 ·have hn2:((n:Nat):Int)=256*(len:Int):=by omega
  rw [decide_eq_true hn]
  (refine SL.nilB ?_;(first|refine SS.sk 13 rfl ?_|refine SS.T 13 rfl ?_);(first|refine SS.sk 14 rfl ?_|refine SS.T 14 rfl ?_);(first|refine SS.sk 15 rfl ?_|refine SS.T 15 rfl ?_);refine SS.T 16 rfl ?_;refine SS.T 17 rfl ?_;refine SS.done ?_ (by kernel_rfl))
  (repeat' (first|(refine W.go ?_;try intro b_)|fail))
  refine Fin.to [(d,cl F0 54)] ?_
  exact F.f1 ⟨rfl,rfl⟩
 ·have hn2:¬ ((n:Nat):Int)=256*(len:Int):=by omega
  rw [decide_eq_false hn]
  (refine SL.nilB ?_;(first|refine SS.sk 13 rfl ?_|refine SS.T 13 rfl ?_);(first|refine SS.sk 14 rfl ?_|refine SS.T 14 rfl ?_);(first|refine SS.sk 15 rfl ?_|refine SS.T 15 rfl ?_);refine SS.T 16 rfl ?_;refine SS.T 17 rfl ?_;refine SS.done ?_ (by kernel_rfl))
  (repeat' (first|(refine W.go ?_;try intro b_)|fail))
  refine Fin.to [(d,cl F0 54)] ?_
  exact F.f1 ⟨rfl,rfl⟩
end Go.Proofs.YtnigolgkkjidiaaGreat
