/- A Meta of free pages may be; a new one; two that are compared. -/
import Derived.Test.YtnigolgkkjidiaaGreatPm11
import Derived.Test.YtnigolgkkjidiaaGreatPm38
import Derived.Test.YtnigolgkkjidiaaGreatPm5
import Derived.Test.YtnigolgkkjidiaaGreatPm2
set_option linter.unusedVariables false
set_option linter.unusedSimpArgs false
set_option linter.unusedSectionVars false
set_option maxHeartbeats 1000000
namespace Go.Proofs.YtnigolgkkjidiaaGreat
open Go
attribute [local irreducible] SW SL SQ SH SA SS Pu Fin CutF HandF
theorem ok34':Gm.Ok 3 4:=⟨by decide,by decide,by decide,by decide⟩
theorem gmaps34_p:Tri Tryz.prog 76 [geoV 3 4] [] (fun _=>True) (fun v H=>v=.int .i64 1∧H=[]):=by
 have h1:Tri Tryz.prog 147 [geoV 3 4] [] (fun _=>True) (fun v H=>v=.int .i64 1∧H=[]):=by
  refine Tri.mk Tryz.func147 rfl Tryz.ntmps147 rfl fun w hw=>?_
  repeat' (first|(refine W.go ?_;try intro b_)|fail)
  refine W.call (gup_p 3 16 (by decide) (by decide) (by decide)) ?_
  rintro _ _ ⟨rfl,rfl⟩
  rw [show ((Gm.up 3 16:Nat):Int)=1 from rfl]
  repeat' (first|(refine W.go ?_;try intro b_)|fail)
  refine Fin.to [] ?_
  exact F.f1 ⟨rfl,rfl⟩
 refine Tri.mk Tryz.func76 rfl Tryz.ntmps76 rfl fun w hw=>?_
 have hc:=gasked_p ok34' h1
 repeat' (first|(refine W.go ?_;try intro b_)|fail)
 refine W.call hc ?_
 rintro _ _ ⟨rfl,rfl⟩
 repeat' (first|(refine W.go ?_;try intro b_)|fail)
 refine Fin.to [] ?_
 exact F.f1 ⟨rfl,rfl⟩
abbrev metaC(n:Int)(l:List Int)(pv:Value):List Value:=rootC n l++[pv]
theorem mMayZ_p(pv:Value):Tri Tryz.prog 80 [.agg (metaC 1 (List.replicate 16 0) pv).toArray,geoV 3 4] [] (fun w=>Rd [] w 5 pv (pgsC (zpg 3))) (fun v H=>v=.bool true∧H=[]):=by
 refine Tri.mk Tryz.func80 rfl Tryz.ntmps80 rfl fun w hw=>?_
 have hp1:=hw.isOne
 have hw2:=hw
 obtain⟨a,len,cap,rfl,hl,hc,hr⟩:=hw.get
 have hl3:len=3:=by
  have:(pgsC (zpg 3)).length=15:=rfl
  omega
 subst hl3
 have hml:(metaC 1 (List.replicate 16 0) (.slice a 3 cap)).length=18:=rfl
 have hmo:OC (metaC 1 (List.replicate 16 0) (.slice a 3 cap)):=inferInstance
 have h0:(metaC 1 (List.replicate 16 0) (.slice a 3 cap))[0]?=some (.int .u64 1):=rfl
 have h17:(metaC 1 (List.replicate 16 0) (.slice a 3 cap))[17]?=some (.slice a 3 cap):=rfl
 have hlate:=fun m v=>pcont_p (g:=156) (fs:=[]) (cs:=[ptv m]) (Hc:=[(m,cl (metaC 1 (List.replicate 16 0) (.slice a 3 cap)) 91)]) (β:=lateB 1) (zpg 3) (fun p hp=>late_p (pv:=.slice a 3 cap) (T:=91) p (by rw [List.length_replicate])) (by decide) v
 rw [show (zpg 3).any (lateB 1)=false from rfl] at hlate
 generalize hZ:metaC 1 (List.replicate 16 0) (.slice a 3 cap)=Z at *
 repeat' (first|(refine W.go ?_;try intro b_)|fail)
 rename_i m
 refine W.call (gcheck_p ok34') ?_
 rintro _ _ ⟨rfl,rfl⟩
 repeat' (first|(refine W.go ?_;try intro b_)|fail)
 refine W.call (pcheckZ_p 3 (by decide) _) ?_ (hpre:=fun w2 hs=>hw2.ro (Hc:=[]) hs)
 rintro _ _ ⟨rfl,rfl⟩
 repeat' (first|(refine W.go ?_;try intro b_)|fail)
 refine W.call (hlate m _) ?_ (hpre:=fun w2 hs=>hw2.ro (Hc:=[(m,cl Z 91)]) hs)
 rintro _ _ ⟨rfl,rfl⟩
 repeat' (first|(refine W.go ?_;try intro b_)|fail)
 refine Fin.to [] ?_
 exact F.f1 ⟨rfl,rfl⟩
theorem mNewZ_p:Tri Tryz.prog 37 [geoV 3 4] [] (fun _=>True) (fun v H=>∃ pv,v=.agg (metaC 1 (List.replicate 16 0) pv).toArray∧Sl 185 5 pv (pgsC (zpg 3)) H):=by
 refine Tri.mk Tryz.func37 rfl Tryz.ntmps37 rfl fun w hw=>?_
 have hb1:bfill (fun i=>[(0,1),(1,16)][i]?) ([.int .u64 0]++List.replicate 16 (.int .u64 0)) [(0,.int .u64 1)]=some root0:=rfl
 repeat' (first|(refine W.go ?_;try intro b_)|fail)
 refine W.call (gcheck_p ok34') ?_
 rintro _ _ ⟨rfl,rfl⟩
 repeat' (first|(refine W.go ?_;try intro b_)|fail)
 exact F.cH [(b_,cl (zs [.int .i64 0,.int .i64 0,.int .i64 0,.int .i64 0,.int .u64 0] 3) 185)] (metaC 1 (List.replicate 16 0) (.slice (some ⟨b_,0,none⟩) 3 3)) ⟨_,rfl,Sl.own 185 5 b_ (len:=3) (xs:=pgsC (zpg 3)) rfl⟩
theorem pequal_p(ps qs:List Pg)(v u:Value)(hn:ps.length≤1000000):Tri Tryz.prog 99 [v,u] [] (fun w=>Rd [] w 5 v (pgsC ps)∧Rd [] w 5 u (pgsC qs)) (fun r H=>r=.bool (decide (ps=qs))∧H=[]):=by
 refine Tri.mk Tryz.func99 rfl Tryz.ntmps99 rfl fun w hw=>?_
 obtain⟨hv,hu⟩:=hw
 have hL:∀ (ps:List Pg),∀ y∈ps.map pgC,y.length=5:=fun ps y hy=>by
  obtain⟨x,hx,rfl⟩:=List.mem_map.1 hy
  exact pgC_len x
 obtain⟨a,cap,rfl,hcap,hgt⟩:=hv.rows (by decide) (hL ps)
 obtain⟨a2,cap2,rfl,hcap2,hgt2⟩:=hu.rows (by decide) (hL qs)
 rw [List.length_map] at hcap hcap2
 rw [List.length_map,List.length_map]
 by_cases hlen:ps.length=qs.length
 ·repeat' (first|(refine W.gb ?_;try intro b_)|fail)
  refine SW.cutH [] [] (fun _:Unit=>[]) (fun _=>[]) (fun _=>ps=qs) ?_ ?_
  ·repeat' (first|(refine W.go ?_;try intro b_)|fail)
   refine SW.loopF [0,1,12] (fun i:Nat=>[(13,.int .i64 (i:Int))]) (fun _=>[]) (fun i=>ps.length-i) (fun i=>i≤ps.length∧ps.take i=qs.take i) 0 ⟨Nat.zero_le _,rfl⟩ ?_
   rintro i ⟨hi,hbad⟩
   by_cases hin:i<ps.length
   ·obtain⟨x,hx⟩:∃ x,ps[i]?=some x:=⟨_,List.getElem?_eq_getElem hin⟩
    obtain⟨y,hy⟩:∃ y,qs[i]?=some y:=⟨_,List.getElem?_eq_getElem (by omega)⟩
    obtain⟨pb,po,lv,T,fz,rfl,hb,hk,hvv⟩:=hgt i (pgC x) (by rw [List.getElem?_map,hx];rfl)
    obtain⟨pb2,po2,lv2,T2,fz2,rfl,hb2,hk2,hvv2⟩:=hgt2 i (pgC y) (by rw [List.getElem?_map,hy];rfl)
    have hxl:=pgC_len x
    have hyl:=pgC_len y
    by_cases hxy:x=y
    ·repeat' (first|(refine W.go ?_;try intro b_)|fail)
     (refine SW.regionS [] ?_ (by kernel_rfl);refine SS.tw 0 rfl (p_move rfl rfl) ?_;refine SS.tw 1 rfl (p_move rfl rfl) ?_;(first|refine SS.tw 2 rfl (p_ix rfl rfl rfl (by omega)) ?_|refine SS.tw 2 rfl (p_ixa rfl rfl rfl (by omega)) ?_);(first|refine SS.lw 3 [] rfl ?_|refine SS.la 3 [] rfl ?_|refine SS.aR 3 rfl ?_);refine SS.tw 4 rfl (p_move rfl rfl) ?_;refine SS.tw 5 rfl (p_move rfl rfl) ?_;(first|refine SS.tw 6 rfl (p_ix rfl rfl rfl (by omega)) ?_|refine SS.tw 6 rfl (p_ixa rfl rfl rfl (by omega)) ?_);(first|refine SS.lw 7 [] rfl ?_|refine SS.la 7 [] rfl ?_|refine SS.aR 7 rfl ?_);refine SS.tw 8 rfl (p_neS_f rfl rfl rfl (pgQ_of x) (pgQ_of y) (by rw [hxy])) ?_;refine SS.done ?_ (by kernel_rfl))
     repeat' (first|(refine W.go ?_;try intro b_)|fail)
     refine HandF.mk (i+1) ?_
     exact⟨hin,by rw [List.take_add_one,List.take_add_one,hbad,hx,hy,hxy]⟩
    ·have hne:¬ ps=qs:=fun h=>by
      rw [h,hy] at hx
      exact hxy (Option.some.inj hx).symm
     rw [decide_eq_false hne]
     repeat' (first|(refine W.go ?_;try intro b_)|fail)
     (refine SW.regionS [] ?_ (by kernel_rfl);refine SS.tw 0 rfl (p_move rfl rfl) ?_;refine SS.tw 1 rfl (p_move rfl rfl) ?_;(first|refine SS.tw 2 rfl (p_ix rfl rfl rfl (by omega)) ?_|refine SS.tw 2 rfl (p_ixa rfl rfl rfl (by omega)) ?_);(first|refine SS.lw 3 [] rfl ?_|refine SS.la 3 [] rfl ?_|refine SS.aR 3 rfl ?_);refine SS.tw 4 rfl (p_move rfl rfl) ?_;refine SS.tw 5 rfl (p_move rfl rfl) ?_;(first|refine SS.tw 6 rfl (p_ix rfl rfl rfl (by omega)) ?_|refine SS.tw 6 rfl (p_ixa rfl rfl rfl (by omega)) ?_);(first|refine SS.lw 7 [] rfl ?_|refine SS.la 7 [] rfl ?_|refine SS.aR 7 rfl ?_);refine SS.tw 8 rfl (p_neS_t rfl rfl rfl (pgQ_of x) (pgQ_of y) (fun hh=>hxy (pgC_inj hh))) ?_;refine SS.done ?_ (by kernel_rfl))
     repeat' (first|(refine W.go ?_;try intro b_)|fail)
     refine Fin.to [] ?_
     exact F.f1 ⟨rfl,rfl⟩
   ·have hi2:i=ps.length:=by omega
    subst hi2
    rw [List.take_length,hlen,List.take_length] at hbad
    repeat' (first|(refine W.go ?_;try intro b_)|fail)
    refine CutF.mk () ?_
    exact hbad
  rintro _ he
  rw [decide_eq_true he]
  repeat' (first|(refine W.go ?_;try intro b_)|fail)
  refine Fin.to [] ?_
  exact F.f1 ⟨rfl,rfl⟩
 ·rw [decide_eq_false fun h=>hlen (by rw [h])]
  repeat' (first|(refine W.go ?_;try intro b_)|fail)
  refine Fin.to [] ?_
  exact F.f1 ⟨rfl,rfl⟩
def rtQ(l:List Value):Prop:=
 (∃ n,(l.drop 0).take 1=[.int .u64 n])∧(((l.drop (0+1)).take 16).length=16∧∀ i,(i+1)*1≤((l.drop (0+1)).take 16).length→∃ n,((((l.drop (0+1)).take 16).drop (i*1)).take 1)=[.int .u64 n])∧l.length=17
instance rtEq:EqS Tryz.prog 88 rtQ where
 under:=by kernel_rfl
 held:=by kernel_rfl
 guard:=by kernel_rfl
 cov:=by
  refine⟨_,2,17,Tryz.underlying88,by decide,?_⟩
  unfold rtQ
  refine Cov.cons (n:=1) (D':=1) (agg:=false) (p:=fun l=>∃ n,l=[.int .u64 n]) ?_ rfl ?_ ?_ ?_
  ·decide
  ·exact EqOk.int (t:=28) Tryz.underlying28
  ·decide
  refine Cov.cons (n:=16) (D':=2) (agg:=true) (p:=fun l=>l.length=16∧∀ i,(i+1)*1≤l.length→∃ n,(l.drop (i*1)).take 1=[.int .u64 n]) ?_ rfl ?_ ?_ ?_
  ·decide
  ·exact EqOk.array (t:=86) (m:=16) (n:=1) Tryz.underlying86 (by kernel_rfl) rfl (EqOk.int (t:=85) Tryz.underlying85)
  ·decide
  exact .nil 17
instance rrtEq:EqS Tryz.prog 79 rtQ where
 under:=by kernel_rfl
 held:=by kernel_rfl
 guard:=by kernel_rfl
 cov:=by
  refine⟨_,2,17,Tryz.underlying79,by decide,?_⟩
  unfold rtQ
  refine Cov.cons (n:=1) (D':=1) (agg:=false) (p:=fun l=>∃ n,l=[.int .u64 n]) ?_ rfl ?_ ?_ ?_
  ·decide
  ·exact EqOk.int (t:=28) Tryz.underlying28
  ·decide
  refine Cov.cons (n:=16) (D':=2) (agg:=true) (p:=fun l=>l.length=16∧∀ i,(i+1)*1≤l.length→∃ n,(l.drop (i*1)).take 1=[.int .u64 n]) ?_ rfl ?_ ?_ ?_
  ·decide
  ·exact EqOk.array (t:=77) (m:=16) (n:=1) Tryz.underlying77 (by kernel_rfl) rfl (EqOk.int (t:=28) Tryz.underlying28)
  ·decide
  exact .nil 17
theorem rtQ_of(n:Int)(l:List Int)(hl:l.length=16):rtQ (rootC n l):=by
 have h1:((rootC n l).drop (0+1)).take 16=l.map fun h=>(.int .u64 h:Value):=by
  show (l.map fun h=>(.int .u64 h:Value)).take 16=_
  rw [List.take_of_length_le (by rw [List.length_map,hl];omega)]
 refine⟨⟨n,rfl⟩,⟨by rw [h1,List.length_map,hl],fun i hi=>?_⟩,by rw [rootC_len,hl]⟩
 rw [h1] at hi ⊢
 rw [List.length_map] at hi
 have hi2:i<l.length:=by omega
 refine⟨l[i],?_⟩
 rw [Nat.mul_one,List.drop_eq_getElem_cons (by rw [List.length_map];exact hi2)]
 simp
theorem rootC_inj{n m:Int}{l k:List Int}(h:rootC n l=rootC m k):n=m∧l=k:=by
 unfold rootC at h
 rw [List.cons.injEq] at h
 obtain⟨h1,h2⟩:=h
 injection h1 with _ h1
 refine⟨h1,?_⟩
 exact (List.map_inj_right fun a b h=>by injection h).1 h2
theorem mSame_p(n m:Int)(l k:List Int)(hl:l.length=16)(hk:k.length=16)(ps qs:List Pg)(pv qv:Value)(hn:ps.length≤1000000):Tri Tryz.prog 39 [.agg (metaC n l pv).toArray,.agg (metaC m k qv).toArray] [] (fun w=>Rd [] w 5 pv (pgsC ps)∧Rd [] w 5 qv (pgsC qs)) (fun r H=>r=.bool (decide (n=m∧l=k∧ps=qs))∧H=[]):=by
 refine Tri.mk Tryz.func39 rfl Tryz.ntmps39 rfl fun w hw=>?_
 obtain⟨hv,hu⟩:=hw
 have hv1:=hv.isOne
 have hu1:=hu.isOne
 have f1:(metaC n l pv).length=18:=by rw [List.length_append,rootC_len,hl];rfl
 have f2:(metaC m k qv).length=18:=by rw [List.length_append,rootC_len,hk];rfl
 have o1:OC (metaC n l pv):=inferInstance
 have o2:OC (metaC m k qv):=inferInstance
 have t1:((metaC n l pv).drop 0).take 17=rootC n l:=by rw [List.drop_zero,List.take_append_of_le_length (by rw [rootC_len,hl];omega),List.take_of_length_le (by rw [rootC_len,hl];omega)]
 have t2:((metaC m k qv).drop 0).take 17=rootC m k:=by rw [List.drop_zero,List.take_append_of_le_length (by rw [rootC_len,hk];omega),List.take_of_length_le (by rw [rootC_len,hk];omega)]
 have g1:(metaC n l pv)[17]?=some pv:=by rw [List.getElem?_append_right (by rw [rootC_len,hl];omega),rootC_len,hl];rfl
 have g2:(metaC m k qv)[17]?=some qv:=by rw [List.getElem?_append_right (by rw [rootC_len,hk];omega),rootC_len,hk];rfl
 have r1:(rootC n l).length=17:=by rw [rootC_len,hl]
 have r2:(rootC m k).length=17:=by rw [rootC_len,hk]
 have q1:=rtQ_of n l hl
 have q2:=rtQ_of m k hk
 generalize metaC n l pv=X at *
 generalize metaC m k qv=Y at *
 by_cases he:n=m∧l=k
 ·obtain⟨rfl,rfl⟩:=he
  rw [show decide (n=n∧l=l∧ps=qs)=decide (ps=qs) by simp]
  repeat' (first|(refine W.go ?_;try intro b_)|fail)
  refine SL.pu (p_eqS_t rfl rfl rfl q1 q2 rfl) rfl rfl ?_
  repeat' (first|(refine W.go ?_;try intro b_)|fail)
  refine W.call (pequal_p ps qs pv qv hn) ?_ (hpre:=fun w2 hs=>⟨hv.ro (Hc:=[]) hs,hu.ro (Hc:=[]) hs⟩)
  rintro _ _ ⟨rfl,rfl⟩
  repeat' (first|(refine W.go ?_;try intro b_)|fail)
  refine Fin.to [] ?_
  exact F.f1 ⟨rfl,rfl⟩
 ·rw [decide_eq_false fun h=>he ⟨h.1,h.2.1⟩]
  repeat' (first|(refine W.go ?_;try intro b_)|fail)
  refine SL.pu (p_eqS_f rfl rfl rfl q1 q2 (fun hh=>he (rootC_inj hh))) rfl rfl ?_
  repeat' (first|(refine W.go ?_;try intro b_)|fail)
  refine Fin.to [] ?_
  exact F.f1 ⟨rfl,rfl⟩
end Go.Proofs.YtnigolgkkjidiaaGreat
namespace Go.Proofs.YtnigolgkkjidiaaGreat
open Go Go.ChangeShapes Go.WideShapes Go.ChangeAt Go.RowKit
section
variable {H:Type}{enc:TypeId×Value→H}{w:World}{sp:Nat→Bool}{hd:Bool}
set_option maxRecDepth 100000 in
theorem trod_pg{fuel:Nat}{cs:List Value}{x:DataW H×List MemPlace}(h:DataW.trod enc Tryz.prog w 0 sp hd fuel 177 cs=some x):∃ p:Pg,cs=pgC p:=by
 obtain⟨xs,m,-,-,hl,hxl,hx⟩:=DataW.trod_struct Tryz.underlying177 h
 have c0:Tryz.prog.cellsOf 3=1:=by kernel_rfl
 have c1:Tryz.prog.cellsOf 28=1:=by kernel_rfl
 have c4:Tryz.prog.cellsOf 177=5:=by kernel_rfl
 rw [c4] at hl
 have hn:xs.length=5:=hxl
 have h0:DataW.trod enc Tryz.prog w 0 sp hd m 3 ((cs.drop 0).take (Tryz.prog.cellsOf 3))=xs[0]?:=hx 0 _ rfl
 have h1:DataW.trod enc Tryz.prog w 0 sp hd m 3 ((cs.drop 1).take (Tryz.prog.cellsOf 3))=xs[1]?:=hx 1 _ rfl
 have h2:DataW.trod enc Tryz.prog w 0 sp hd m 3 ((cs.drop 2).take (Tryz.prog.cellsOf 3))=xs[2]?:=hx 2 _ rfl
 have h3:DataW.trod enc Tryz.prog w 0 sp hd m 3 ((cs.drop 3).take (Tryz.prog.cellsOf 3))=xs[3]?:=hx 3 _ rfl
 have h4:DataW.trod enc Tryz.prog w 0 sp hd m 28 ((cs.drop 4).take (Tryz.prog.cellsOf 28))=xs[4]?:=hx 4 _ rfl
 rw [c0] at h0 h1 h2 h3
 rw [c1] at h4
 rw [List.getElem?_eq_getElem (by omega)] at h0 h1 h2 h3 h4
 obtain⟨n0,e0,a0,b0⟩:=trod_intG Tryz.underlying3 h0
 obtain⟨n1,e1,a1,b1⟩:=trod_intG Tryz.underlying3 h1
 obtain⟨n2,e2,a2,b2⟩:=trod_intG Tryz.underlying3 h2
 obtain⟨n3,e3,a3,b3⟩:=trod_intG Tryz.underlying3 h3
 obtain⟨n4,e4,a4,b4⟩:=trod_intG Tryz.underlying28 h4
 refine⟨⟨n0,n1,n2,n3,n4⟩,?_⟩
 match cs,hl with
 | [x0,x1,x2,x3,x4],_=>
  simp at e0 e1 e2 e3 e4
  subst e0 e1 e2 e3 e4
  rfl
theorem rows_pg:∀ (len:Nat) (ys:List Value),ys.length=len*5→(∀ i,i<len→∃ p,(ys.drop (i*5)).take 5=pgC p)→∃ ps:List Pg,ys=pgsC ps
 | 0,ys,hy,_=>⟨[],List.eq_nil_of_length_eq_zero (by omega)⟩
 | len+1,ys,hy,h=>by
  obtain⟨p0,h0⟩:=h 0 (by omega)
  rw [Nat.zero_mul,List.drop_zero] at h0
  obtain⟨ps,hps⟩:=rows_pg len (ys.drop 5) (by rw [List.length_drop];omega) (fun i hi=>by
   obtain⟨p,hp⟩:=h (i+1) (by omega)
   refine⟨p,?_⟩
   rw [List.drop_drop,show 5+i*5=(i+1)*5 by omega];exact hp)
  refine⟨p0::ps,?_⟩
  show ys=pgC p0++pgsC ps
  rw [← hps,← h0,List.take_append_drop]
theorem all_u64(ys:List Value)(h:∀ v∈ys,∃ n:Int,v=.int .u64 n):∃ l:List Int,l.length=ys.length∧ys=l.map fun n=>(.int .u64 n:Value):=by
 refine⟨ys.map fun v=>match v with|.int _ n=>n|_=>0,by simp,?_⟩
 rw [List.map_map]
 refine (List.map_id ys).symm.trans (List.map_congr_left fun v hv=>?_)
 obtain⟨n,h1⟩:=h v hv
 simp only [id,Function.comp,h1]
set_option maxRecDepth 100000 in
theorem trod_rt{fuel:Nat}{cs:List Value}{x:DataW H×List MemPlace}(h:DataW.trod enc Tryz.prog w 0 sp hd fuel 79 cs=some x):∃ (n:Int) (l:List Int),l.length=16∧cs=rootC n l:=by
 obtain⟨xs,m,-,-,hl,hxl,hx⟩:=DataW.trod_struct Tryz.underlying79 h
 have c0:Tryz.prog.cellsOf 28=1:=by kernel_rfl
 have c1:Tryz.prog.cellsOf 77=16:=by kernel_rfl
 have c4:Tryz.prog.cellsOf 79=17:=by kernel_rfl
 rw [c4] at hl
 have hn:xs.length=2:=hxl
 have h0:DataW.trod enc Tryz.prog w 0 sp hd m 28 ((cs.drop 0).take (Tryz.prog.cellsOf 28))=xs[0]?:=hx 0 _ rfl
 have h1:DataW.trod enc Tryz.prog w 0 sp hd m 77 ((cs.drop 1).take (Tryz.prog.cellsOf 77))=xs[1]?:=hx 1 _ rfl
 rw [c0] at h0
 rw [c1] at h1
 rw [List.getElem?_eq_getElem (by omega)] at h0 h1
 obtain⟨n,e0,-,-⟩:=trod_intG Tryz.underlying28 h0
 obtain⟨ys,m2,-,-,hl1,hl2,hel⟩:=DataW.trod_array Tryz.underlying77 h1
 obtain⟨l,hll,he⟩:=all_u64 ((cs.drop 1).take 16) (fun v hv=>by
  obtain⟨i,hi,rfl⟩:=List.mem_iff_getElem.1 hv
  have hi16:i<16:=by rw [List.length_take] at hi;omega
  have h3:=hel i hi16
  rw [c0,Nat.mul_one,List.drop_eq_getElem_cons hi,List.getElem?_eq_getElem (by omega)] at h3
  simp only [List.take_succ_cons,List.take_zero] at h3
  obtain⟨n,h4,-,-⟩:=trod_intG Tryz.underlying28 h3
  simp only [List.cons.injEq,and_true] at h4
  exact⟨n,h4⟩)
 refine⟨n,l,by rw [hll,List.length_take,List.length_drop];omega,?_⟩
 match cs,hl with
 | c::r,hl=>
  simp only [List.drop_zero,List.take_succ_cons,List.take_zero,List.cons.injEq,and_true] at e0
  subst e0
  have hr:r.length=16:=by simpa using hl
  rw [show ((Value.int .u64 n::r).drop 1).take 16=r by rw [List.drop_succ_cons,List.drop_zero,List.take_of_length_le (by omega)]] at he
  rw [he];rfl
set_option maxRecDepth 100000 in
theorem trod_meta{fuel:Nat}{cs:List Value}{x:DataW H×List MemPlace}(h:DataW.trod enc Tryz.prog w 0 sp hd fuel 82 cs=some x):∃ (n:Int) (l:List Int) (a:Option Addr) (len cap:Nat) (ps:List Pg),cs=metaC n l (.slice a len cap)∧l.length=16∧Rd [] w 5 (.slice a len cap) (pgsC ps):=by
 obtain⟨xs,m,-,-,hl,hxl,hx⟩:=DataW.trod_struct Tryz.underlying82 h
 have c0:Tryz.prog.cellsOf 79=17:=by kernel_rfl
 have c1:Tryz.prog.cellsOf 80=1:=by kernel_rfl
 have c2:Tryz.prog.cellsOf 177=5:=by kernel_rfl
 have c4:Tryz.prog.cellsOf 82=18:=by kernel_rfl
 rw [c4] at hl
 have hn:xs.length=2:=hxl
 have h0:DataW.trod enc Tryz.prog w 0 sp hd m 79 ((cs.drop 0).take (Tryz.prog.cellsOf 79))=xs[0]?:=hx 0 _ rfl
 have h1:DataW.trod enc Tryz.prog w 0 sp hd m 80 ((cs.drop 17).take (Tryz.prog.cellsOf 80))=xs[1]?:=hx 1 _ rfl
 rw [c0] at h0
 rw [c1] at h1
 rw [List.getElem?_eq_getElem (by omega)] at h0 h1
 obtain⟨n,l,hll,e0⟩:=trod_rt h0
 obtain⟨a,len,cap,ys,e1,-,-,hrd,hyl,hG⟩:=open_slT (G:=fun cs=>∃ p:Pg,cs=pgC p) Tryz.underlying80 c2 (by decide) h1 (fun fuel cells z h=>trod_pg h)
 obtain⟨ps,hps⟩:=rows_pg len ys hyl hG
 subst hps
 refine⟨n,l,a,len,cap,ps,?_,hll,hrd⟩
 rw [List.drop_zero] at e0
 rw [← List.take_append_drop 17 cs,e0]
 have hd1:(cs.drop 17).length=1:=by rw [List.length_drop];omega
 rw [List.take_of_length_le (by omega)] at e1
 rw [e1]
set_option maxRecDepth 100000 in
theorem open_meta{b:Nat}{r:Reach}{v:Value}{d:DataW H}{ps:List MemPlace}(hval:Value.okWide Tryz.prog w r b 82 v)(hd':DataW.Trod enc Tryz.prog w 0 sp hd 82 v d ps) :
  ∃ (n:Int) (l:List Int) (a:Option Addr) (len cap:Nat) (ps:List Pg),v=.agg (metaC n l (.slice a len cap)).toArray∧l.length=16∧Rd [] w 5 (.slice a len cap) (pgsC ps):=by
 unfold Value.okWide at hval
 rw [Tryz.underlying82] at hval
 obtain⟨cs,rfl,-⟩:=hval
 obtain⟨fuel,h⟩:=hd'
 obtain⟨n,l,a,len,cap,ps,h1,h2,h3⟩:=trod_meta h
 refine⟨n,l,a,len,cap,ps,?_,h2,h3⟩
 rw [← h1]
 simp [Value.cells]
end
end Go.Proofs.YtnigolgkkjidiaaGreat
