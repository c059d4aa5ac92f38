/- Metas are cut, and are the program's. -/
import Derived.Test.YtnigolgkkjidiaaGreatPm39
import Derived.Test.YtnigolgkkjidiaaGreatPm36
set_option linter.unusedVariables false
set_option linter.unusedSimpArgs false
set_option linter.unusedSectionVars false
set_option maxHeartbeats 1000000
namespace Go.Proofs.YtnigolgkkjidiaaGreat
open Go
attribute [local irreducible] SW SL SQ SH SA SS Pu Fin CutF HandF
theorem metaC_set(n:Int)(l:List Int)(hl:l.length=16)(p q:Value):(metaC n l p).set 17 q=metaC n l q:=by
 show (rootC n l++[p]).set 17 q=rootC n l++[q]
 rw [List.set_append_right _ _ (by rw [rootC_len,hl];omega),rootC_len,hl];rfl
theorem rootC_set(n:Int)(k:List Int)(i:Nat)(h:Int):(rootC n k).set (1+i) (.int .u64 h)=rootC n (k.set i h):=by
 unfold rootC
 rw [Nat.add_comm,List.set_cons_succ,List.map_set]
theorem hOurs_p(n:Int)(l:List Int)(hl:l.length=16):Tri Tryz.prog 95 [.agg (rootC n l).toArray] [] (fun _=>True) (fun r H=>r=.agg (rootC n l).toArray∧H=[]):=by
 refine Tri.mk Tryz.func95 rfl Tryz.ntmps95 rfl fun w hw=>?_
 have f1:(rootC n l).length=17:=by rw [rootC_len,hl]
 have o1:OC (rootC n l):=inferInstance
 have g0:(rootC n l)[0]?=some (.int .u64 n):=rfl
 have t1:((rootC n l).drop 1).take 16=l.map fun h=>(.int .u64 h:Value):=by
  show (l.map fun h=>(.int .u64 h:Value)).take 16=_
  rw [List.take_of_length_le (by rw [List.length_map,hl];omega)]
 have hll:(l.map fun h=>(.int .u64 h:Value)).length=16:=by rw [List.length_map,hl]
 have hb:bfill (fun i=>[(0,1),(1,16)][i]?) ([.int .u64 0]++List.replicate 16 (.int .u64 0)) [(0,.int .u64 n)]=some (rootC n (List.replicate 16 0)):=rfl
 have f0:(rootC n (List.replicate 16 0)).length=17:=rfl
 have o0:OC (rootC n (List.replicate 16 0)):=inferInstance
 repeat' (first|(refine W.gb ?_;try intro b_)|fail)
 rename_i bx r2
 refine SW.block ?_
 repeat' (first|(refine W.gb ?_;try intro b_)|fail)
 refine SW.loopG [2,3,10] [b_] (fun x:Nat×List Int=>[(11,.int .i64 x.1)]) (fun x=>[(b_,cl (rootC n x.2) 88)]) (fun x=>16-x.1) (fun x=>x.1≤16∧x.2.length=16∧x.2.take x.1=l.take x.1) (0,List.replicate 16 0) ⟨by decide,rfl,rfl⟩ ?_
 rintro⟨i,k⟩ ⟨hi,hk,hkl⟩
 dsimp only at hi hk hkl ⊢
 have fk:(rootC n k).length=17:=by rw [rootC_len,hk]
 have ok:OC (rootC n k):=inferInstance
 by_cases hin:i<16
 ·obtain⟨h,hh⟩:∃ h,l[i]?=some h:=⟨_,List.getElem?_eq_getElem (by omega)⟩
  have hidx:(l.map fun h=>(.int .u64 h:Value))[i]?=some (.int .u64 h):=by rw [List.getElem?_map,hh];rfl
  have hset:=rootC_set n k i h
  have hlt:1+i<(rootC n k).length:=by rw [fk];omega
  repeat' (first|(refine W.go ?_;try intro b_)|fail)
  rw [hset]
  refine HandF.mk (i+1,k.set i h) ?_
  refine⟨hin,by dsimp only;rw [List.length_set];exact hk,?_⟩
  dsimp only
  rw [List.take_add_one,List.take_add_one,hh,List.getElem?_set_self (by omega),List.take_set_of_le (Nat.le_refl _),hkl]
 ·have h16:i=16:=by omega
  subst h16
  have hke:k=l:=by
   rw [← List.take_of_length_le (l:=k) (i:=16) (by omega),← List.take_of_length_le (l:=l) (i:=16) (by omega)];exact hkl
  subst hke
  repeat' (first|(refine W.go ?_;try intro b_)|fail)
  exact F.c0 (rootC n k) ⟨rfl,rfl⟩
theorem pgsC_snoc(ps:List Pg)(p:Pg):pgsC ps++pgC p=pgsC (ps++[p]):=by
 show _=((ps++[p]).map pgC).flatten
 rw [List.map_append,List.flatten_append]
 simp only [List.map_cons,List.map_nil,List.flatten_cons,List.flatten_nil,List.append_nil]
theorem pgsC_len(ps:List Pg):(pgsC ps).length=ps.length*5:=by
 rw [flatN_len (n:=5) fun x hx=>by obtain⟨y,-,rfl⟩:=List.mem_map.1 hx;exact pgC_len y,List.length_map]
theorem pOurs_p(ps:List Pg)(v:Value)(hn:ps.length≤1000000):Tri Tryz.prog 96 [v] [] (fun w=>Rd [] w 5 v (pgsC ps)) (fun r H=>Sl 185 5 r (pgsC ps) H):=by
 refine Tri.mk Tryz.func96 rfl Tryz.ntmps96 rfl fun w hw=>?_
 have hL:∀ y∈ps.map pgC,y.length=5:=fun y hy=>by
  obtain⟨x,hx,rfl⟩:=List.mem_map.1 hy
  exact pgC_len x
 obtain⟨a,cap,rfl,hcap,hgt⟩:=hw.rows (by decide) hL
 rw [List.length_map] at hcap ⊢
 repeat' (first|(refine W.gb ?_;try intro b_)|fail)
 refine SW.block ?_
 repeat' (first|(refine W.gb ?_;try intro b_)|fail)
 refine SW.loopF [6,7] (fun x:Nat×Value×Hp=>[(3,x.2.1),(8,.int .i64 x.1)]) (fun x=>x.2.2) (fun x=>ps.length-x.1) (fun x=>x.1≤ps.length∧Sl 185 5 x.2.1 (pgsC (ps.take x.1)) x.2.2) (0,.slice none 0 0,[]) ⟨Nat.zero_le _,by rw [List.take_zero];exact Sl.nil _ _⟩ ?_
 rintro⟨i,sv,Hs⟩ ⟨hi,hS⟩
 dsimp only at hi hS ⊢
 have hS1:=hS.isOne
 by_cases hin:i<ps.length
 ·obtain⟨x,hx⟩:∃ x,ps[i]?=some x:=⟨_,List.getElem?_eq_getElem hin⟩
  obtain⟨pb,po,lv,T,fz,rfl,hb,hk,hvv⟩:=hgt i (pgC x) (by rw [List.getElem?_map,hx];rfl)
  have hxl:=pgC_len x
  have ht:pgsC (ps.take i)++pgC x=pgsC (ps.take (i+1)):=by rw [pgsC_snoc,List.take_add_one,hx];rfl
  have c0:(pgC x)[0]?=some (.int .i64 x.kind):=rfl
  have c1:(pgC x)[1]?=some (.int .i64 x.cls):=rfl
  have c2:(pgC x)[2]?=some (.int .i64 x.run):=rfl
  have c3:(pgC x)[3]?=some (.int .i64 x.size):=rfl
  have c4:(pgC x)[4]?=some (.int .u64 x.ser):=rfl
  have hb1:bfill (fun i=>[(0,1),(1,1),(2,1),(3,1),(4,1)][i]?) ([.int .i64 0]++[.int .i64 0]++[.int .i64 0]++[.int .i64 0]++[.int .u64 0]) [(0,.int .i64 x.kind),(1,.int .i64 x.cls),(2,.int .i64 x.run),(3,.int .i64 x.size),(4,.int .u64 x.ser)]=some (pgC x):=rfl
  have hb5:bfill (fun i=>some (i*5,5)) (zs [.int .i64 0,.int .i64 0,.int .i64 0,.int .i64 0,.int .u64 0] 1) [(0,.agg (pgC x).toArray)]=some (pgC x):=rfl
  have hox:OC (pgC x):=inferInstance
  have hpl:=pgsC_len (ps.take i)
  rw [List.length_take] at hpl
  generalize pgC x=X at *
  repeat' (first|(refine W.go ?_;try intro b_)|fail)
  refine W.ap (ys:=X) (mm:=1) hS (fun w2 hs=>(Sl.own 185 5 b_ (xs:=X) (by rw [hxl])).srcAt hs inferInstance) (fun v3 H3 h3=>?_) (hys:=by rw [hxl]) (hbytes:=by rw [hpl,hxl];omega)
  have h31:=h3.isOne
  rw [ht] at h3
  repeat' (first|(refine W.go ?_;try intro b_)|fail)
  refine HandF.mk (i+1,v3,H3) ?_
  exact⟨hin,h3⟩
 ·have hi2:i=ps.length:=by omega
  subst hi2
  rw [List.take_length] at hS
  repeat' (first|(refine W.go ?_;try intro b_)|fail)
  refine Fin.to Hs ?_
  exact F.f1 hS
theorem bMeta(n:Int)(l:List Int)(hl:l.length=16)(a:Option Addr)(x c:Nat):bfill (fun i=>[(0,17),(17,1)][i]?) (List.replicate 17 (.int .u64 0)++[.slice none 0 0]) [(0,.agg (rootC n l).toArray),(1,.slice a x c)]=some (metaC n l (.slice a x c)):=by
 match l,hl with
 | [_,_,_,_,_,_,_,_,_,_,_,_,_,_,_,_],_=>rfl
theorem mOurs_p(n:Int)(l:List Int)(hl:l.length=16)(ps:List Pg)(pv:Value)(hn:ps.length≤1000000):Tri Tryz.prog 35 [.agg (metaC n l pv).toArray] [] (fun w=>Rd [] w 5 pv (pgsC ps)) (fun r H=>∃ qv,r=.agg (metaC n l qv).toArray∧Sl 185 5 qv (pgsC ps) H):=by
 refine Tri.mk Tryz.func35 rfl Tryz.ntmps35 rfl fun w hw=>?_
 have hv1:=hw.isOne
 have f1:(metaC n l pv).length=18:=by rw [List.length_append,rootC_len,hl];rfl
 have o1:OC (metaC n l pv):=inferInstance
 have t1:((metaC n l pv).drop 0).take 17=rootC n l:=by rw [List.drop_zero,List.take_append_of_le_length (by rw [rootC_len,hl];omega),List.take_of_length_le (by rw [rootC_len,hl];omega)]
 have g1:(metaC n l pv)[17]?=some pv:=by rw [List.getElem?_append_right (by rw [rootC_len,hl];omega),rootC_len,hl];rfl
 have r1:(rootC n l).length=17:=by rw [rootC_len,hl]
 have hR:=hOurs_p n l hl
 have hP:=pOurs_p ps pv hn
 have f2:∀ qv,(metaC n l qv).length=18:=fun qv=>by rw [List.length_append,rootC_len,hl];rfl
 have hb:=bMeta n l hl
 repeat' (first|(refine W.go ?_;try intro b_)|fail)
 (refine SW.regionS [5,7] ?_ (by kernel_rfl);refine SS.tw 0 rfl (p_fieldAddr rfl rfl OfN.ok) ?_;(first|refine SS.lw 1 [2,5,7] rfl ?_|refine SS.la 1 [2,5,7] rfl ?_|refine SS.aR 1 rfl ?_);refine SS.tw 3 rfl (p_fieldAddr rfl rfl OfN.ok) ?_;(first|refine SS.ls 4 [5,7] rfl ?_|refine SS.sR 4 rfl ?_);refine SS.effK 2 ?_ rfl (by kernel_rfl))
 refine W.call hR ?_
 rintro _ _ ⟨rfl,rfl⟩
 (refine SL.nilB ?_;refine SS.effB 5 ?_ rfl (by kernel_rfl))
 refine W.call hP ?_ (hpre:=fun w2 hs=>hw.ro (Hc:=[]) hs)
 intro qv Hq hq
 have hq1:=hq.isOne
 obtain⟨qa,ql,qc,rfl,-⟩:=hq.form
 have hbq:=hb qa ql qc
 have fq:=f2 (.slice qa ql qc)
 have oq:OC (metaC n l (.slice qa ql qc)):=inferInstance
 (refine SL.nilB ?_;refine SS.tw 6 rfl (p_build rfl rfl (by first|assumption|rfl)) ?_;refine SS.effB 7 ?_ rfl (by kernel_rfl);(repeat' (first|(refine W.g1 ?_;try intro b_)|fail));refine SS.done ?_ (by kernel_rfl))
 repeat' (first|(refine W.go ?_;try intro b_)|fail)
 exact F.cH Hq (metaC n l (.slice qa ql qc)) ⟨_,rfl,hq⟩
theorem mCut_p(n:Int)(l:List Int)(hl:l.length=16)(ps:List Pg)(a:Option Addr)(len cap:Nat):Tri Tryz.prog 26 [.agg #[.int .i64 0,.int .i64 0],.agg (metaC n l (.slice a len cap)).toArray,.bool false] [] (fun w=>Rd [] w 5 (.slice a len cap) (pgsC ps)) (fun r H=>r=.agg (metaC n l (.slice a (min 70 len) cap)).toArray∧H=[]):=by
 refine Tri.mk Tryz.func26 rfl Tryz.ntmps26 rfl fun w hw=>?_
 have f1:(metaC n l (.slice a len cap)).length=18:=by rw [List.length_append,rootC_len,hl];rfl
 have o1:OC (metaC n l (.slice a len cap)):=inferInstance
 have g1:(metaC n l (.slice a len cap))[17]?=some (.slice a len cap):=by rw [List.getElem?_append_right (by rw [rootC_len,hl];omega),rootC_len,hl];rfl
 obtain⟨a',len',cap',he,hll,hc,hr⟩:=hw.get
 cases he
 have hbad:=rgmay_bad (P:=0) (T:=0) (fun h=>absurd h.1 (by decide))
 by_cases h70:70<len
 ·obtain⟨b0,o0,l0,T0,fz0,rfl,-⟩:=hr (by omega)
  have hs:=metaC_set n l hl (.slice (some ⟨b0,o0,none⟩) len cap) (.slice (some ⟨b0,o0,none⟩) 70 cap)
  have f2:(metaC n l (.slice (some ⟨b0,o0,none⟩) 70 cap)).length=18:=by rw [List.length_append,rootC_len,hl];rfl
  rw [show min 70 len=70 by omega]
  have o2:OC (metaC n l (.slice (some ⟨b0,o0,none⟩) 70 cap)):=inferInstance
  have hlt:17<(metaC n l (.slice (some ⟨b0,o0,none⟩) len cap)).length:=by rw [f1];omega
  generalize metaC n l (.slice (some ⟨b0,o0,none⟩) len cap)=X at *
  generalize metaC n l (.slice (some ⟨b0,o0,none⟩) 70 cap)=Y at *
  repeat' (first|(refine W.go ?_;try intro b_)|fail)
  refine W.call hbad ?_
  rintro _ _ ⟨rfl,rfl⟩
  repeat' (first|(refine W.go ?_;try intro b_)|fail)
  rw [hs]
  repeat' (first|(refine W.go ?_;try intro b_)|fail)
  refine W.call hbad ?_
  rintro _ _ ⟨rfl,rfl⟩
  repeat' (first|(refine W.go ?_;try intro b_)|fail)
  exact F.c0 Y ⟨rfl,rfl⟩
 ·rw [show min 70 len=len by omega]
  generalize metaC n l (.slice a len cap)=X at *
  repeat' (first|(refine W.go ?_;try intro b_)|fail)
  refine W.call hbad ?_
  rintro _ _ ⟨rfl,rfl⟩
  repeat' (first|(refine W.go ?_;try intro b_)|fail)
  refine W.call hbad ?_
  rintro _ _ ⟨rfl,rfl⟩
  repeat' (first|(refine W.go ?_;try intro b_)|fail)
  exact F.c0 X ⟨rfl,rfl⟩
theorem rSame_p(n m:Int)(l k:List Int)(hl:l.length=16)(hk:k.length=16)(ps qs:List Pg)(pv qv:Value)(hn:ps.length≤1000000):Tri Tryz.prog 32 [.agg (metaC n l pv).toArray,.agg (metaC m k qv).toArray] [] (fun w=>Rd [] w 5 pv (pgsC ps)∧Rd [] w 5 qv (pgsC qs)) (fun r H=>r=.bool (decide (n=m∧l=k∧ps=qs))∧H=[]):=by
 refine Tri.mk Tryz.func32 rfl Tryz.ntmps32 rfl fun w hw=>?_
 obtain⟨hv,hu⟩:=hw
 have hL:∀ (ps:List Pg),∀ y∈ps.map pgC,y.length=5:=fun ps y hy=>by
  obtain⟨x,hx,rfl⟩:=List.mem_map.1 hy
  exact pgC_len x
 obtain⟨a,cap,rfl,hcap,hgt⟩:=hv.rows (by decide) (hL ps)
 obtain⟨a2,cap2,rfl,hcap2,hgt2⟩:=hu.rows (by decide) (hL qs)
 rw [List.length_map] at hcap hcap2
 rw [List.length_map,List.length_map]
 have f1:(metaC n l (.slice a ps.length cap)).length=18:=by rw [List.length_append,rootC_len,hl];rfl
 have f2:(metaC m k (.slice a2 qs.length cap2)).length=18:=by rw [List.length_append,rootC_len,hk];rfl
 have o1:OC (metaC n l (.slice a ps.length cap)):=inferInstance
 have o2:OC (metaC m k (.slice a2 qs.length cap2)):=inferInstance
 have t1:((metaC n l (.slice a ps.length cap)).drop 0).take 17=rootC n l:=by rw [List.drop_zero,List.take_append_of_le_length (by rw [rootC_len,hl];omega),List.take_of_length_le (by rw [rootC_len,hl];omega)]
 have t2:((metaC m k (.slice a2 qs.length cap2)).drop 0).take 17=rootC m k:=by rw [List.drop_zero,List.take_append_of_le_length (by rw [rootC_len,hk];omega),List.take_of_length_le (by rw [rootC_len,hk];omega)]
 have g1:(metaC n l (.slice a ps.length cap))[17]?=some (.slice a ps.length cap):=by rw [List.getElem?_append_right (by rw [rootC_len,hl];omega),rootC_len,hl];rfl
 have g2:(metaC m k (.slice a2 qs.length cap2))[17]?=some (.slice a2 qs.length cap2):=by rw [List.getElem?_append_right (by rw [rootC_len,hk];omega),rootC_len,hk];rfl
 have r1:(rootC n l).length=17:=by rw [rootC_len,hl]
 have r2:(rootC m k).length=17:=by rw [rootC_len,hk]
 have q1:=rtQ_of n l hl
 have q2:=rtQ_of m k hk
 generalize metaC n l (.slice a ps.length cap)=X at *
 generalize metaC m k (.slice a2 qs.length cap2)=Y at *
 by_cases he:n=m∧l=k
 ·by_cases hlen:ps.length=qs.length
  ·repeat' (first|(refine W.go ?_;try intro b_)|fail)
   refine SL.pu (p_neS_f rfl rfl rfl q1 q2 (by rw [he.1,he.2])) rfl rfl ?_
   repeat' (first|(refine W.gb ?_;try intro b_)|fail)
   rename_i bx
   refine SW.cutH [] [] (fun _:Unit=>[]) (fun _=>[]) (fun _=>ps=qs) ?_ ?_
   ·repeat' (first|(refine W.go ?_;try intro b_)|fail)
    refine SW.loopF [2,3,22] (fun i:Nat=>[(23,.int .i64 (i:Int))]) (fun _=>[(bx,cl X 82),(b_,cl Y 82)]) (fun i=>ps.length-i) (fun i=>i≤ps.length∧ps.take i=qs.take i) 0 ⟨Nat.zero_le _,rfl⟩ ?_
    rintro i ⟨hi,hbad⟩
    by_cases hin:i<ps.length
    ·obtain⟨x,hx⟩:∃ x,ps[i]?=some x:=⟨_,List.getElem?_eq_getElem hin⟩
     obtain⟨y,hy⟩:∃ y,qs[i]?=some y:=⟨_,List.getElem?_eq_getElem (by omega)⟩
     obtain⟨pb,po,lv,T,fz,rfl,hb,hk,hvv⟩:=hgt i (pgC x) (by rw [List.getElem?_map,hx];rfl)
     obtain⟨pb2,po2,lv2,T2,fz2,rfl,hb2,hk2,hvv2⟩:=hgt2 i (pgC y) (by rw [List.getElem?_map,hy];rfl)
     have hxl:=pgC_len x
     have hyl:=pgC_len y
     by_cases hxy:x=y
     ·repeat' (first|(refine W.go ?_;try intro b_)|fail)
      (refine SW.regionS [] ?_ (by kernel_rfl);refine SS.tw 0 rfl (p_fieldAddr rfl rfl OfN.ok) ?_;(first|refine SS.ls 1 [] rfl ?_|refine SS.sR 1 rfl ?_);refine SS.tw 2 rfl (p_move rfl rfl) ?_;(first|refine SS.tw 3 rfl (p_ix rfl rfl rfl (by omega)) ?_|refine SS.tw 3 rfl (p_ixa rfl rfl rfl (by omega)) ?_);(first|refine SS.lw 4 [] rfl ?_|refine SS.la 4 [] rfl ?_|refine SS.aR 4 rfl ?_);refine SS.tw 5 rfl (p_fieldAddr rfl rfl OfN.ok) ?_;(first|refine SS.ls 6 [] rfl ?_|refine SS.sR 6 rfl ?_);refine SS.tw 7 rfl (p_move rfl rfl) ?_;(first|refine SS.tw 8 rfl (p_ix rfl rfl rfl (by omega)) ?_|refine SS.tw 8 rfl (p_ixa rfl rfl rfl (by omega)) ?_);(first|refine SS.lw 9 [] rfl ?_|refine SS.la 9 [] rfl ?_|refine SS.aR 9 rfl ?_);refine SS.tw 10 rfl (p_neS_f rfl rfl rfl (pgQ_of x) (pgQ_of y) (by rw [hxy])) ?_;refine SS.done ?_ (by kernel_rfl))
      repeat' (first|(refine W.go ?_;try intro b_)|fail)
      refine HandF.mk (i+1) ?_
      exact⟨hin,by rw [List.take_add_one,List.take_add_one,hbad,hx,hy,hxy]⟩
     ·have hne:¬ (n=m∧l=k∧ps=qs):=fun h=>by
       rw [h.2.2,hy] at hx
       exact hxy (Option.some.inj hx).symm
      rw [decide_eq_false hne]
      repeat' (first|(refine W.go ?_;try intro b_)|fail)
      (refine SW.regionS [] ?_ (by kernel_rfl);refine SS.tw 0 rfl (p_fieldAddr rfl rfl OfN.ok) ?_;(first|refine SS.ls 1 [] rfl ?_|refine SS.sR 1 rfl ?_);refine SS.tw 2 rfl (p_move rfl rfl) ?_;(first|refine SS.tw 3 rfl (p_ix rfl rfl rfl (by omega)) ?_|refine SS.tw 3 rfl (p_ixa rfl rfl rfl (by omega)) ?_);(first|refine SS.lw 4 [] rfl ?_|refine SS.la 4 [] rfl ?_|refine SS.aR 4 rfl ?_);refine SS.tw 5 rfl (p_fieldAddr rfl rfl OfN.ok) ?_;(first|refine SS.ls 6 [] rfl ?_|refine SS.sR 6 rfl ?_);refine SS.tw 7 rfl (p_move rfl rfl) ?_;(first|refine SS.tw 8 rfl (p_ix rfl rfl rfl (by omega)) ?_|refine SS.tw 8 rfl (p_ixa rfl rfl rfl (by omega)) ?_);(first|refine SS.lw 9 [] rfl ?_|refine SS.la 9 [] rfl ?_|refine SS.aR 9 rfl ?_);refine SS.tw 10 rfl (p_neS_t rfl rfl rfl (pgQ_of x) (pgQ_of y) (fun hh=>hxy (pgC_inj hh))) ?_;refine SS.done ?_ (by kernel_rfl))
      repeat' (first|(refine W.go ?_;try intro b_)|fail)
      refine Fin.to [] ?_
      exact F.f1 ⟨rfl,rfl⟩
    ·have hi2:i=ps.length:=by omega
     subst hi2
     rw [List.take_length,hlen,List.take_length] at hbad
     repeat' (first|(refine W.go ?_;try intro b_)|fail)
     refine CutF.mk () ?_
     exact hbad
   rintro _ hpq
   rw [decide_eq_true (show n=m∧l=k∧ps=qs from ⟨he.1,he.2,hpq⟩)]
   repeat' (first|(refine W.go ?_;try intro b_)|fail)
   refine Fin.to [] ?_
   exact F.f1 ⟨rfl,rfl⟩
  ·rw [decide_eq_false fun h=>hlen (by rw [h.2.2])]
   repeat' (first|(refine W.go ?_;try intro b_)|fail)
   refine SL.pu (p_neS_f rfl rfl rfl q1 q2 (by rw [he.1,he.2])) rfl rfl ?_
   repeat' (first|(refine W.go ?_;try intro b_)|fail)
   refine Fin.to [] ?_
   exact F.f1 ⟨rfl,rfl⟩
 ·rw [decide_eq_false fun h=>he ⟨h.1,h.2.1⟩]
  repeat' (first|(refine W.go ?_;try intro b_)|fail)
  refine SL.pu (p_neS_t rfl rfl rfl q1 q2 (fun hh=>he (rootC_inj hh))) rfl rfl ?_
  repeat' (first|(refine W.go ?_;try intro b_)|fail)
  refine Fin.to [] ?_
  exact F.f1 ⟨rfl,rfl⟩
end Go.Proofs.YtnigolgkkjidiaaGreat
