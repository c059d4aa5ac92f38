/- A batch has no more blocks than it may: the law. -/
import Derived.Test.YtnigolgkkjidiaaGreatPq41
import Derived.Test.YtnigolgkkjidiaaGreatPq6
import Derived.Test.YtnigolgkkjidiaaGreatPq40
set_option linter.unusedVariables false
set_option linter.unusedSimpArgs false
set_option linter.unusedSectionVars false
set_option maxHeartbeats 4000000
namespace Go.Proofs.YtnigolgkkjidiaaGreat
open Go
attribute [local irreducible] SW SL SQ SH SA SS Pu Fin CutF HandF
theorem full21_law(k:List UInt8)(hk:k.length=16)(most:Int)(a:Option Addr)(len cap:Nat)(ys:List Value)(hml0:len≤maxLen) :
  Tri Tryz.prog 4 [.agg (cbs k).toArray,.int .i64 most,.slice a len cap] [] (fun w=>OpbR w a len cap ys) (fun v H=>v=.bool true):=by
 obtain⟨r,hr7,hU⟩:=and7 most
 refine Tri.mk Tryz.func4 rfl Tryz.ntmps4 rfl fun w hw=>?_
 obtain⟨hrd0,hops⟩:=hw
 obtain⟨a',len',cap',he,hyl,hcap,hrd⟩:=hrd0.get
 cases he
 have hml:maxLen=9223372036854775807:=by decide
 have hk0:(cbs k).length=16:=by rw [cbs_len];exact hk
 repeat' (first|(refine W.go ?_;try intro b_)|fail)
 refine W.call (begun21_p k hk (most:=(r:Int)) (by omega)) ?_
 rintro _ _ ⟨pp,b,rb,rfl,i,sp,rv,σ,x,sr,β,Hd,Hs,Hk,HS,HB,hD,hS,hBk,hSt,hBt,hx,hst,hlen,hfr,rfl⟩
 repeat' (first|(refine W.gb ?_;try intro b_)|fail)
 refine SW.cutH [1,8] ((pp,cl (pairC i 3 4 (ptv sp) rv) 43)::(Hd++(Hs++(Hk++(HS++HB))))) (fun _=>[]) (fun x:Bl×Hp=>(pp,cl (pairC i 3 4 (ptv sp) rv) 43)::(Hd++(Hs++(Hk++(HS++x.2))))) (fun x=>BatP b sp (r:Int) x.1 x.2∧x.1.length≤r) ?_ ?_
 rotate_left
 ·rintro⟨l,HB⟩ ⟨hBt,hl⟩
  dsimp only at hBt hl ⊢
  repeat' (first|(refine W.go ?_;try intro b_)|fail)
  refine W.call (bLen_p hBt) ?_
  rintro _ _ ⟨rfl,rfl⟩
  repeat' (first|(refine W.go ?_;try intro b_)|fail)
  refine W.call awake21_p ?_
  rintro _ _ ⟨rfl,rfl⟩
  repeat' (first|(refine W.go ?_;try intro b_)|fail)
  refine Fin.to [] ?_
  exact F.f1 rfl
 repeat' (first|(refine W.go ?_;try intro b_)|fail)
 refine SW.loopF [1,8,30,31] (fun x:Nat×Bl×Hp×Value×Hp=>[(11,x.2.2.2.1),(32,.int .i64 x.1)]) (fun x=>(pp,cl (pairC i 3 4 (ptv sp) rv) 43)::(Hd++(Hs++(Hk++(HS++(x.2.2.1++x.2.2.2.2)))))) (fun x=>len-x.1)
  (fun x=>x.1≤len∧BatP b sp (r:Int) x.2.1 x.2.2.1∧x.2.1.length≤r∧Sl 3 1 x.2.2.2.1 (kyv (x.2.1.map Prod.fst)) x.2.2.2.2) (0,[],HB,.slice none 0 0,[]) ⟨Nat.zero_le _,hBt,Nat.zero_le _,Sl.nil _ _⟩ ?_
 rintro⟨ii,l,HB,hv,Hv⟩ ⟨hi,hBt,hl,hHv⟩
 dsimp only at hi hBt hl hHv ⊢
 have hv1:=hHv.isOne
 obtain⟨ha,hn,hc,rfl,hhn⟩:=hHv.form
 have hkl:(kyv (l.map Prod.fst)).length=l.length:=by rw [List.length_map,List.length_map]
 rw [hkl,Nat.mul_one] at hhn
 by_cases hil:ii<len
 ·obtain⟨o,ho,hor,hrow⟩:=hops ii hil
  obtain⟨blk0,ob,lr,T,fz,rfl,hb,hbk,hys⟩:=hrd (by omega)
  have hrow2:=(row_of hys hil).trans hrow
  have hol:(opb o).length=5:=rfl
  have hdv:=hor.isOne
  have hoc:OC (opb o):=by unfold opb;infer_instance
  by_cases c20:20≤ii
  ·repeat' (first|(refine W.go ?_;try intro b_)|fail)
   refine CutF.mk (l,HB) ?_
   exact⟨hBt,hl⟩
  ·obtain⟨K,hK15,hU15⟩:=and15 o.k
   have hopK:∀ K2:Int,(opb o).set 1 (.int .i64 K2)=opb { o with k:=K2 }:=fun _=>rfl
   have hdvK:(opb { o with k:=(K:Int) }).length=5:=rfl
   have hoK:OC (opb { o with k:=(K:Int) }):=by unfold opb;infer_instance
   repeat' (first|(refine W.gb ?_;try intro b_)|fail)
   refine SW.block ?_
   repeat' (first|(refine W.gb ?_;try intro b_)|fail)
   rw [hopK]
   refine SW.cutH [1,8,11,13,30,31,32] ((pp,cl (pairC i 3 4 (ptv sp) rv) 43)::(Hd++(Hs++(Hk++(HS++(HB++(Hv++[(b_,cl (opb { o with k:=(K:Int) }) 67)]))))))) (fun t:Bool=>[(14,.bool t)]) (fun _=>(pp,cl (pairC i 3 4 (ptv sp) rv) 43)::(Hd++(Hs++(Hk++(HS++(HB++(Hv++[(b_,cl (opb { o with k:=(K:Int) }) 67)]))))))) (fun t=>t=decide ((K:Int)∈l.map Prod.fst)) ?_ ?_
   ·repeat' (first|(refine W.go ?_;try intro b_)|fail)
    refine SW.loopF [1,8,11,13,30,31,32,43,44] (fun x:Nat×Bool=>[(14,.bool x.2),(45,.int .i64 x.1)]) (fun _=>(pp,cl (pairC i 3 4 (ptv sp) rv) 43)::(Hd++(Hs++(Hk++(HS++(HB++(Hv++[(b_,cl (opb { o with k:=(K:Int) }) 67)]))))))) (fun x=>hn-x.1) (fun x=>x.1≤hn∧x.2=decide ((K:Int)∈(l.map Prod.fst).take x.1)) (0,false) ⟨Nat.zero_le _,by simp⟩ ?_
    rintro⟨m,tt⟩ ⟨hm,htt⟩
    dsimp only at hm htt ⊢
    by_cases hmn:m<hn
    ·have hlk:m<(l.map Prod.fst).length:=by rw [List.length_map];omega
     obtain⟨km,hkm⟩:∃ km,(l.map Prod.fst)[m]?=some km:=⟨_,List.getElem?_eq_getElem hlk⟩
     have htk:(l.map Prod.fst).take (m+1)=(l.map Prod.fst).take m++[km]:=by rw [List.take_add_one,hkm];rfl
     rcases hHv with ⟨hh,-,-⟩|⟨q,qn,qc,qj,hh,hqx,hqj,hqc,rfl⟩
     ·cases hh;omega
     cases hh
     have hcell:(kyv (l.map Prod.fst)++qj)[m]?=some (.int .i64 km):=by
      rw [List.getElem?_append_left (by rw [hkl];omega),List.getElem?_map,hkm];rfl
     generalize kyv (l.map Prod.fst)++qj=QQ at *
     cases tt with
     | true=>
      repeat' (first|(refine W.go ?_;try intro b_)|fail)
      refine HandF.mk (m+1,true) ?_
      refine⟨by dsimp only;omega,?_⟩
      dsimp only
      rw [htk]
      have:=of_decide_eq_true htt.symm
      exact (decide_eq_true (List.mem_append_left _ this)).symm
     | false=>
      have hnm:=of_decide_eq_false htt.symm
      by_cases hkk:km=(K:Int)
      ·repeat' (first|(refine W.go ?_;try intro b_)|fail)
       refine HandF.mk (m+1,true) ?_
       refine⟨by dsimp only;omega,?_⟩
       dsimp only
       rw [htk]
       exact (decide_eq_true (List.mem_append_right _ (by rw [hkk];exact List.mem_singleton.2 rfl))).symm
      ·repeat' (first|(refine W.go ?_;try intro b_)|fail)
       refine HandF.mk (m+1,false) ?_
       refine⟨by dsimp only;omega,?_⟩
       dsimp only
       rw [htk]
       refine (decide_eq_false fun hh=>?_).symm
       rcases List.mem_append.1 hh with h|h
       ·exact hnm h
       ·exact hkk (List.mem_singleton.1 h).symm
    ·have hmh:m=hn:=by omega
     repeat' (first|(refine W.go ?_;try intro b_)|fail)
     refine CutF.mk tt ?_
     rw [htt,List.take_of_length_le (by rw [List.length_map];omega)]
   rintro t ht
   repeat' (first|(refine W.gb ?_;try intro b_)|fail)
   (refine SW.regionS [6] ?_ (by kernel_rfl);refine SS.tw 0 rfl (p_move rfl rfl) ?_;refine SS.tw 1 rfl (p_fieldAddr rfl rfl OfN.ok) ?_;(first|refine SS.ls 2 [6] rfl ?_|refine SS.sR 2 rfl ?_);refine SS.tw 3 rfl (p_fieldAddr rfl rfl OfN.ok) ?_;(first|refine SS.ls 4 [5,6] rfl ?_|refine SS.sR 4 rfl ?_);refine SS.effK 5 ?_ rfl (by kernel_rfl))
   refine W.call (Full_p o.dv o.d) ?_ (hpre:=fun w2 hs=>hor.ro (Hc:=[]) hs)
   rintro v1 H1 ⟨y,hy,h1⟩
   have h11:=h1.isOne
   (refine SL.nilB ?_;refine SS.effB 6 ?_ rfl (by kernel_rfl))
   refine W.call (bPutS_p hSt hst hBt (K:Int) v1 y hy) ?_ (hpre:=fun w2 hs=>Rd.own (Hc:=HB++HS) h1 hs inferInstance)
   rintro _ _ ⟨HB2,rfl,hB2,rfl⟩
   (refine SL.nilB ?_;refine SS.tw 7 rfl (p_assign rfl rfl) ?_;refine SS.done ?_ (by kernel_rfl))
   have hK0:¬ ((K:Int)<0∨65536≤(K:Int)):=by omega
   by_cases hin:(K:Int)∈l.map Prod.fst
   ·rw [decide_eq_true hin] at ht
    subst ht
    have hno:Bl.no (r:Int) l (K:Int)=0:=by unfold Bl.no;rw [if_neg hK0,if_neg (fun hh=>(at_none.1 hh.1) hin)]
    have hse:Bl.step (r:Int) l (K:Int) y=l.put (K:Int) y:=by unfold Bl.step;rw [if_pos hno]
    have hke:=put_keys (d:=y) hin
    have hle:(l.put (K:Int) y).length=l.length:=by have:=congrArg List.length hke;rw [List.length_map,List.length_map] at this;exact this
    rw [hse] at hB2
    rw [hno]
    repeat' (first|(refine W.go ?_;try intro b_)|fail)
    refine W.call (bLen_p hB2) ?_
    rintro _ Hx ⟨rfl,hx2⟩
    have hx2:=hx2.symm
    subst hx2
    rw [hle]
    repeat' (first|(refine W.go ?_;try intro b_)|fail)
    refine HandF.mk (ii+1,l.put (K:Int) y,HB2,.slice ha hn hc,Hv) ?_
    exact⟨by dsimp only;omega,hB2,by dsimp only;omega,by dsimp only;rw [hke];exact hHv⟩
   ·rw [decide_eq_false hin] at ht
    subst ht
    by_cases hrl:r≤l.length
    ·have hno:Bl.no (r:Int) l (K:Int)=28:=by unfold Bl.no;rw [if_neg hK0,if_pos ⟨at_none.2 hin,by omega⟩]
     have hse:Bl.step (r:Int) l (K:Int) y=l:=by unfold Bl.step;rw [if_neg (by rw [hno];decide)]
     rw [hse] at hB2
     rw [hno]
     repeat' (first|(refine W.go ?_;try intro b_)|fail)
     refine HandF.mk (ii+1,l,HB2,.slice ha hn hc,Hv) ?_
     exact⟨by dsimp only;omega,hB2,hl,hHv⟩
    ·have hno:Bl.no (r:Int) l (K:Int)=0:=by unfold Bl.no;rw [if_neg hK0,if_neg (fun hh=>hrl (by have:=hh.2;omega))]
     have hse:Bl.step (r:Int) l (K:Int) y=l++[((K:Int),y)]:=by unfold Bl.step;rw [if_pos hno,put_new hin]
     have hke:kyv ((l++[((K:Int),y)]).map Prod.fst)=kyv (l.map Prod.fst)++[.int .i64 (K:Int)]:=by rw [List.map_append];exact List.map_append
     have hle:(l++[((K:Int),y)]).length=l.length+1:=by rw [List.length_append,List.length_singleton]
     have hbk2:bfill (fun i=>some (i*1,1)) (zs [.int .i64 0] 1) [(0,.int .i64 (K:Int))]=some [.int .i64 (K:Int)]:=rfl
     rw [hse] at hB2
     rw [hno]
     repeat' (first|(refine W.go ?_;try intro b_)|fail)
     refine W.ap (ys:=[.int .i64 (K:Int)]) (mm:=1) hHv (fun w2 hs=>(Sl.own 3 1 b_ (xs:=[.int .i64 (K:Int)]) rfl).srcAt hs inferInstance) (fun hv2 Hv2 hHv2=>?_) (hys:=rfl) (hbytes:=by rw [hkl];simp <;> omega)
     have hv21:=hHv2.isOne
     rw [← hke] at hHv2
     obtain⟨ha2,hn2,hc2,rfl,hhn2⟩:=hHv2.form
     rw [List.length_map,List.length_map,Nat.mul_one,hle] at hhn2
     repeat' (first|(refine W.go ?_;try intro b_)|fail)
     refine W.call (bLen_p hB2) ?_
     rintro _ Hx ⟨rfl,hx2⟩
     have hx2:=hx2.symm
     subst hx2
     rw [hle]
     repeat' (first|(refine W.go ?_;try intro b_)|fail)
     refine HandF.mk (ii+1,l++[((K:Int),y)],HB2,.slice ha2 hn2 hc2,Hv2) ?_
     exact⟨by dsimp only;omega,hB2,by dsimp only;omega,hHv2⟩
 ·have:ii=len:=by omega
  subst this
  repeat' (first|(refine W.go ?_;try intro b_)|fail)
  refine CutF.mk (l,HB) ?_
  exact⟨hBt,hl⟩
end Go.Proofs.YtnigolgkkjidiaaGreat
