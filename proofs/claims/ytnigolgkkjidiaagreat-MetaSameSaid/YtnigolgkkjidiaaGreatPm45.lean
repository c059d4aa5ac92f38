/- Two Metas are the same just if all is: the law. -/
import Derived.Test.YtnigolgkkjidiaaGreatPm40
import Derived.Test.YtnigolgkkjidiaaGreatPm44
set_option linter.unusedVariables false
set_option linter.unusedSimpArgs false
set_option linter.unusedSectionVars false
set_option maxHeartbeats 4000000
namespace Go.Proofs.YtnigolgkkjidiaaGreat
open Go
attribute [local irreducible] SW SL SQ SH SA SS Pu Fin CutF HandF
theorem pgsC_take(ps:List Pg):∀ m:Nat,pgsC (ps.take m)=(pgsC ps).take (m*5):=by
 induction ps with
 | nil=>intro m;rw [List.take_nil];show []=List.take _ [];rw [List.take_nil]
 | cons p r ih=>
  intro m
  cases m with
  | zero=>rw [Nat.zero_mul,List.take_zero,List.take_zero];rfl
  | succ m=>
   show pgC p++pgsC (r.take m)=(pgC p++pgsC r).take ((m+1)*5)
   rw [ih m,List.take_append,List.take_of_length_le (l:=pgC p) (by rw [pgC_len];omega),pgC_len,show (m+1)*5-5=m*5 by omega]
theorem Rd.preP{w:World}{a:Option Addr}{len cap:Nat}{ps:List Pg}(m:Nat)(h:Rd [] w 5 (.slice a len cap) (pgsC ps)):Rd [] w 5 (.slice a (min m len) cap) (pgsC (ps.take m)):=by
 obtain⟨a',len',cap',he,h2,h3,h4⟩:=h
 cases he
 have hl:ps.length=len:=by rw [pgsC_len] at h2;omega
 refine⟨_,_,_,rfl,by rw [pgsC_len,List.length_take,hl],by omega,?_⟩
 rcases h4 with h4|⟨b,o,l,T,fz,ha,hb,hk,hy⟩
 ·exact .inl (by omega)
 ·refine .inr ⟨b,o,l,T,fz,ha,hb,hk,?_⟩
  rw [pgsC_take,← hy,List.take_take]
  congr 1
  omega
theorem same22_law(n m:Int)(l k:List Int)(hl:l.length=16)(hk:k.length=16)(ps qs:List Pg)(pv qv:Value):Tri Tryz.prog 8 [.agg (metaC n l pv).toArray,.agg (metaC m k qv).toArray] [] (fun w=>Rd [] w 5 pv (pgsC ps)∧Rd [] w 5 qv (pgsC qs)) (fun v H=>v=.bool true):=by
 refine Tri.mk Tryz.func8 rfl Tryz.ntmps8 rfl fun w hw=>?_
 obtain⟨hv,hu⟩:=hw
 obtain⟨a1,l1,c1,rfl,-⟩:=hv.get
 obtain⟨a2,l2,c2,rfl,-⟩:=hu.get
 have f1:(metaC n l (.slice a1 l1 c1)).length=18:=by rw [List.length_append,rootC_len,hl];rfl
 have f2:(metaC m k (.slice a2 l2 c2)).length=18:=by rw [List.length_append,rootC_len,hk];rfl
 have o1:OC (metaC n l (.slice a1 l1 c1)):=inferInstance
 have o2:OC (metaC m k (.slice a2 l2 c2)):=inferInstance
 have e1:(metaC n l (.slice a1 (min 70 l1) c1)).length=18:=by rw [List.length_append,rootC_len,hl];rfl
 have e2:(metaC m k (.slice a2 (min 70 l2) c2)).length=18:=by rw [List.length_append,rootC_len,hk];rfl
 have s1:OC (metaC n l (.slice a1 (min 70 l1) c1)):=inferInstance
 have s2:OC (metaC m k (.slice a2 (min 70 l2) c2)):=inferInstance
 have hv2:=hv.preP 70
 have hu2:=hu.preP 70
 have hc1:=mCut_p n l hl ps a1 l1 c1
 have hc2:=mCut_p m k hk qs a2 l2 c2
 have n1:(ps.take 70).length≤1000000:=by rw [List.length_take];omega
 have n2:(qs.take 70).length≤1000000:=by rw [List.length_take];omega
 have hO1:=mOurs_p n l hl (ps.take 70) (.slice a1 (min 70 l1) c1) n1
 have hO2:=mOurs_p m k hk (qs.take 70) (.slice a2 (min 70 l2) c2) n2
 have hR:=rSame_p n m l k hl hk (ps.take 70) (qs.take 70) (.slice a1 (min 70 l1) c1) (.slice a2 (min 70 l2) c2) n1
 have hS:=fun u v=>mSame_p n m l k hl hk (ps.take 70) (qs.take 70) u v n1
 have hS1:=fun u v=>mSame_p n n l l hl hl (ps.take 70) (ps.take 70) u v n1
 generalize metaC n l (.slice a1 l1 c1)=X1 at *
 generalize metaC m k (.slice a2 l2 c2)=X2 at *
 generalize metaC n l (.slice a1 (min 70 l1) c1)=Y1 at *
 generalize metaC m k (.slice a2 (min 70 l2) c2)=Y2 at *
 repeat' (first|(refine W.go ?_;try intro b_)|fail)
 (refine SW.regionS [5,6,7] ?_ (by kernel_rfl);refine SS.tw 0 rfl (p_build rfl rfl (by first|assumption|rfl)) ?_;(first|refine SS.lw 1 [2,5,6,7] rfl ?_|refine SS.la 1 [2,5,6,7] rfl ?_|refine SS.aR 1 rfl ?_);refine SS.tw 3 rfl (p_build rfl rfl (by first|assumption|rfl)) ?_;(first|refine SS.lw 4 [5,6,7] rfl ?_|refine SS.la 4 [5,6,7] rfl ?_|refine SS.aR 4 rfl ?_);refine SS.effK 2 ?_ rfl (by kernel_rfl))
 refine W.call hc1 ?_ (hpre:=fun w2 hs=>hv.ro (Hc:=[]) hs)
 rintro _ _ ⟨rfl,rfl⟩
 (refine SL.nilB ?_;refine SS.effB 5 ?_ rfl (by kernel_rfl))
 refine W.call hc2 ?_ (hpre:=fun w2 hs=>hu.ro (Hc:=[]) hs)
 rintro _ _ ⟨rfl,rfl⟩
 (refine SL.nilB ?_;refine SS.effB 6 ?_ rfl (by kernel_rfl);(repeat' (first|(refine W.g1 ?_;try intro b_)|fail));refine SS.effB 7 ?_ rfl (by kernel_rfl);(repeat' (first|(refine W.g1 ?_;try intro b_)|fail));refine SS.done ?_ (by kernel_rfl))
 repeat' (first|(refine W.go ?_;try intro b_)|fail)
 (refine SW.regionS [7,13,14,17] ?_ (by kernel_rfl);(first|refine SS.lw 0 [1,4,7,9,13,14,16,17] rfl ?_|refine SS.la 0 [1,4,7,9,13,14,16,17] rfl ?_|refine SS.aR 0 rfl ?_);(first|refine SS.lw 2 [3,4,7,9,13,14,16,17] rfl ?_|refine SS.la 2 [3,4,7,9,13,14,16,17] rfl ?_|refine SS.aR 2 rfl ?_);(first|refine SS.lw 5 [7,9,13,14,16,17] rfl ?_|refine SS.la 5 [7,9,13,14,16,17] rfl ?_|refine SS.aR 5 rfl ?_);(first|refine SS.lw 6 [7,9,13,14,16,17] rfl ?_|refine SS.la 6 [7,9,13,14,16,17] rfl ?_|refine SS.aR 6 rfl ?_);refine SS.effK 1 ?_ rfl (by kernel_rfl))
 refine W.call hO1 ?_ (hpre:=fun w2 hs=>hv2.ro (Hc:=[]) hs)
 rintro _ H1 ⟨u1,rfl,g1⟩
 have g11:=g1.isOne
 (refine SL.nilB ?_;refine SS.effK 3 ?_ rfl (by kernel_rfl))
 refine W.call hO2 ?_ (hpre:=fun w2 hs=>hu2.ro (Hc:=[]) hs)
 rintro _ H2 ⟨u2,rfl,g2⟩
 have g21:=g2.isOne
 (refine SL.nilB ?_;refine SS.effK 4 ?_ rfl (by kernel_rfl))
 refine W.call (hS u1 u2) ?_ (hpre:=fun w2 hs=>⟨Rd.own (Hc:=[]) g1 hs inferInstance,Rd.own (Hc:=[]) g2 hs inferInstance⟩)
 rintro _ _ ⟨rfl,rfl⟩
 (refine SL.nilB ?_;refine SS.effB 7 ?_ rfl (by kernel_rfl))
 refine W.call hR ?_ (hpre:=fun w2 hs=>⟨hv2.ro (Hc:=[]) hs,hu2.ro (Hc:=[]) hs⟩)
 rintro _ _ ⟨rfl,rfl⟩
 (refine SL.nilB ?_;refine SS.tw 8 rfl (p_eqbt rfl rfl rfl rfl) ?_;refine SS.tw 9 rfl (p_move rfl rfl) ?_;(first|refine SS.sk 10 rfl ?_|refine SS.lw 10 [11,13,14,16,17] rfl ?_|refine SS.la 10 [11,13,14,16,17] rfl ?_|refine SS.aR 10 rfl ?_);(first|refine SS.sk 12 rfl ?_|refine SS.lw 12 [13,14,16,17] rfl ?_|refine SS.la 12 [13,14,16,17] rfl ?_|refine SS.aR 12 rfl ?_);(first|refine SS.sk 11 rfl ?_;(first|refine SS.sk 13 rfl ?_;(first|refine SS.sk 14 rfl ?_;(first|refine SS.tw 15 rfl (p_pick_t rfl rfl rfl) ?_|refine SS.tw 15 rfl (p_pick_f rfl rfl rfl) ?_);refine SS.tw 16 rfl (p_move rfl rfl) ?_;(first|refine SS.sk 17 rfl ?_;(first|refine SS.tw 18 rfl (p_pick_t rfl rfl rfl) ?_|refine SS.tw 18 rfl (p_pick_f rfl rfl rfl) ?_);refine SS.tw 19 rfl (p_assign rfl rfl) ?_;refine SS.done ?_ (by kernel_rfl)|refine SS.effB 17 ?_ rfl (by kernel_rfl))|refine SS.effB 14 ?_ rfl (by kernel_rfl))|refine SS.effB 13 ?_ rfl (by kernel_rfl))|refine SS.effK 11 ?_ rfl (by kernel_rfl)))
 refine W.call hO1 ?_ (hpre:=fun w2 hs=>hv2.ro (Hc:=[]) hs)
 rintro _ H3 ⟨u3,rfl,g3⟩
 have g31:=g3.isOne
 (refine SL.nilB ?_;(first|refine SS.sk 13 rfl ?_;(first|refine SS.sk 14 rfl ?_;(first|refine SS.tw 15 rfl (p_pick_t rfl rfl rfl) ?_|refine SS.tw 15 rfl (p_pick_f rfl rfl rfl) ?_);refine SS.tw 16 rfl (p_move rfl rfl) ?_;(first|refine SS.sk 17 rfl ?_;(first|refine SS.tw 18 rfl (p_pick_t rfl rfl rfl) ?_|refine SS.tw 18 rfl (p_pick_f rfl rfl rfl) ?_);refine SS.tw 19 rfl (p_assign rfl rfl) ?_;refine SS.done ?_ (by kernel_rfl)|refine SS.effB 17 ?_ rfl (by kernel_rfl))|refine SS.effB 14 ?_ rfl (by kernel_rfl))|refine SS.effB 13 ?_ rfl (by kernel_rfl)))
 refine W.call hO1 ?_ (hpre:=fun w2 hs=>hv2.ro (Hc:=[]) hs)
 rintro _ H4 ⟨u4,rfl,g4⟩
 have g41:=g4.isOne
 (refine SL.nilB ?_;(first|refine SS.sk 14 rfl ?_;(first|refine SS.tw 15 rfl (p_pick_t rfl rfl rfl) ?_|refine SS.tw 15 rfl (p_pick_f rfl rfl rfl) ?_);refine SS.tw 16 rfl (p_move rfl rfl) ?_;(first|refine SS.sk 17 rfl ?_;(first|refine SS.tw 18 rfl (p_pick_t rfl rfl rfl) ?_|refine SS.tw 18 rfl (p_pick_f rfl rfl rfl) ?_);refine SS.tw 19 rfl (p_assign rfl rfl) ?_;refine SS.done ?_ (by kernel_rfl)|refine SS.effB 17 ?_ rfl (by kernel_rfl))|refine SS.effB 14 ?_ rfl (by kernel_rfl)))
 refine W.call (hS1 u3 u4) ?_ (hpre:=fun w2 hs=>⟨Rd.own (Hc:=[]) g3 hs inferInstance,Rd.own (Hc:=[]) g4 hs inferInstance⟩)
 rintro _ _ ⟨rfl,rfl⟩
 rw [decide_eq_true (show n=n∧l=l∧ps.take 70=ps.take 70 from ⟨rfl,rfl,rfl⟩)]
 (refine SL.nilB ?_;(first|refine SS.tw 15 rfl (p_pick_t rfl rfl rfl) ?_|refine SS.tw 15 rfl (p_pick_f rfl rfl rfl) ?_);refine SS.tw 16 rfl (p_move rfl rfl) ?_;(first|refine SS.sk 17 rfl ?_;(first|refine SS.tw 18 rfl (p_pick_t rfl rfl rfl) ?_|refine SS.tw 18 rfl (p_pick_f rfl rfl rfl) ?_);refine SS.tw 19 rfl (p_assign rfl rfl) ?_;refine SS.done ?_ (by kernel_rfl)|refine SS.effB 17 ?_ rfl (by kernel_rfl)))
 refine W.call awake22_p ?_
 rintro _ _ ⟨rfl,rfl⟩
 (refine SL.nilB ?_;(first|refine SS.tw 18 rfl (p_pick_t rfl rfl rfl) ?_|refine SS.tw 18 rfl (p_pick_f rfl rfl rfl) ?_);refine SS.tw 19 rfl (p_assign rfl rfl) ?_;refine SS.done ?_ (by kernel_rfl))
 repeat' (first|(refine W.go ?_;try intro b_)|fail)
 refine Fin.to [] ?_
 exact F.f1 rfl
end Go.Proofs.YtnigolgkkjidiaaGreat
