/- The example of the Metas' statements. -/
import Derived.Test.YtnigolgkkjidiaaGreatPm43
import Derived.Test.YtnigolgkkjidiaaGreatPm39
set_option linter.unusedVariables false
set_option linter.unusedSimpArgs false
set_option linter.unusedSectionVars false
set_option maxHeartbeats 4000000
namespace Go.Proofs.YtnigolgkkjidiaaGreat
open Go
attribute [local irreducible] SW SL SQ SH SA SS Pu Fin CutF HandF
theorem awake22_p:Tri Tryz.prog 29 [] [] (fun _=>True) (fun v H=>v=.bool true∧H=[]):=by
 refine Tri.mk Tryz.func29 rfl Tryz.ntmps29 rfl fun w hw=>?_
 have hKo:=sched_ok key3 rfl
 have hbeg:=begun22_p
 generalize key3=k3 at *
 repeat' (first|(refine W.go ?_;try intro b_)|fail)
 refine W.call hbeg ?_
 rintro _ _ ⟨pp,b,rb,rfl,i,sp,rv,σ,x,sr,β,Hd,Hs,Hk,HS,HB,hD,hS,hBk,hSt,hBt,hx,hst,hlen,hfr,rfl⟩
 generalize Aes.sched k3=ws at *
 clear hbeg
 repeat' (first|(refine W.go ?_;try intro b_)|fail)
 refine W.call (mLoadZ_p hBt hx hD hlen hSt hBk hS hKo hfr) ?_
 rintro _ Hp ⟨pv,rfl,hp⟩
 have hp1:=hp.isOne
 obtain⟨pa,pl,pc,rfl,hpl⟩:=hp.form
 have hpl3:pl=3:=by
  have:(pgsC (zpg 3)).length=15:=rfl
  omega
 subst hpl3
 have hml:(metaC 1 (List.replicate 16 0) (.slice pa 3 pc)).length=18:=rfl
 have hmo:OC (metaC 1 (List.replicate 16 0) (.slice pa 3 pc)):=inferInstance
 have h0:(metaC 1 (List.replicate 16 0) (.slice pa 3 pc))[0]?=some (.int .u64 1):=rfl
 have h17:(metaC 1 (List.replicate 16 0) (.slice pa 3 pc))[17]?=some (.slice pa 3 pc):=rfl
 have hsm:=fun qv=>mSame_p 1 1 (List.replicate 16 0) (List.replicate 16 0) rfl rfl (zpg 3) (zpg 3) (.slice pa 3 pc) qv (by decide)
 generalize metaC 1 (List.replicate 16 0) (.slice pa 3 pc)=M at *
 repeat' (first|(refine W.go ?_;try intro b_)|fail)
 (refine SW.regionS [9] ?_ (by kernel_rfl);refine SS.tw 0 rfl (p_move rfl rfl) ?_;refine SS.tw 1 rfl (p_move rfl rfl) ?_;(first|refine SS.sk 2 rfl ?_|refine SS.tw 2 rfl (p_move rfl rfl) ?_);(first|refine SS.sk 3 rfl ?_|refine SS.tw 3 rfl (Pu.t (p_cmp rfl rfl rfl rfl) (by dsimp only [cmpP];first|done|omega)) ?_|refine SS.tw 3 rfl (Pu.f (p_cmp rfl rfl rfl rfl) (by dsimp only [cmpP];first|done|omega)) ?_|refine SS.tw 3 rfl (p_cmp rfl rfl rfl rfl) ?_|refine SS.tw 3 rfl (p_eqb rfl rfl rfl) ?_);(first|refine SS.tw 4 rfl (p_pick_t rfl rfl rfl) ?_|refine SS.tw 4 rfl (p_pick_f rfl rfl rfl) ?_);refine SS.tw 5 rfl (p_move rfl rfl) ?_;(first|refine SS.sk 6 rfl ?_|refine SS.lw 6 [9] rfl ?_|refine SS.la 6 [9] rfl ?_|refine SS.aR 6 rfl ?_);(first|refine SS.sk 7 rfl ?_|refine SS.lw 7 [8,9] rfl ?_|refine SS.la 7 [8,9] rfl ?_|refine SS.aR 7 rfl ?_);(first|refine SS.sk 8 rfl ?_;(first|refine SS.sk 9 rfl ?_;(first|refine SS.tw 10 rfl (p_pick_t rfl rfl rfl) ?_|refine SS.tw 10 rfl (p_pick_f rfl rfl rfl) ?_);refine SS.tw 11 rfl (p_move rfl rfl) ?_;(first|refine SS.sk 12 rfl ?_|refine SS.tw 12 rfl (p_fieldAddr rfl rfl OfN.ok) ?_);(first|refine SS.sk 13 rfl ?_|refine SS.tw 13 rfl (p_fieldAddr rfl rfl OfN.ok) ?_);(first|refine SS.sk 14 rfl ?_|refine SS.ls 14 [] rfl ?_|refine SS.sR 14 rfl ?_);(first|refine SS.sk 15 rfl ?_|refine SS.tw 15 rfl (Pu.t (p_cmp rfl rfl rfl rfl) (by dsimp only [cmpP];first|done|omega)) ?_|refine SS.tw 15 rfl (Pu.f (p_cmp rfl rfl rfl rfl) (by dsimp only [cmpP];first|done|omega)) ?_|refine SS.tw 15 rfl (p_cmp rfl rfl rfl rfl) ?_|refine SS.tw 15 rfl (p_eqb rfl rfl rfl) ?_);(first|refine SS.tw 16 rfl (p_pick_t rfl rfl rfl) ?_|refine SS.tw 16 rfl (p_pick_f rfl rfl rfl) ?_);refine SS.tw 17 rfl (p_move rfl rfl) ?_;(first|refine SS.sk 18 rfl ?_|refine SS.tw 18 rfl (p_fieldAddr rfl rfl OfN.ok) ?_);(first|refine SS.sk 19 rfl ?_|refine SS.ls 19 [] rfl ?_|refine SS.sR 19 rfl ?_);(first|refine SS.sk 20 rfl ?_|refine SS.tw 20 rfl (p_len_slice rfl rfl) ?_);(first|refine SS.sk 21 rfl ?_|refine SS.tw 21 rfl (Pu.t (p_cmp rfl rfl rfl rfl) (by dsimp only [cmpP];first|done|omega)) ?_|refine SS.tw 21 rfl (Pu.f (p_cmp rfl rfl rfl rfl) (by dsimp only [cmpP];first|done|omega)) ?_|refine SS.tw 21 rfl (p_cmp rfl rfl rfl rfl) ?_|refine SS.tw 21 rfl (p_eqb rfl rfl rfl) ?_);(first|refine SS.tw 22 rfl (p_pick_t rfl rfl rfl) ?_|refine SS.tw 22 rfl (p_pick_f rfl rfl rfl) ?_);refine SS.tw 23 rfl (p_assign rfl rfl) ?_;refine SS.done ?_ (by kernel_rfl)|refine SS.effB 9 ?_ rfl (by kernel_rfl))|refine SS.effK 8 ?_ rfl (by kernel_rfl)))
 refine W.call mNewZ_p ?_
 rintro _ Hq ⟨qv,rfl,hq⟩
 have hq1:=hq.isOne
 have hnl:(metaC 1 (List.replicate 16 0) qv).length=18:=rfl
 have hno:OC (metaC 1 (List.replicate 16 0) qv):=inferInstance
 (refine SL.nilB ?_;(first|refine SS.sk 9 rfl ?_;(first|refine SS.tw 10 rfl (p_pick_t rfl rfl rfl) ?_|refine SS.tw 10 rfl (p_pick_f rfl rfl rfl) ?_);refine SS.tw 11 rfl (p_move rfl rfl) ?_;(first|refine SS.sk 12 rfl ?_|refine SS.tw 12 rfl (p_fieldAddr rfl rfl OfN.ok) ?_);(first|refine SS.sk 13 rfl ?_|refine SS.tw 13 rfl (p_fieldAddr rfl rfl OfN.ok) ?_);(first|refine SS.sk 14 rfl ?_|refine SS.ls 14 [] rfl ?_|refine SS.sR 14 rfl ?_);(first|refine SS.sk 15 rfl ?_|refine SS.tw 15 rfl (Pu.t (p_cmp rfl rfl rfl rfl) (by dsimp only [cmpP];first|done|omega)) ?_|refine SS.tw 15 rfl (Pu.f (p_cmp rfl rfl rfl rfl) (by dsimp only [cmpP];first|done|omega)) ?_|refine SS.tw 15 rfl (p_cmp rfl rfl rfl rfl) ?_|refine SS.tw 15 rfl (p_eqb rfl rfl rfl) ?_);(first|refine SS.tw 16 rfl (p_pick_t rfl rfl rfl) ?_|refine SS.tw 16 rfl (p_pick_f rfl rfl rfl) ?_);refine SS.tw 17 rfl (p_move rfl rfl) ?_;(first|refine SS.sk 18 rfl ?_|refine SS.tw 18 rfl (p_fieldAddr rfl rfl OfN.ok) ?_);(first|refine SS.sk 19 rfl ?_|refine SS.ls 19 [] rfl ?_|refine SS.sR 19 rfl ?_);(first|refine SS.sk 20 rfl ?_|refine SS.tw 20 rfl (p_len_slice rfl rfl) ?_);(first|refine SS.sk 21 rfl ?_|refine SS.tw 21 rfl (Pu.t (p_cmp rfl rfl rfl rfl) (by dsimp only [cmpP];first|done|omega)) ?_|refine SS.tw 21 rfl (Pu.f (p_cmp rfl rfl rfl rfl) (by dsimp only [cmpP];first|done|omega)) ?_|refine SS.tw 21 rfl (p_cmp rfl rfl rfl rfl) ?_|refine SS.tw 21 rfl (p_eqb rfl rfl rfl) ?_);(first|refine SS.tw 22 rfl (p_pick_t rfl rfl rfl) ?_|refine SS.tw 22 rfl (p_pick_f rfl rfl rfl) ?_);refine SS.tw 23 rfl (p_assign rfl rfl) ?_;refine SS.done ?_ (by kernel_rfl)|refine SS.effB 9 ?_ rfl (by kernel_rfl)))
 refine W.call (hsm qv) ?_ (hpre:=fun w2 hs=>⟨Rd.own (Hc:=[]) hp hs inferInstance,Rd.own (Hc:=[]) hq hs inferInstance⟩)
 rintro _ _ ⟨rfl,rfl⟩
 rw [decide_eq_true (show (1:Int)=1∧List.replicate 16 (0:Int)=List.replicate 16 0∧zpg 3=zpg 3 from ⟨rfl,rfl,rfl⟩)]
 (refine SL.nilB ?_;(first|refine SS.tw 10 rfl (p_pick_t rfl rfl rfl) ?_|refine SS.tw 10 rfl (p_pick_f rfl rfl rfl) ?_);refine SS.tw 11 rfl (p_move rfl rfl) ?_;(first|refine SS.sk 12 rfl ?_|refine SS.tw 12 rfl (p_fieldAddr rfl rfl OfN.ok) ?_);(first|refine SS.sk 13 rfl ?_|refine SS.tw 13 rfl (p_fieldAddr rfl rfl OfN.ok) ?_);(first|refine SS.sk 14 rfl ?_|refine SS.ls 14 [] rfl ?_|refine SS.sR 14 rfl ?_);(first|refine SS.sk 15 rfl ?_|refine SS.tw 15 rfl (Pu.t (p_cmp rfl rfl rfl rfl) (by dsimp only [cmpP];first|done|omega)) ?_|refine SS.tw 15 rfl (Pu.f (p_cmp rfl rfl rfl rfl) (by dsimp only [cmpP];first|done|omega)) ?_|refine SS.tw 15 rfl (p_cmp rfl rfl rfl rfl) ?_|refine SS.tw 15 rfl (p_eqb rfl rfl rfl) ?_);(first|refine SS.tw 16 rfl (p_pick_t rfl rfl rfl) ?_|refine SS.tw 16 rfl (p_pick_f rfl rfl rfl) ?_);refine SS.tw 17 rfl (p_move rfl rfl) ?_;(first|refine SS.sk 18 rfl ?_|refine SS.tw 18 rfl (p_fieldAddr rfl rfl OfN.ok) ?_);(first|refine SS.sk 19 rfl ?_|refine SS.ls 19 [] rfl ?_|refine SS.sR 19 rfl ?_);(first|refine SS.sk 20 rfl ?_|refine SS.tw 20 rfl (p_len_slice rfl rfl) ?_);(first|refine SS.sk 21 rfl ?_|refine SS.tw 21 rfl (Pu.t (p_cmp rfl rfl rfl rfl) (by dsimp only [cmpP];first|done|omega)) ?_|refine SS.tw 21 rfl (Pu.f (p_cmp rfl rfl rfl rfl) (by dsimp only [cmpP];first|done|omega)) ?_|refine SS.tw 21 rfl (p_cmp rfl rfl rfl rfl) ?_|refine SS.tw 21 rfl (p_eqb rfl rfl rfl) ?_);(first|refine SS.tw 22 rfl (p_pick_t rfl rfl rfl) ?_|refine SS.tw 22 rfl (p_pick_f rfl rfl rfl) ?_);refine SS.tw 23 rfl (p_assign rfl rfl) ?_;refine SS.done ?_ (by kernel_rfl))
 repeat' (first|(refine W.go ?_;try intro b_)|fail)
 refine Fin.to [] ?_
 exact F.f1 ⟨rfl,rfl⟩
end Go.Proofs.YtnigolgkkjidiaaGreat
