/- A store that is opened: the document's. -/
import Derived.Test.YtnigolgkkjidiaaGreatPm35
import Derived.Test.YtnigolgkkjidiaaGreatPm37
import Derived.Test.YtnigolgkkjidiaaGreatPm36
set_option linter.unusedVariables false
set_option linter.unusedSimpArgs false
set_option linter.unusedSectionVars false
set_option maxHeartbeats 4000000
namespace Go.Proofs.YtnigolgkkjidiaaGreat
open Go
attribute [local irreducible] SW SL SQ SH SA SS Pu Fin CutF HandF
theorem rOpen_p{d tr sp p t:Nat}(h:Gm.Ok p t){σ:Dv}{r:Rg}{Hd:Hp}(hD:DevR d σ Hd)(hlen:σ.len=256*Gm.total p t)(hr:r.Ok)(wr:Bool) :
  Tri Tryz.prog 137 [rbaseV d tr sp p t,.bool wr] ((tr,cl (rtc d r) 128)::Hd) (fun _=>True)
  (fun v H=>∃ v1 Hd' Ho,v=.tuple #[v1,.int .i64 (openS p t wr (σ,r)).1]∧DevR d (openS p t wr (σ,r)).2.1 Hd'∧RStO v1 d tr sp p t (openO p t wr σ r) Ho ∧
   H=(tr,cl (rtc d (openS p t wr (σ,r)).2.2) 128)::(Hd'++Ho)):=by
 refine Tri.mk Tryz.func137 rfl Tryz.ntmps137 rfl fun w hw=>?_
 have hmy:=rqmay_p (tr:=tr) (s:=sp) h hD hlen
 obtain⟨f1,f2,f3⟩:=rtc_f d hr
 have hll:=Gm.leaves_le h
 have ht:=h.2.2.2
 have hl1:1≤Gm.leaves p:=by unfold Gm.leaves;omega
 have h8:σ.ws.length%8=0:=by unfold Dv.len at hlen;omega
 by_cases hE:wr=true∧r.c=18446744073709551615
 ·obtain⟨rfl,hc⟩:=hE
  have e1:openS p t true (σ,r)=(21,(σ,r)):=by unfold openS;rw [if_pos ⟨rfl,hc⟩]
  have e3:openO p t true σ r=none:=by unfold openO;rw [e1,if_neg (by show ¬ (21:Int)=0;decide)]
  rw [e1,e3]
  repeat' (first|(refine W.go ?_;try intro b_)|fail)
  refine W.call hmy ?_
  rintro _ Hx ⟨rfl,hx⟩
  have hx:=hx.symm
  subst hx
  repeat' (first|(refine W.go ?_;try intro b_)|fail)
  refine Fin.to ((tr,cl (rtc d r) 128)::(Hd++[])) ?_
  exact F.f2 ⟨_,Hd,[],rfl,hD,⟨rfl,rfl⟩,rfl⟩
 have hlk:=rLook_p (tr:=tr) (sp:=sp) h hD hlen hr
 cases wr with
 | false=>
  repeat' (first|(refine W.go ?_;try intro b_)|fail)
  refine W.call hmy ?_
  rintro _ Hx ⟨rfl,hx⟩
  have hx:=hx.symm
  subst hx
  repeat' (first|(refine W.go ?_;try intro b_)|fail)
  refine W.call hlk ?_
  rintro _ _ (⟨hdn,rfl,rfl⟩|⟨hdn,v1,cv,ev,Hb,rfl,oe,hB,rfl⟩)
  ·have e1:openS p t false (σ,r)=(8,(σ,r)):=by unfold openS;rw [if_neg hE,if_pos hdn]
   have e3:openO p t false σ r=none:=by unfold openO;rw [e1,if_neg (by show ¬ (8:Int)=0;decide)]
   rw [e1,e3]
   repeat' (first|(refine W.go ?_;try intro b_)|fail)
   refine Fin.to ((tr,cl (rtc d r) 128)::(Hd++[])) ?_
   exact F.f2 ⟨_,Hd,[],rfl,hD,⟨rfl,rfl⟩,rfl⟩
  have hlo:=look_ok (r:=r) hD.1 hdn hlen
  have hB1:=hB.one
  obtain⟨vs,Hv,Ht,hSv,hRv,rfl⟩:=hB
  obtain⟨va,vl,vc,rfl,hvl⟩:=hSv.form
  rw [Nat.mul_one,hRv.1,hlo.1] at hvl
  subst hvl
  by_cases h3:(lookB p t σ r).1=3
  ·have e1:openS p t false (σ,r)=(20,(σ,r)):=by unfold openS;rw [if_neg hE,if_neg (by show ¬ σ.down=true;rw [hdn];decide),if_pos h3]
   have e3:openO p t false σ r=none:=by unfold openO;rw [e1,if_neg (by show ¬ (20:Int)=0;decide)]
   rw [e1,e3,h3]
   repeat' (first|(refine W.go ?_;try intro b_)|fail)
   refine Fin.to ((tr,cl (rtc d r) 128)::(Hd++[])) ?_
   exact F.f2 ⟨_,Hd,[],rfl,hD,⟨rfl,rfl⟩,rfl⟩
  have e1:=openS_opn hE hdn h3
  have e3:openO p t false σ r=if (opnS p t false (lookB p t σ r).2 (σ,r)).1=0 then some ⟨epsB p (lookB p t σ r).2,sumsB (lookB p t σ r).2,false,0⟩ else none:=by unfold openO;rw [e1]
  rw [e1,e3]
  clear e1 e3 hlk
  have hkn:¬ (((lookB p t σ r).1:Nat):Int)=3:=by omega
  generalize (lookB p t σ r).2=B at *
  generalize (lookB p t σ r).1=kd at *
  obtain⟨hBl,hb256⟩:=hlo
  have hF:opnS p t false B (σ,r)=(wholeS p t B).t.and (if false=true then bumpS else fun σ=>(0,σ)) (σ,r):=by unfold opnS;rfl
  generalize hFF:opnS p t false B (σ,r)=FF at *
  have hwt:∀ x,(wholeS p t B).t (x,r)=((wholeS p t B x).1,(wholeS p t B x).2,r):=fun _=>rfl
  repeat' (first|(refine W.go ?_;try intro b_)|fail)
  refine W.call (rEpochs_p h _ vs B hRv hBl hb256) ?_ (hpre:=fun w2 hs=>Rd.own (Hc:=Ht) hSv hs inferInstance)
  rintro v8 _ ⟨Hep,hSp,rfl⟩
  have hSp1:=hSp.isOne
  repeat' (first|(refine W.gb ?_;try intro b_)|fail)
  generalize b_=b6 at *
  refine SW.cutH [1,2,6,8] Hd (fun _:Dv×Hp=>[]) (fun x=>x.2) (fun x=>DevR d x.1 x.2∧putL (rowL 0 B) σ=(0,x.1)) ?_ ?_
  ·have hSv0:=hSv
   rcases hSv with ⟨hz,hz2,-⟩|⟨bb,len,cap,junk,hz,hxl,hj,hlc2,rfl⟩
   ·simp only [Value.slice.injEq] at hz
    obtain⟨-,hz,-⟩:=hz
    omega
   simp only [Value.slice.injEq] at hz
   obtain⟨rfl,rfl,rfl⟩:=hz
   repeat' (first|(refine W.go ?_;try intro b_)|fail)
   refine SW.loopF [1,2,6,8,41,42] (fun x:Nat×Dv×Hp=>[(43,.int .i64 (x.1:Int))]) (fun x=>x.2.2) (fun x=>B.length-x.1) (fun x=>x.1≤B.length∧DevR d x.2.1 x.2.2∧putL (rowL 0 (B.take x.1)) σ=(0,x.2.1)) (0,σ,Hd) ⟨Nat.zero_le _,hD,by rw [List.take_zero];rfl⟩ ?_
   rintro⟨k,σ2,Hd2⟩ ⟨hk,hD2,hp⟩
   dsimp only at hk hD2 hp ⊢
   by_cases hkB:k<B.length
   ·have hbk:=List.getElem?_eq_getElem hkB
    obtain⟨u,hu1,hu2⟩:=hRv.2 k _ hbk
    have hv:(vs++junk)[k]?=some u:=by rw [List.getElem?_append_left (by rw [hRv.1];exact hkB)];exact hu1
    have huo:=hu2.one
    have hbl2:=hb256 _ (List.getElem_mem hkB)
    have hwl2:σ2.ws.length=σ.ws.length:=by have:=putL_wl (rowL 0 (B.take k)) σ;rw [hp] at this;exact this
    have hpt:=rput_p (tr:=tr) (s:=sp) (p:=p) (t:=t) hD2 (by rw [hwl2];exact h8) k (by omega) u B[k] (by omega)
    have htl:(B.take k).length=k:=by rw [List.length_take];omega
    have hs1:putL (rowL 0 (B.take (k+1))) σ=if (putS k B[k] σ2).1=0 then (0,(putS k B[k] σ2).2) else putS k B[k] σ2:=by
     rw [List.take_add_one,hbk,Option.toList_some,rowL_snoc,putL_app,htl,Nat.zero_add]
     show DS.and _ ((putS k B[k]).and fun σ=>(0,σ)) σ=_
     unfold DS.and
     rw [hp]
     simp
    have hs2:(putS k B[k] σ2).1≠0→putL (rowL 0 B) σ=putS k B[k] σ2:=fun hne=>by
     have e:rowL 0 B=rowL 0 (B.take (k+1))++rowL (0+(B.take (k+1)).length) (B.drop (k+1)):=by rw [← rowL_app,List.take_append_drop]
     rw [e,putL_app]
     unfold DS.and
     rw [hs1,if_neg hne,if_neg hne]
    generalize B[k]=bk at *
    repeat' (first|(refine W.go ?_;try intro b_)|fail)
    refine W.call hpt ?_ (hpre:=fun w2 hs=>hu2.rd (Hc:=Hd2) hs)
    rintro _ Hd3 ⟨rfl,hD3⟩
    by_cases hz0:(putS k bk σ2).1=0
    ·rw [if_pos hz0] at hs1
     repeat' (first|(refine W.go ?_;try intro b_)|fail)
     refine HandF.mk (k+1,(putS k bk σ2).2,Hd3) ?_
     exact⟨hkB,hD3,hs1⟩
    ·have he:=hs2 hz0
     have ewS:wholeS p t B σ=putS k bk σ2:=by
      have e1:wholeD B σ=putS k bk σ2:=by rw [← he];exact DS.and_ne (by rw [he];exact hz0)
      rw [← e1];exact DS.and_ne (by rw [e1];exact hz0)
     have eF:FF=((putS k bk σ2).1,(putS k bk σ2).2,r):=by
      rw [hF,TS.and_ne (by rw [hwt,ewS];exact hz0),hwt,ewS]
     rw [eF,if_neg hz0]
     repeat' (first|(refine W.go ?_;try intro b_)|fail)
     refine Fin.to ((tr,cl (rtc d r) 128)::(Hd3++[])) ?_
     exact F.f2 ⟨_,Hd3,[],rfl,hD3,⟨rfl,rfl⟩,rfl⟩
   ·have hkn:k=B.length:=by omega
    rw [hkn,List.take_length] at hp
    subst hkn
    repeat' (first|(refine W.go ?_;try intro b_)|fail)
    refine CutF.mk (σ2,Hd2) ?_
    exact⟨hD2,hp⟩
  rintro⟨σ2,Hd2⟩ ⟨hD2,hp⟩
  dsimp only at hD2 hp ⊢
  have hwl2:σ2.ws.length=σ.ws.length:=by have:=putL_wl (rowL 0 B) σ;rw [hp] at this;exact this
  have e1:wholeD B σ=feS σ2:=DS.and_eq hp
  have hfe:=rfence_p hD2
  have hfwl:σ2.fence.ws.length=σ2.ws.length:=fence_wl σ2
  by_cases hz0:(feS σ2).1=0
  ·have ef0:σ2.actR 0 0=0:=hz0
   have e2:wholeS p t B σ=scrubS (Gm.leaves p) (1+t) σ2.fence:=by
    unfold wholeS
    rw [DS.and_eq (y:=σ2.fence) (by rw [e1];exact pair0 hz0)]
   rw [ef0] at hfe
   repeat' (first|(refine W.go ?_;try intro b_)|fail)
   refine W.call hfe ?_
   rintro _ Hd3 ⟨rfl,hD3⟩
   have hsc:=rscrub_p (tr:=tr) (s:=sp) h hD3 (by rw [hfwl,hwl2];exact h8) (1+t) (by omega)
   rw [show ((1+t:Nat):Int)=1+(t:Int) by omega] at hsc
   generalize hsq:scrubS (Gm.leaves p) (1+t) σ2.fence=SQ2 at *
   obtain⟨es,σ3⟩:=SQ2
   dsimp only at hsc
   repeat' (first|(refine W.go ?_;try intro b_)|fail)
   refine W.call hsc ?_
   rintro _ Hd4 ⟨rfl,hD4⟩
   by_cases hz1:es=0
   ·subst hz1
    have eF:FF=(if false=true then bumpS else fun σ=>(0,σ)) (σ3,r):=by rw [hF,TS.and_eq (y:=(σ3,r)) (by rw [hwt,e2])]
    have eF2:FF=(0,σ3,r):=eF
    rw [eF2,if_pos rfl]
    have hlv:=rleaves_p (.slice va (Gm.leaves p) vc) vs B hRv (by omega) hb256
    repeat' (first|(refine W.go ?_;try intro b_)|fail)
    (refine SW.regionS [7] ?_ (by kernel_rfl);(first|refine SS.lw 0 [6,7] rfl ?_|refine SS.la 0 [6,7] rfl ?_|refine SS.aR 0 rfl ?_);refine SS.T 1 rfl ?_;refine SS.T 2 rfl ?_;(first|refine SS.ls 3 [4,6,7] rfl ?_|refine SS.sR 3 rfl ?_);refine SS.T 5 rfl ?_;refine SS.effK 4 ?_ rfl (by kernel_rfl))
    refine W.call hlv ?_ (hpre:=fun w2 hs=>Rd.own (Hc:=Ht) hSv hs inferInstance)
    rintro v9 _ ⟨H9,h9,rfl⟩
    have h91:=h9.isOne
    obtain⟨a9,l9,c9,rfl,-⟩:=h9.form
    obtain⟨a8,l8,c8,rfl,-⟩:=hSp.form
    have hbd:bfill (fun i=>[(0,5),(5,1),(6,1),(7,1),(8,1)][i]?) (List.replicate 3 (.pointer none)++[.int .i64 0,.int .i64 0]++[.slice none 0 0,.slice none 0 0]++[.bool false]++[.int .i64 0]) [(0,rbaseV d tr sp p t),(1,.slice a8 l8 c8),(2,.slice a9 l9 c9),(3,.bool false)]=some [ptv d,ptv tr,ptv sp,.int .i64 (p:Int),.int .i64 (t:Int),.slice a8 l8 c8,.slice a9 l9 c9,.bool false,.int .i64 0]:=rfl
    (refine SL.nilB ?_;refine SS.T 6 rfl ?_;refine SS.effB 7 ?_ rfl (by kernel_rfl);(repeat' (first|(refine W.g1 ?_;try intro b_)|fail));refine SS.T 8 rfl ?_;refine SS.T 9 rfl ?_;refine SS.done ?_ (by kernel_rfl))
    repeat' (first|(refine W.go ?_;try intro b_)|fail)
    refine Fin.to ((tr,cl (rtc d r) 128)::(Hd4++((b_,cl [ptv d,ptv tr,ptv sp,.int .i64 (p:Int),.int .i64 (t:Int),.slice a8 l8 c8,.slice a9 l9 c9,.bool false,.int .i64 0] 344)::(Hep++H9)))) ?_
    exact F.f2 ⟨_,Hd4,_,rfl,hD4,⟨b_,rfl,_,_,Hep,H9,rfl,hSp,h9⟩,rfl⟩
   ·have eF:FF=(es,σ3,r):=by rw [hF,TS.and_ne (by rw [hwt,e2];exact hz1),hwt,e2]
    rw [eF,if_neg hz1]
    repeat' (first|(refine W.go ?_;try intro b_)|fail)
    refine Fin.to ((tr,cl (rtc d r) 128)::(Hd4++[])) ?_
    exact F.f2 ⟨_,Hd4,[],rfl,hD4,⟨rfl,rfl⟩,rfl⟩
  ·have e2:wholeS p t B σ=feS σ2:=by rw [← e1];exact DS.and_ne (by rw [e1];exact hz0)
   have eF:FF=((feS σ2).1,(feS σ2).2,r):=by rw [hF,TS.and_ne (by rw [hwt,e2];exact hz0),hwt,e2]
   rw [eF,if_neg hz0]
   have ef0:¬ σ2.actR 0 0=0:=hz0
   repeat' (first|(refine W.go ?_;try intro b_)|fail)
   refine W.call hfe ?_
   rintro _ Hd3 ⟨rfl,hD3⟩
   repeat' (first|(refine W.go ?_;try intro b_)|fail)
   refine Fin.to ((tr,cl (rtc d r) 128)::(Hd3++[])) ?_
   exact F.f2 ⟨_,Hd3,[],rfl,hD3,⟨rfl,rfl⟩,rfl⟩
 | true=>
  have hcn:¬ r.c=18446744073709551615:=fun hc=>hE ⟨rfl,hc⟩
  have hlt:r.c<18446744073709551615:=by have:=hr.c1;omega
  repeat' (first|(refine W.go ?_;try intro b_)|fail)
  refine W.call hmy ?_
  rintro _ Hx ⟨rfl,hx⟩
  have hx:=hx.symm
  subst hx
  repeat' (first|(refine W.go ?_;try intro b_)|fail)
  refine W.call hlk ?_
  rintro _ _ (⟨hdn,rfl,rfl⟩|⟨hdn,v1,cv,ev,Hb,rfl,oe,hB,rfl⟩)
  ·have e1:openS p t true (σ,r)=(8,(σ,r)):=by unfold openS;rw [if_neg hE,if_pos hdn]
   have e3:openO p t true σ r=none:=by unfold openO;rw [e1,if_neg (by show ¬ (8:Int)=0;decide)]
   rw [e1,e3]
   repeat' (first|(refine W.go ?_;try intro b_)|fail)
   refine Fin.to ((tr,cl (rtc d r) 128)::(Hd++[])) ?_
   exact F.f2 ⟨_,Hd,[],rfl,hD,⟨rfl,rfl⟩,rfl⟩
  have hlo:=look_ok (r:=r) hD.1 hdn hlen
  have hB1:=hB.one
  obtain⟨vs,Hv,Ht,hSv,hRv,rfl⟩:=hB
  obtain⟨va,vl,vc,rfl,hvl⟩:=hSv.form
  rw [Nat.mul_one,hRv.1,hlo.1] at hvl
  subst hvl
  by_cases h3:(lookB p t σ r).1=3
  ·have e1:openS p t true (σ,r)=(20,(σ,r)):=by unfold openS;rw [if_neg hE,if_neg (by show ¬ σ.down=true;rw [hdn];decide),if_pos h3]
   have e3:openO p t true σ r=none:=by unfold openO;rw [e1,if_neg (by show ¬ (20:Int)=0;decide)]
   rw [e1,e3,h3]
   repeat' (first|(refine W.go ?_;try intro b_)|fail)
   refine Fin.to ((tr,cl (rtc d r) 128)::(Hd++[])) ?_
   exact F.f2 ⟨_,Hd,[],rfl,hD,⟨rfl,rfl⟩,rfl⟩
  have e1:=openS_opn hE hdn h3
  have e3:openO p t true σ r=if (opnS p t true (lookB p t σ r).2 (σ,r)).1=0 then some ⟨epsB p (lookB p t σ r).2,sumsB (lookB p t σ r).2,true,0⟩ else none:=by unfold openO;rw [e1]
  rw [e1,e3]
  clear e1 e3 hlk
  have hkn:¬ (((lookB p t σ r).1:Nat):Int)=3:=by omega
  generalize (lookB p t σ r).2=B at *
  generalize (lookB p t σ r).1=kd at *
  obtain⟨hBl,hb256⟩:=hlo
  have hF:opnS p t true B (σ,r)=(wholeS p t B).t.and (if true=true then bumpS else fun σ=>(0,σ)) (σ,r):=by unfold opnS;rfl
  generalize hFF:opnS p t true B (σ,r)=FF at *
  have hwt:∀ x,(wholeS p t B).t (x,r)=((wholeS p t B x).1,(wholeS p t B x).2,r):=fun _=>rfl
  repeat' (first|(refine W.go ?_;try intro b_)|fail)
  refine W.call (rEpochs_p h _ vs B hRv hBl hb256) ?_ (hpre:=fun w2 hs=>Rd.own (Hc:=Ht) hSv hs inferInstance)
  rintro v8 _ ⟨Hep,hSp,rfl⟩
  have hSp1:=hSp.isOne
  repeat' (first|(refine W.gb ?_;try intro b_)|fail)
  generalize b_=b6 at *
  refine SW.cutH [1,2,6,8] Hd (fun _:Dv×Hp=>[]) (fun x=>x.2) (fun x=>DevR d x.1 x.2∧putL (rowL 0 B) σ=(0,x.1)) ?_ ?_
  ·have hSv0:=hSv
   rcases hSv with ⟨hz,hz2,-⟩|⟨bb,len,cap,junk,hz,hxl,hj,hlc2,rfl⟩
   ·simp only [Value.slice.injEq] at hz
    obtain⟨-,hz,-⟩:=hz
    omega
   simp only [Value.slice.injEq] at hz
   obtain⟨rfl,rfl,rfl⟩:=hz
   repeat' (first|(refine W.go ?_;try intro b_)|fail)
   refine SW.loopF [1,2,6,8,41,42] (fun x:Nat×Dv×Hp=>[(43,.int .i64 (x.1:Int))]) (fun x=>x.2.2) (fun x=>B.length-x.1) (fun x=>x.1≤B.length∧DevR d x.2.1 x.2.2∧putL (rowL 0 (B.take x.1)) σ=(0,x.2.1)) (0,σ,Hd) ⟨Nat.zero_le _,hD,by rw [List.take_zero];rfl⟩ ?_
   rintro⟨k,σ2,Hd2⟩ ⟨hk,hD2,hp⟩
   dsimp only at hk hD2 hp ⊢
   by_cases hkB:k<B.length
   ·have hbk:=List.getElem?_eq_getElem hkB
    obtain⟨u,hu1,hu2⟩:=hRv.2 k _ hbk
    have hv:(vs++junk)[k]?=some u:=by rw [List.getElem?_append_left (by rw [hRv.1];exact hkB)];exact hu1
    have huo:=hu2.one
    have hbl2:=hb256 _ (List.getElem_mem hkB)
    have hwl2:σ2.ws.length=σ.ws.length:=by have:=putL_wl (rowL 0 (B.take k)) σ;rw [hp] at this;exact this
    have hpt:=rput_p (tr:=tr) (s:=sp) (p:=p) (t:=t) hD2 (by rw [hwl2];exact h8) k (by omega) u B[k] (by omega)
    have htl:(B.take k).length=k:=by rw [List.length_take];omega
    have hs1:putL (rowL 0 (B.take (k+1))) σ=if (putS k B[k] σ2).1=0 then (0,(putS k B[k] σ2).2) else putS k B[k] σ2:=by
     rw [List.take_add_one,hbk,Option.toList_some,rowL_snoc,putL_app,htl,Nat.zero_add]
     show DS.and _ ((putS k B[k]).and fun σ=>(0,σ)) σ=_
     unfold DS.and
     rw [hp]
     simp
    have hs2:(putS k B[k] σ2).1≠0→putL (rowL 0 B) σ=putS k B[k] σ2:=fun hne=>by
     have e:rowL 0 B=rowL 0 (B.take (k+1))++rowL (0+(B.take (k+1)).length) (B.drop (k+1)):=by rw [← rowL_app,List.take_append_drop]
     rw [e,putL_app]
     unfold DS.and
     rw [hs1,if_neg hne,if_neg hne]
    generalize B[k]=bk at *
    repeat' (first|(refine W.go ?_;try intro b_)|fail)
    refine W.call hpt ?_ (hpre:=fun w2 hs=>hu2.rd (Hc:=Hd2) hs)
    rintro _ Hd3 ⟨rfl,hD3⟩
    by_cases hz0:(putS k bk σ2).1=0
    ·rw [if_pos hz0] at hs1
     repeat' (first|(refine W.go ?_;try intro b_)|fail)
     refine HandF.mk (k+1,(putS k bk σ2).2,Hd3) ?_
     exact⟨hkB,hD3,hs1⟩
    ·have he:=hs2 hz0
     have ewS:wholeS p t B σ=putS k bk σ2:=by
      have e1:wholeD B σ=putS k bk σ2:=by rw [← he];exact DS.and_ne (by rw [he];exact hz0)
      rw [← e1];exact DS.and_ne (by rw [e1];exact hz0)
     have eF:FF=((putS k bk σ2).1,(putS k bk σ2).2,r):=by
      rw [hF,TS.and_ne (by rw [hwt,ewS];exact hz0),hwt,ewS]
     rw [eF,if_neg hz0]
     repeat' (first|(refine W.go ?_;try intro b_)|fail)
     refine Fin.to ((tr,cl (rtc d r) 128)::(Hd3++[])) ?_
     exact F.f2 ⟨_,Hd3,[],rfl,hD3,⟨rfl,rfl⟩,rfl⟩
   ·have hkn:k=B.length:=by omega
    rw [hkn,List.take_length] at hp
    subst hkn
    repeat' (first|(refine W.go ?_;try intro b_)|fail)
    refine CutF.mk (σ2,Hd2) ?_
    exact⟨hD2,hp⟩
  rintro⟨σ2,Hd2⟩ ⟨hD2,hp⟩
  dsimp only at hD2 hp ⊢
  have hwl2:σ2.ws.length=σ.ws.length:=by have:=putL_wl (rowL 0 B) σ;rw [hp] at this;exact this
  have e1:wholeD B σ=feS σ2:=DS.and_eq hp
  have hfe:=rfence_p hD2
  have hfwl:σ2.fence.ws.length=σ2.ws.length:=fence_wl σ2
  by_cases hz0:(feS σ2).1=0
  ·have ef0:σ2.actR 0 0=0:=hz0
   have e2:wholeS p t B σ=scrubS (Gm.leaves p) (1+t) σ2.fence:=by
    unfold wholeS
    rw [DS.and_eq (y:=σ2.fence) (by rw [e1];exact pair0 hz0)]
   rw [ef0] at hfe
   repeat' (first|(refine W.go ?_;try intro b_)|fail)
   refine W.call hfe ?_
   rintro _ Hd3 ⟨rfl,hD3⟩
   have hsc:=rscrub_p (tr:=tr) (s:=sp) h hD3 (by rw [hfwl,hwl2];exact h8) (1+t) (by omega)
   rw [show ((1+t:Nat):Int)=1+(t:Int) by omega] at hsc
   generalize hsq:scrubS (Gm.leaves p) (1+t) σ2.fence=SQ2 at *
   obtain⟨es,σ3⟩:=SQ2
   dsimp only at hsc
   repeat' (first|(refine W.go ?_;try intro b_)|fail)
   refine W.call hsc ?_
   rintro _ Hd4 ⟨rfl,hD4⟩
   by_cases hz1:es=0
   ·subst hz1
    have eF:FF=(if true=true then bumpS else fun σ=>(0,σ)) (σ3,r):=by rw [hF,TS.and_eq (y:=(σ3,r)) (by rw [hwt,e2])]
    have hbm:=rbump_p (tr:=tr) (s:=sp) (p:=p) (t:=t) hD4 hr hlt
    have eF2:FF=bumpS (σ3,r):=eF
    rw [eF2]
    clear eF eF2 hF hFF
    generalize bumpS (σ3,r)=G at *
    obtain⟨eb,σ4,r4⟩:=G
    dsimp only at hbm ⊢
    repeat' (first|(refine W.go ?_;try intro b_)|fail)
    refine W.call hbm ?_
    rintro _ _ ⟨rfl,Hd5,hD5,rfl⟩
    by_cases hz2:eb=0
    ·subst hz2
     rw [if_pos rfl]
     have hlv:=rleaves_p (.slice va (Gm.leaves p) vc) vs B hRv (by omega) hb256
     repeat' (first|(refine W.go ?_;try intro b_)|fail)
     (refine SW.regionS [7] ?_ (by kernel_rfl);(first|refine SS.lw 0 [6,7] rfl ?_|refine SS.la 0 [6,7] rfl ?_|refine SS.aR 0 rfl ?_);refine SS.T 1 rfl ?_;refine SS.T 2 rfl ?_;(first|refine SS.ls 3 [4,6,7] rfl ?_|refine SS.sR 3 rfl ?_);refine SS.T 5 rfl ?_;refine SS.effK 4 ?_ rfl (by kernel_rfl))
     refine W.call hlv ?_ (hpre:=fun w2 hs=>Rd.own (Hc:=Ht) hSv hs inferInstance)
     rintro v9 _ ⟨H9,h9,rfl⟩
     have h91:=h9.isOne
     obtain⟨a9,l9,c9,rfl,-⟩:=h9.form
     obtain⟨a8,l8,c8,rfl,-⟩:=hSp.form
     have hbd:bfill (fun i=>[(0,5),(5,1),(6,1),(7,1),(8,1)][i]?) (List.replicate 3 (.pointer none)++[.int .i64 0,.int .i64 0]++[.slice none 0 0,.slice none 0 0]++[.bool false]++[.int .i64 0]) [(0,rbaseV d tr sp p t),(1,.slice a8 l8 c8),(2,.slice a9 l9 c9),(3,.bool true)]=some [ptv d,ptv tr,ptv sp,.int .i64 (p:Int),.int .i64 (t:Int),.slice a8 l8 c8,.slice a9 l9 c9,.bool true,.int .i64 0]:=rfl
     (refine SL.nilB ?_;refine SS.T 6 rfl ?_;refine SS.effB 7 ?_ rfl (by kernel_rfl);(repeat' (first|(refine W.g1 ?_;try intro b_)|fail));refine SS.T 8 rfl ?_;refine SS.T 9 rfl ?_;refine SS.done ?_ (by kernel_rfl))
     repeat' (first|(refine W.go ?_;try intro b_)|fail)
     refine Fin.to ((tr,cl (rtc d r4) 128)::(Hd5++((b_,cl [ptv d,ptv tr,ptv sp,.int .i64 (p:Int),.int .i64 (t:Int),.slice a8 l8 c8,.slice a9 l9 c9,.bool true,.int .i64 0] 344)::(Hep++H9)))) ?_
     exact F.f2 ⟨_,Hd5,_,rfl,hD5,⟨b_,rfl,_,_,Hep,H9,rfl,hSp,h9⟩,rfl⟩
    ·rw [if_neg hz2]
     repeat' (first|(refine W.go ?_;try intro b_)|fail)
     refine Fin.to ((tr,cl (rtc d r4) 128)::(Hd5++[])) ?_
     exact F.f2 ⟨_,Hd5,[],rfl,hD5,⟨rfl,rfl⟩,rfl⟩
   ·have eF:FF=(es,σ3,r):=by rw [hF,TS.and_ne (by rw [hwt,e2];exact hz1),hwt,e2]
    rw [eF,if_neg hz1]
    repeat' (first|(refine W.go ?_;try intro b_)|fail)
    refine Fin.to ((tr,cl (rtc d r) 128)::(Hd4++[])) ?_
    exact F.f2 ⟨_,Hd4,[],rfl,hD4,⟨rfl,rfl⟩,rfl⟩
  ·have e2:wholeS p t B σ=feS σ2:=by rw [← e1];exact DS.and_ne (by rw [e1];exact hz0)
   have eF:FF=((feS σ2).1,(feS σ2).2,r):=by rw [hF,TS.and_ne (by rw [hwt,e2];exact hz0),hwt,e2]
   rw [eF,if_neg hz0]
   have ef0:¬ σ2.actR 0 0=0:=hz0
   repeat' (first|(refine W.go ?_;try intro b_)|fail)
   refine W.call hfe ?_
   rintro _ Hd3 ⟨rfl,hD3⟩
   repeat' (first|(refine W.go ?_;try intro b_)|fail)
   refine Fin.to ((tr,cl (rtc d r) 128)::(Hd3++[])) ?_
   exact F.f2 ⟨_,Hd3,[],rfl,hD3,⟨rfl,rfl⟩,rfl⟩
theorem pOpen_p{pp p t n N:Nat}{ws ws':List (List UInt8)}{σ:Dv}{r:Rg}{sr:Sr}{β:Bk}{o:Option So}{H:Hp}(h:Gm.Ok p t)(hP:PairP pp p t n N ws ws' σ r sr β o H)(hlen:σ.len=256*Gm.total p t)(hr:r.Ok)(wr:Bool) :
  Tri Tryz.prog 62 [ptv pp,.bool wr] H (fun _=>True) (fun v H'=>v=.bool true ∧
   PairP pp p t n N ws ws' (openS p t wr (σ,r)).2.1 (openS p t wr (σ,r)).2.2 sr (openK p t wr σ r β) (openO p t wr σ r) H'):=by
 obtain⟨i,sv,rv,Hd,Hs,Hk,HD,HR,HS,HT,hD,hS,hB,hDR,hSR,hO,hOR,rfl⟩:=hP
 refine Tri.mk Tryz.func62 rfl Tryz.ntmps62 rfl fun w hw=>?_
 have hF:=Open_p (tr:=i.tr) (s:=i.s) h hD hlen hr hB wr
 have hG:=rOpen_p (tr:=i.rtr) (sp:=i.rs) h hDR hlen hr wr
 have o1:=hO.one
 have o2:=hOR.one
 have hz:openO p t wr σ r=if (openS p t wr (σ,r)).1=0 then some ⟨epsB p (lookB p t σ r).2,sumsB (lookB p t σ r).2,wr,0⟩ else none:=rfl
 generalize openO p t wr σ r=oo at *
 generalize openK p t wr σ r β=β2 at *
 generalize openS p t wr (σ,r)=FF at *
 obtain⟨e,σ2,r2⟩:=FF
 dsimp only at hF hG hz ⊢
 repeat' (first|(refine W.go ?_;try intro b_)|fail)
 refine W.call hF ?_
 rintro _ _ ⟨v1,Hd2,Hk2,HS2,Hx,rfl,hD2,hB2,hO2,rfl⟩
 have o3:=hO2.one
 repeat' (first|(refine W.go ?_;try intro b_)|fail)
 refine W.call hG ?_
 rintro _ _ ⟨v2,HD2,HT2,rfl,hDR2,hOR2,rfl⟩
 have o4:=hOR2.one
 have hO3:=hO2
 by_cases he:e=0
 ·rw [if_pos he] at hz
  subst hz
  subst he
  obtain⟨sp,rfl,-⟩:=hO2
  repeat' (first|(refine W.go ?_;try intro b_)|fail)
  rw [show ((pairC i p t sv rv).set 6 (ptv sp)).set 12 v2=pairC i p t (ptv sp) v2 from rfl]
  refine Fin.to ((pp,cl (pairC i p t (ptv sp) v2) 43)::(i.tr,cl (trc i.d r2) 225)::(i.rtr,cl (rtc i.rd r2) 128)::(Hd2++(Hs++(Hk2++(HD2++(HR++(HS2++HT2))))))) ?_
  exact F.f1 ⟨rfl,i,_,v2,Hd2,Hs,Hk2,HD2,HR,HS2,HT2,hD2,hS,hB2,hDR2,hSR,hO3,hOR2,rfl⟩
 ·rw [if_neg he] at hz
  subst hz
  obtain⟨rfl,-⟩:=hO2
  repeat' (first|(refine W.go ?_;try intro b_)|fail)
  rw [show ((pairC i p t sv rv).set 6 (.pointer none)).set 12 v2=pairC i p t (.pointer none) v2 from rfl]
  refine Fin.to ((pp,cl (pairC i p t (.pointer none) v2) 43)::(i.tr,cl (trc i.d r2) 225)::(i.rtr,cl (rtc i.rd r2) 128)::(Hd2++(Hs++(Hk2++(HD2++(HR++(HS2++HT2))))))) ?_
  exact F.f1 ⟨rfl,i,_,v2,Hd2,Hs,Hk2,HD2,HR,HS2,HT2,hD2,hS,hB2,hDR2,hSR,hO3,hOR2,rfl⟩
theorem look_sta{p t:Nat}{σ:Dv}{r:Rg}{n:Nat}{B:List (List UInt8)}{R:List UInt8}(h:σ.Sta n (B.flatten++R))(hn:8*n=256*Gm.total p t)(hB:∀ b∈B,b.length=256)(hBl:B.length=Gm.leaves p)(hr:r.root=rootB B)(hs:B.getD 0 []=superB p t):lookB p t σ r=(1,B):=by
 have htot:Gm.total p t=Gm.leaves p+(1+t):=rfl
 have hbk:=h.blks hB (by omega)
 rw [hBl] at hbk
 unfold lookB
 rw [hbk]
 exact foundB_fit (by unfold fitsB;rw [hr,hs];simp)
theorem whole_sta{p t:Nat}{σ:Dv}{n:Nat}{M:List UInt8}{B:List (List UInt8)}(h1:σ.Sta n M)(hn:8*n=256*Gm.total p t)(h256:∀ b∈B,b.length=256)(hbl:B.length=Gm.leaves p) :
  (wholeS p t B σ).1=0∧(wholeS p t B σ).2.Sta n (B.flatten++List.replicate (256*(1+t)) 0):=by
 have htot:Gm.total p t=Gm.leaves p+(1+t):=rfl
 have hfl:B.flatten.length=256*B.length:=by
  clear hbl
  induction B with
  | nil=>rfl
  | cons x r ih=>rw [List.flatten_cons,List.length_append,h256 x (by simp),ih (fun y hy=>h256 y (by simp [hy])),List.length_cons];omega
 have hM:=h1.ml
 have hD:(wholeS p t B σ).1=0∧(wholeS p t B σ).2.Sta n (spl (spl M (256*0) B.flatten) (256*Gm.leaves p) (List.replicate (256*(1+t)) 0)):=by
  refine DS.and_sta (DS.and_sta (Dv.Sta.putL B h1 0 h256 (by rw [hbl];omega)) fun τ ht=>ht.fence) fun τ ht=>?_
  refine DS.and_sta (a:=putS (Gm.leaves p) (List.replicate (256*(1+t)) 0)) (ht.put (by rw [List.length_replicate];omega)) fun τ' ht'=>ht'.fence
 have es:spl (spl M (256*0) B.flatten) (256*Gm.leaves p) (List.replicate (256*(1+t)) 0)=B.flatten++List.replicate (256*(1+t)) 0:=by
  rw [show 256*Gm.leaves p=256*0+B.flatten.length by rw [hfl,hbl];omega,spl_spl _ _ _ _ (by rw [hfl,hbl,List.length_replicate];omega)]
  unfold spl
  rw [show 256*0=0 from rfl,List.take_zero,List.nil_append,List.drop_eq_nil_of_le (by rw [List.length_append,hfl,hbl,List.length_replicate];omega),List.append_nil]
 rwa [es] at hD
theorem open_sta{p t:Nat}{σ:Dv}{r:Rg}{n:Nat}{B:List (List UInt8)}{R:List UInt8}(h:σ.Sta n (B.flatten++R))(hn:8*n=256*Gm.total p t)(hB:∀ b∈B,b.length=256)(hBl:B.length=Gm.leaves p)(hr:r.root=rootB B)(hs:B.getD 0 []=superB p t)(hc:r.c<18446744073709551615) :
  ∃ σ',openS p t true (σ,r)=(0,(σ',{ r with c:=r.c+1 }))∧σ'.Sta n (B.flatten++List.replicate (256*(1+t)) 0):=by
 have hl:=look_sta h hn hB hBl hr hs
 rw [openS_opn (fun hh=>by have:=hh.2;omega) h.l.d (by rw [hl];show 1≠3;decide),hl]
 obtain⟨e2,h2⟩:=whole_sta (p:=p) (t:=t) h hn hB hBl
 obtain⟨σ3,e3,h3⟩:=bump_sta (r:=r) h2 { r with c:=r.c+1 } (by show r.c<r.c+1;omega)
 refine⟨σ3,?_,h3⟩
 unfold opnS
 rw [TS.and_eq (y:=((wholeS p t B σ).2,r)) (by unfold DS.t;dsimp only;rw [e2]),if_pos rfl]
 exact e3
end Go.Proofs.YtnigolgkkjidiaaGreat
