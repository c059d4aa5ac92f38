/- A batch of blocks over a store. -/
import Derived.Test.YtnigolgkkjidiaaGreatPq15
import Derived.Test.YtnigolgkkjidiaaGreatPq39
import Derived.Test.YtnigolgkkjidiaaGreatPq38
import Derived.Test.YtnigolgkkjidiaaGreatPq30
import Derived.Test.YtnigolgkkjidiaaGreatPq37
set_option linter.unusedVariables false
set_option linter.unusedSimpArgs false
set_option linter.unusedSectionVars false
set_option maxHeartbeats 1000000
namespace Go.Proofs.YtnigolgkkjidiaaGreat
open Go
attribute [local irreducible] SW SL SQ SH SA SS Pu Fin CutF HandF
section
variable {P:Program}{C:Ctx}{L:List Oper}{Q:Exit→Fr→Hp→Prop}{B:List Nat}{R R' H:Hp}{fuel:Nat}{listed:Array Bool}{ρ:Fr}{o:Oper}
theorem SS.lnI{t r c:Nat}{z:Value}{x:Operand}{l:List Ei}(i:Nat)(Ws:List Nat)(hi:L[i]?=some o){d':Option Nat}(iM:MapI P t z)(hk:SS P C L Q B R' fuel (listed.setIfInBounds i true) (pt ρ d' (.int .i64 (l.length:Int))) H)(hok:canL L B listed i Ws=true:=by kernel_rfl)(ho:o.op=.call { callee:=.builtin .len,args:=#[x],argTypes:=#[t] }:=by exact rfl)(hx:ev ρ x=some (.map (some r)):=by exact rfl)(hat:At H r (moI l c):=by infer_instance)(hin:Ins R r (moI l c) R':=by infer_instance)(hg:gd L ρ o=some true:=by exact rfl)(hd:dk C.n o.dst=some d':=by exact rfl)(hQ:∀ c ρ H,Q (.panic c) ρ H→False:=by exact fun _ _ _ h=>Fin.np h):SS P C L Q B R (fuel+1) listed ρ H:=
 SS.putL i Ws hi hok hQ hin.ok.2.1 (fun x hx=>(hin.ok.2.2 x hx).elim (fun e=>.inr (e▸hat.mem)) .inl) (fun a hf=>.inl ⟨gd_wanted hf hg,fun w hr=>by
  have hb2:=hr.2 _ hin.ok.1
  obtain⟨k,e,hu,-⟩:=iM.ok
  unfold execOp;rw [ho];simp [resolve,invoke,builtin,hf.eval hx,Builtin.len_,run_underlying hu,MapKept.run_getObj_map hb2,goInt]⟩) hd hk
end
theorem F.f4{P:Program}{C:Ctx}{ρ:Fr}{H:Hp}{fn:Func}{R:Value→Hp→Prop}{e:Exit}{t u x y:Nat}{v v2 v3 v4:Value}(hR:R (.tuple #[v,v2,v3,v4]) H)(he:e=.ret∨e=.normal:=by first|exact .inl rfl|exact .inr rfl)(hrs:fn.results=#[.tmp t,.tmp u,.tmp x,.tmp y]:=by exact rfl)(ht:lk ρ t=some v:=by exact rfl)(hu:lk ρ u=some v2:=by exact rfl)(hx:lk ρ x=some v3:=by exact rfl)(hy:lk ρ y=some v4:=by exact rfl):Fin P C fn R e ρ H:=
 Fin.of he (List.Perm.of_eq (List.append_nil H).symm) hR fun a w hf _=>by
  have h1:=tmps_getD hf ht
  have h2:=tmps_getD hf hu
  have h3:=tmps_getD hf hx
  have h4:=tmps_getD hf hy
  rw [Array.getD_eq_getD_getElem?] at h1 h2 h3 h4
  simp [results,hrs,h1,h2,h3,h4]
abbrev Bl:=List (Int×List UInt8)
def Bl.at(l:Bl)(k:Int):Option (List UInt8):=(l.find? fun x=>decide (k=x.1)).map Prod.snd
def Bl.put:Bl→Int→List UInt8→Bl
 | [],k,d=>[(k,d)]
 | x::r,k,d=>if k=x.1 then (k,d)::r else x::Bl.put r k d
def Bl.no(most:Int)(l:Bl)(k:Int):Int:=if k<0∨65536≤k then 3 else if l.at k=none∧most≤(l.length:Int) then 28 else 0
def Bl.step(most:Int)(l:Bl)(k:Int)(d:List UInt8):Bl:=if l.no most k=0 then l.put k d else l
abbrev plB(es:List Ei):Bl:=es.map fun x=>(x.k,x.bs)
theorem at_plB(es:List Ei)(k:Int):Bl.at (plB es) k=(atI es k).map Ei.bs:=by
 unfold Bl.at atI plB
 rw [List.find?_map]
 simp [Function.comp_def]
theorem put_plB(y:Ei):∀ es:List Ei,plB (setI es y)=Bl.put (plB es) y.k y.bs
 | []=>rfl
 | x::r=>by
  unfold setI
  by_cases h:y.k=x.k
  ·rw [if_pos h]
   show (y.k,y.bs)::plB r=Bl.put ((x.k,x.bs)::plB r) y.k y.bs
   unfold Bl.put
   rw [if_pos h]
  ·rw [if_neg h]
   show (x.k,x.bs)::plB (setI r y)=Bl.put ((x.k,x.bs)::plB r) y.k y.bs
   rw [put_plB y r]
   conv=>rhs;unfold Bl.put
   rw [if_neg h]
theorem mem_setI{y:Ei}:∀ {es:List Ei} {x:Ei},x∈setI es y→x∈es∨x.v=y.v∧x.bs=y.bs
 | [],x,h=>by
  rw [show setI [] y=[y] from rfl,List.mem_singleton] at h
  exact .inr ⟨by rw [h],by rw [h]⟩
 | z::r,x,h=>by
  unfold setI at h
  by_cases hk:y.k=z.k
  ·rw [if_pos hk] at h
   rcases List.mem_cons.1 h with rfl|h
   ·exact .inr ⟨rfl,rfl⟩
   ·exact .inl (List.mem_cons_of_mem _ h)
  ·rw [if_neg hk] at h
   rcases List.mem_cons.1 h with rfl|h
   ·exact .inl (List.mem_cons_self ..)
   ·exact (mem_setI h).imp (List.mem_cons_of_mem _) id
instance plBM:MapI Tryz.prog 161 (.slice none 0 0) where
 ok:=⟨3,50,Tryz.underlying161,Tryz.underlying3,by kernel_rfl⟩
abbrev batC(sp m:Nat)(most:Int):List Value:=[ptv sp,.func (.func 25) #[ptv sp] #[],.int .i64 most,.map (some m)]
def BatP(b sp:Nat)(most:Int)(l:Bl)(H:Hp):Prop:=
 ∃ (m c:Nat) (es:List Ei) (Ht:Hp),H=(b,cl (batC sp m most) 163)::(m,moI es c)::Ht∧l=plB es∧∀ x∈es,RdH Ht x.v x.bs∧x.bs.length=256
theorem bNew_p(sp:Nat){most:Int}(h0:0≤most):Tri Tryz.prog 63 [ptv sp,.int .i64 most] [] (fun _=>True) (fun v H=>∃ b,v=ptv b∧BatP b sp most [] H):=by
 refine Tri.mk Tryz.func63 rfl Tryz.ntmps63 rfl fun w hw=>?_
 have hm:max most 0=most:=by omega
 repeat' (first|(refine W.go ?_;try intro b_)|fail)
 refine W.mkm fun m=>?_
 have hbd:bfill (fun i=>[(0,1),(1,1),(2,1),(3,1)][i]?) ([.pointer none]++[.nilFunc]++[.int .i64 0]++[.map none]) [(0,ptv sp),(1,.func (.func 25) #[ptv sp] #[]),(2,.int .i64 (max most 0)),(3,.map (some m))]=some (batC sp m most):=by rw [hm];rfl
 repeat' (first|(refine W.go ?_;try intro b_)|fail)
 refine F.f1 ?_
 exact⟨b_,rfl,m,0,[],[],rfl,rfl,by simp⟩
theorem bLen_p{b sp:Nat}{most:Int}{l:Bl}{H:Hp}(hB:BatP b sp most l H):Tri Tryz.prog 21 [ptv b] H (fun _=>True) (fun v H'=>v=.int .i64 (l.length:Int)∧H'=H):=by
 obtain⟨m,c,es,Ht,rfl,rfl,hr⟩:=hB
 refine Tri.mk Tryz.func21 rfl Tryz.ntmps21 rfl fun w hw=>?_
 repeat' (first|(refine W.go ?_;try intro b_)|fail)
 refine W.lnI ?_
 repeat' (first|(refine W.go ?_;try intro b_)|fail)
 refine F.f1 ?_
 exact⟨by rw [List.length_map],rfl⟩
theorem bAbort_p{b sp:Nat}{most:Int}{l:Bl}{H:Hp}(hB:BatP b sp most l H):Tri Tryz.prog 66 [ptv b] H (fun _=>True) (fun v H'=>BatP b sp most [] H'):=by
 obtain⟨m,c,es,Ht,rfl,rfl,hr⟩:=hB
 refine Tri.mk Tryz.func66 rfl Tryz.ntmps66 rfl fun w hw=>?_
 repeat' (first|(refine W.go ?_;try intro b_)|fail)
 refine W.clI ?_
 repeat' (first|(refine W.go ?_;try intro b_)|fail)
 refine Fin.to ((b,cl (batC sp m most) 163)::(m,moI [] c)::Ht) ?_
 exact F.f0 ⟨m,c,[],Ht,rfl,rfl,by simp⟩
theorem bPut_p{b sp:Nat}{most:Int}{l:Bl}{H:Hp}{F0:List Value}{Hx:Hp}(hF:F0[9]?=some (.int .i64 0))(hB:BatP b sp most l H)(k:Int)(dv:Value)(d:List UInt8)(hd:d.length=256) :
  Tri Tryz.prog 19 [ptv b,.int .i64 k,dv] (H++((sp,cl F0 169)::Hx)) (fun w=>Rd ((H++((sp,cl F0 169)::Hx)).map Prod.fst) w 1 dv (cbs d)) (fun v H'=>∃ H2,v=.int .i64 (l.no most k)∧BatP b sp most (l.step most k d) H2∧H'=H2++((sp,cl F0 169)::Hx)):=by
 obtain⟨m,c,es,Ht,rfl,rfl,hr⟩:=hB
 refine Tri.mk Tryz.func19 rfl Tryz.ntmps19 rfl fun w hw=>?_
 obtain⟨da,dl,dc,rfl,hdl,hdc,-⟩:=hw.get
 rw [cbs_len,Nat.mul_one,hd] at hdl
 subst hdl
 have hst:=sState_p (sp:=sp) hF
 have hat:=at_plB es k
 have hlen:(plB es).length=es.length:=List.length_map ..
 have hone:One (((atI es k).map Ei.v).getD (.slice none 0 0)):=by
  cases hq:atI es k with
  | none=>exact inferInstanceAs (One (.slice none 0 0))
  | some x=>exact (hr x (List.mem_of_find?_eq_some hq)).1.one
 have keep:∀ e,Bl.no most (plB es) k=e→e≠0→BatP b sp most ((plB es).step most k d) ((b,cl (batC sp m most) 163)::(m,moI es c)::Ht):=fun e he hn=>by
  unfold Bl.step
  rw [he,if_neg hn]
  exact⟨m,c,es,Ht,rfl,rfl,hr⟩
 by_cases hk:k<0∨65536≤k
 ·have e:Bl.no most (plB es) k=3:=by unfold Bl.no;rw [if_pos hk]
  have hkp:=keep 3 e (by decide)
  repeat' (first|(refine W.go ?_;try intro b_)|fail)
  refine W.lkI ?_
  repeat' (first|(refine W.go ?_;try intro b_)|fail)
  refine W.call hst ?_
  rintro _ _ ⟨rfl,rfl⟩
  by_cases hk1:k<0
  ·repeat' (first|(refine W.go ?_;try intro b_)|fail)
   refine Fin.to (((b,cl (batC sp m most) 163)::(m,moI es c)::Ht)++((sp,cl F0 169)::Hx)) ?_
   exact F.f1 ⟨_,by rw [e],hkp,rfl⟩
  ·have hk2:65536≤k:=by omega
   repeat' (first|(refine W.go ?_;try intro b_)|fail)
   refine Fin.to (((b,cl (batC sp m most) 163)::(m,moI es c)::Ht)++((sp,cl F0 169)::Hx)) ?_
   exact F.f1 ⟨_,by rw [e],hkp,rfl⟩
 ·have hk1:¬ k<0:=by omega
  have hk2:¬ 65536≤k:=by omega
  have put:Bl.no most (plB es) k=0→∀ (v1:Value) (H1:Hp),Sl 5 1 v1 (cbs d) H1→BatP b sp most ((plB es).step most k d) ((b,cl (batC sp m most) 163)::(m,moI (setI es ⟨k,v1,c,d⟩) (if (atI es k).isSome then c else c+1))::(H1++Ht)):=fun he v1 H1 h1=>by
   unfold Bl.step
   rw [he,if_pos rfl]
   refine⟨m,_,_,H1++Ht,rfl,(put_plB ⟨k,v1,c,d⟩ es).symm,fun x hx=>?_⟩
   rcases mem_setI hx with h|⟨h2,h3⟩
   ·exact⟨(hr x h).1.mono fun y hy=>List.mem_append_right _ hy,(hr x h).2⟩
   ·rw [h2,h3]
    exact⟨(RdH.of h1).mono fun y hy=>List.mem_append_left _ hy,hd⟩
  cases hq:atI es k with
  | none=>
   rw [hq] at hat put
   by_cases hm:most≤(es.length:Int)
   ·have e:Bl.no most (plB es) k=28:=by unfold Bl.no;rw [if_neg hk,if_pos ⟨by rw [hat];rfl,by rw [hlen];exact hm⟩]
    have hkp:=keep 28 e (by decide)
    repeat' (first|(refine W.go ?_;try intro b_)|fail)
    refine W.lkI ?_
    rw [hq]
    dsimp only [Option.map_none,Option.getD_none,Option.isSome_none]
    repeat' (first|(refine W.go ?_;try intro b_)|fail)
    refine W.call hst ?_
    rintro _ _ ⟨rfl,rfl⟩
    repeat' (first|(refine W.go ?_;try intro b_)|fail)
    (refine SW.regionS [] ?_ (by kernel_rfl);refine SS.tw 0 rfl (p_move rfl rfl) ?_;refine SS.tw 1 rfl (p_not rfl rfl) ?_;refine SS.tw 2 rfl (p_move rfl rfl) ?_;(first|refine SS.sk 3 rfl ?_|refine SS.tw 3 rfl (p_move rfl rfl) ?_);(first|refine SS.sk 4 rfl ?_|refine SS.tw 4 rfl (p_nil rfl rfl) ?_);(first|refine SS.sk 5 rfl ?_|refine SS.tw 5 rfl (p_fieldAddr rfl rfl OfN.ok) ?_);(first|refine SS.sk 6 rfl ?_|refine SS.ls 6 [] rfl ?_|refine SS.sR 6 rfl ?_);(first|refine SS.sk 7 rfl ?_|refine SS.lnI 7 [] rfl inferInstance ?_);(first|refine SS.sk 8 rfl ?_|refine SS.tw 8 rfl (p_move rfl rfl) ?_);(first|refine SS.sk 9 rfl ?_|refine SS.tw 9 rfl (p_nil rfl rfl) ?_);(first|refine SS.sk 10 rfl ?_|refine SS.tw 10 rfl (p_fieldAddr rfl rfl OfN.ok) ?_);(first|refine SS.sk 11 rfl ?_|refine SS.ls 11 [] rfl ?_|refine SS.sR 11 rfl ?_);(first|refine SS.sk 12 rfl ?_|refine SS.tw 12 rfl (Pu.t (p_cmp rfl rfl rfl rfl) (by dsimp only [cmpP];first|done|omega)) ?_|refine SS.tw 12 rfl (Pu.f (p_cmp rfl rfl rfl rfl) (by dsimp only [cmpP];first|done|omega)) ?_|refine SS.tw 12 rfl (p_cmp rfl rfl rfl rfl) ?_|refine SS.tw 12 rfl (p_neb rfl rfl rfl) ?_);(first|refine SS.tw 13 rfl (p_pick_t rfl rfl rfl) ?_|refine SS.tw 13 rfl (p_pick_f rfl rfl rfl) ?_);refine SS.tw 14 rfl (p_assign rfl rfl) ?_;refine SS.done ?_ (by kernel_rfl))
    repeat' (first|(refine W.go ?_;try intro b_)|fail)
    refine Fin.to (((b,cl (batC sp m most) 163)::(m,moI es c)::Ht)++((sp,cl F0 169)::Hx)) ?_
    exact F.f1 ⟨_,by rw [e],hkp,rfl⟩
   ·have e:Bl.no most (plB es) k=0:=by unfold Bl.no;rw [if_neg hk,if_neg (fun hh=>hm (by have:=hh.2;rw [hlen] at this;exact this))]
    have hkp:=put e
    repeat' (first|(refine W.go ?_;try intro b_)|fail)
    refine W.lkI ?_
    rw [hq]
    dsimp only [Option.map_none,Option.getD_none,Option.isSome_none]
    repeat' (first|(refine W.go ?_;try intro b_)|fail)
    refine W.call hst ?_
    rintro _ _ ⟨rfl,rfl⟩
    repeat' (first|(refine W.go ?_;try intro b_)|fail)
    (refine SW.regionS [] ?_ (by kernel_rfl);refine SS.tw 0 rfl (p_move rfl rfl) ?_;refine SS.tw 1 rfl (p_not rfl rfl) ?_;refine SS.tw 2 rfl (p_move rfl rfl) ?_;(first|refine SS.sk 3 rfl ?_|refine SS.tw 3 rfl (p_move rfl rfl) ?_);(first|refine SS.sk 4 rfl ?_|refine SS.tw 4 rfl (p_nil rfl rfl) ?_);(first|refine SS.sk 5 rfl ?_|refine SS.tw 5 rfl (p_fieldAddr rfl rfl OfN.ok) ?_);(first|refine SS.sk 6 rfl ?_|refine SS.ls 6 [] rfl ?_|refine SS.sR 6 rfl ?_);(first|refine SS.sk 7 rfl ?_|refine SS.lnI 7 [] rfl inferInstance ?_);(first|refine SS.sk 8 rfl ?_|refine SS.tw 8 rfl (p_move rfl rfl) ?_);(first|refine SS.sk 9 rfl ?_|refine SS.tw 9 rfl (p_nil rfl rfl) ?_);(first|refine SS.sk 10 rfl ?_|refine SS.tw 10 rfl (p_fieldAddr rfl rfl OfN.ok) ?_);(first|refine SS.sk 11 rfl ?_|refine SS.ls 11 [] rfl ?_|refine SS.sR 11 rfl ?_);(first|refine SS.sk 12 rfl ?_|refine SS.tw 12 rfl (Pu.t (p_cmp rfl rfl rfl rfl) (by dsimp only [cmpP];first|done|omega)) ?_|refine SS.tw 12 rfl (Pu.f (p_cmp rfl rfl rfl rfl) (by dsimp only [cmpP];first|done|omega)) ?_|refine SS.tw 12 rfl (p_cmp rfl rfl rfl rfl) ?_|refine SS.tw 12 rfl (p_neb rfl rfl rfl) ?_);(first|refine SS.tw 13 rfl (p_pick_t rfl rfl rfl) ?_|refine SS.tw 13 rfl (p_pick_f rfl rfl rfl) ?_);refine SS.tw 14 rfl (p_assign rfl rfl) ?_;refine SS.done ?_ (by kernel_rfl))
    repeat' (first|(refine W.go ?_;try intro b_)|fail)
    (refine SW.regionS [7] ?_ (by kernel_rfl);refine SS.tw 0 rfl (p_move rfl rfl) ?_;refine SS.tw 1 rfl (p_nil rfl rfl) ?_;refine SS.tw 2 rfl (p_fieldAddr rfl rfl OfN.ok) ?_;(first|refine SS.ls 3 [7] rfl ?_|refine SS.sR 3 rfl ?_);refine SS.tw 4 rfl (p_move rfl rfl) ?_;refine SS.tw 5 rfl (p_move rfl rfl) ?_;refine SS.effK 6 ?_ rfl (by kernel_rfl))
    refine W.call (Clone_p (.slice da 256 dc) d (by omega)) ?_ (hpre:=fun w2 hs=>hw.ro (Hc:=[]) hs)
    intro v1 H1 h1
    have h11:=h1.isOne
    (refine SL.nilB ?_;refine SS.effB 7 ?_ rfl (by kernel_rfl))
    refine W.mupI d ?_
    rw [hq]
    (refine SL.nilB ?_;refine SS.done ?_ (by kernel_rfl))
    repeat' (first|(refine W.go ?_;try intro b_)|fail)
    refine Fin.to (((b,cl (batC sp m most) 163)::(m,moI (setI es ⟨k,v1,c,d⟩) (if (none:Option Ei).isSome then c else c+1))::(H1++Ht))++((sp,cl F0 169)::Hx)) ?_
    exact F.f1 ⟨_,by rw [e],hkp v1 H1 h1,rfl⟩
  | some x=>
   rw [hq] at hat put hone
   have e:Bl.no most (plB es) k=0:=by unfold Bl.no;rw [if_neg hk,if_neg (fun hh=>by have:=hh.1;rw [hat] at this;cases this)]
   have hkp:=put e
   have hone2:One x.v:=hone
   repeat' (first|(refine W.go ?_;try intro b_)|fail)
   refine W.lkI ?_
   rw [hq]
   dsimp only [Option.map_some,Option.getD_some,Option.isSome_some]
   repeat' (first|(refine W.go ?_;try intro b_)|fail)
   refine W.call hst ?_
   rintro _ _ ⟨rfl,rfl⟩
   repeat' (first|(refine W.go ?_;try intro b_)|fail)
   (refine SW.regionS [] ?_ (by kernel_rfl);refine SS.tw 0 rfl (p_move rfl rfl) ?_;refine SS.tw 1 rfl (p_not rfl rfl) ?_;refine SS.tw 2 rfl (p_move rfl rfl) ?_;(first|refine SS.sk 3 rfl ?_|refine SS.tw 3 rfl (p_move rfl rfl) ?_);(first|refine SS.sk 4 rfl ?_|refine SS.tw 4 rfl (p_nil rfl rfl) ?_);(first|refine SS.sk 5 rfl ?_|refine SS.tw 5 rfl (p_fieldAddr rfl rfl OfN.ok) ?_);(first|refine SS.sk 6 rfl ?_|refine SS.ls 6 [] rfl ?_|refine SS.sR 6 rfl ?_);(first|refine SS.sk 7 rfl ?_|refine SS.tw 7 rfl (p_len_str rfl rfl) ?_);(first|refine SS.sk 8 rfl ?_|refine SS.tw 8 rfl (p_move rfl rfl) ?_);(first|refine SS.sk 9 rfl ?_|refine SS.tw 9 rfl (p_nil rfl rfl) ?_);(first|refine SS.sk 10 rfl ?_|refine SS.tw 10 rfl (p_fieldAddr rfl rfl OfN.ok) ?_);(first|refine SS.sk 11 rfl ?_|refine SS.ls 11 [] rfl ?_|refine SS.sR 11 rfl ?_);(first|refine SS.sk 12 rfl ?_|refine SS.tw 12 rfl (Pu.t (p_cmp rfl rfl rfl rfl) (by dsimp only [cmpP];first|done|omega)) ?_|refine SS.tw 12 rfl (Pu.f (p_cmp rfl rfl rfl rfl) (by dsimp only [cmpP];first|done|omega)) ?_|refine SS.tw 12 rfl (p_cmp rfl rfl rfl rfl) ?_|refine SS.tw 12 rfl (p_neb rfl rfl rfl) ?_);(first|refine SS.tw 13 rfl (p_pick_t rfl rfl rfl) ?_|refine SS.tw 13 rfl (p_pick_f rfl rfl rfl) ?_);refine SS.tw 14 rfl (p_assign rfl rfl) ?_;refine SS.done ?_ (by kernel_rfl))
   repeat' (first|(refine W.go ?_;try intro b_)|fail)
   (refine SW.regionS [7] ?_ (by kernel_rfl);refine SS.tw 0 rfl (p_move rfl rfl) ?_;refine SS.tw 1 rfl (p_nil rfl rfl) ?_;refine SS.tw 2 rfl (p_fieldAddr rfl rfl OfN.ok) ?_;(first|refine SS.ls 3 [7] rfl ?_|refine SS.sR 3 rfl ?_);refine SS.tw 4 rfl (p_move rfl rfl) ?_;refine SS.tw 5 rfl (p_move rfl rfl) ?_;refine SS.effK 6 ?_ rfl (by kernel_rfl))
   refine W.call (Clone_p (.slice da 256 dc) d (by omega)) ?_ (hpre:=fun w2 hs=>hw.ro (Hc:=[]) hs)
   intro v1 H1 h1
   have h11:=h1.isOne
   (refine SL.nilB ?_;refine SS.effB 7 ?_ rfl (by kernel_rfl))
   refine W.mupI d ?_
   rw [hq]
   (refine SL.nilB ?_;refine SS.done ?_ (by kernel_rfl))
   repeat' (first|(refine W.go ?_;try intro b_)|fail)
   refine Fin.to (((b,cl (batC sp m most) 163)::(m,moI (setI es ⟨k,v1,c,d⟩) (if (some x).isSome then c else c+1))::(H1++Ht))++((sp,cl F0 169)::Hx)) ?_
   exact F.f1 ⟨_,by rw [e],hkp v1 H1 h1,rfl⟩
end Go.Proofs.YtnigolgkkjidiaaGreat
namespace Go.Proofs.YtnigolgkkjidiaaGreat
open Go
theorem row_of{l ys:List Value}{o len n k:Nat}(h:(l.drop o).take (len*n)=ys)(hk:k<len):(l.drop (o+k*n)).take n=(ys.drop (k*n)).take n:=by
 subst h
 have hin:k*n+n≤len*n:=by rw [← Nat.succ_mul];exact Nat.mul_le_mul_right n hk
 rw [List.drop_take,List.take_take,List.drop_drop]
 congr 1;omega
theorem at_put(k j:Int)(d:List UInt8):∀ l:Bl,(l.put k d).at j=if j=k then some d else l.at j
 | []=>by
  unfold Bl.put Bl.at
  by_cases h:j=k
  ·rw [if_pos h];simp [h]
  ·rw [if_neg h];simp [h]
 | x::r=>by
  have ih:=at_put k j d r
  unfold Bl.put
  by_cases hk:k=x.1
  ·rw [if_pos hk]
   by_cases h:j=k
   ·rw [if_pos h]
    unfold Bl.at
    rw [List.find?_cons_of_pos (by simpa using h)];rfl
   ·rw [if_neg h]
    unfold Bl.at
    rw [List.find?_cons_of_neg (by simpa using h),List.find?_cons_of_neg (by rw [← hk];simpa using h)]
  ·rw [if_neg hk]
   by_cases h:j=x.1
   ·have hjk:¬ j=k:=fun hh=>hk (hh▸h)
    rw [if_neg hjk]
    unfold Bl.at
    rw [List.find?_cons_of_pos (by simpa using h),List.find?_cons_of_pos (by simpa using h)]
   ·unfold Bl.at at ih ⊢
    rw [List.find?_cons_of_neg (by simpa using h),List.find?_cons_of_neg (by simpa using h)]
    exact ih
def LastP(l:Bl)(vs:List Value)(Hl:Hp):Prop:=vs.length=5∧∀ j:Nat,j<5→∃ v,vs[j]?=some v∧(l.at (j:Int)=none→v=.slice none 0 0)∧∀ d,l.at (j:Int)=some d→RdH Hl v d∧d.length=256
theorem LastP.new:LastP [] (List.replicate 5 (.slice none 0 0)) []:=⟨rfl,fun j hj=>⟨.slice none 0 0,by rw [List.getElem?_replicate,if_pos hj],fun _=>rfl,fun d h=>by cases h⟩⟩
theorem LastP.one{l:Bl}{vs:List Value}{Hl:Hp}(h:LastP l vs Hl):OC vs:=⟨fun v hv=>by
 obtain⟨j,hj,rfl⟩:=List.mem_iff_getElem.1 hv
 obtain⟨u,h1,h2,h3⟩:=h.2 j (by rw [← h.1];exact hj)
 rw [List.getElem?_eq_getElem hj] at h1
 injection h1 with h1
 rw [h1]
 cases hq:l.at (j:Int) with
 | none=>rw [h2 hq];rfl
 | some d=>exact (h3 d hq).1.one.ok⟩
theorem LastP.put{l:Bl}{vs:List Value}{Hl H1:Hp}{v:Value}{y:List UInt8}{j:Nat}(h:LastP l vs Hl)(hn:l.no 4 (j:Int)=0)(hj:j<5)(hv:Sl 5 1 v (cbs y) H1)(hy:y.length=256):LastP (l.step 4 (j:Int) y) (vs.set j v) (H1++Hl):=by
 refine⟨by rw [List.length_set];exact h.1,fun i hi=>?_⟩
 unfold Bl.step
 rw [if_pos hn]
 by_cases hij:i=j
 ·subst hij
  refine⟨v,by rw [List.getElem?_set_self (by rw [h.1];exact hi)],fun hh=>?_,fun d hd=>?_⟩
  ·rw [at_put,if_pos rfl] at hh;cases hh
  ·rw [at_put,if_pos rfl] at hd
   injection hd with hd
   subst hd
   exact⟨(RdH.of hv).mono fun z hz=>List.mem_append_left _ hz,hy⟩
 ·obtain⟨u,h1,h2,h3⟩:=h.2 i hi
  refine⟨u,by rw [List.getElem?_set_ne (Ne.symm hij)];exact h1,fun hh=>?_,fun d hd=>?_⟩
  ·rw [at_put,if_neg (by omega)] at hh;exact h2 hh
  ·rw [at_put,if_neg (by omega)] at hd
   exact⟨(h3 d hd).1.mono fun z hz=>List.mem_append_right _ hz,(h3 d hd).2⟩
theorem LastP.keep{l:Bl}{vs:List Value}{Hl:Hp}{y:List UInt8}{k:Int}(h:LastP l vs Hl)(hn:l.no 4 k=0→5≤k):LastP (l.step 4 k y) vs Hl:=by
 unfold Bl.step
 by_cases h0:l.no 4 k=0
 ·rw [if_pos h0]
  have h5:=hn h0
  refine⟨h.1,fun i hi=>?_⟩
  obtain⟨u,h1,h2,h3⟩:=h.2 i hi
  refine⟨u,h1,fun hh=>?_,fun d hd=>?_⟩
  ·rw [at_put,if_neg (by omega)] at hh;exact h2 hh
  ·rw [at_put,if_neg (by omega)] at hd;exact h3 d hd
 ·rw [if_neg h0];exact h
theorem no_in{l:Bl}{most k:Int}(h:l.no most k=0):0≤k∧k<65536:=by
 unfold Bl.no at h
 by_cases hk:k<0∨65536≤k
 ·rw [if_pos hk] at h;omega
 ·omega
theorem and7(m:Int):∃ r:Nat,r≤7∧UAr .and .i64 m 7 (r:Int):=by
 refine⟨(BitVec.ofInt 64 m &&& BitVec.ofInt 64 7).toNat,?_,⟨fun P w t=>?_⟩⟩
 ·rw [BitVec.toNat_and]
  exact Nat.and_le_right
 ·have hle:(BitVec.ofInt 64 m &&& BitVec.ofInt 64 7).toNat≤7:=by rw [BitVec.toNat_and];exact Nat.and_le_right
  have hw:IntKind.i64.wrap (((BitVec.ofInt 64 m &&& BitVec.ofInt 64 7).toNat:Nat):Int)=(((BitVec.ofInt 64 m &&& BitVec.ofInt 64 7).toNat:Nat):Int):=w64 (by omega)
  simp only [binOp,Op.intBits,ne_eq,not_true_eq_false,if_false,Sem.run_pure]
  exact congrArg (fun z=>Result.ok (Value.int .i64 z) w) hw
theorem and15(m:Int):∃ r:Nat,r≤15∧UAr .and .i64 m 15 (r:Int):=by
 refine⟨(BitVec.ofInt 64 m &&& BitVec.ofInt 64 15).toNat,?_,⟨fun P w t=>?_⟩⟩
 ·rw [BitVec.toNat_and]
  exact Nat.and_le_right
 ·have hle:(BitVec.ofInt 64 m &&& BitVec.ofInt 64 15).toNat≤15:=by rw [BitVec.toNat_and];exact Nat.and_le_right
  have hw:IntKind.i64.wrap (((BitVec.ofInt 64 m &&& BitVec.ofInt 64 15).toNat:Nat):Int)=(((BitVec.ofInt 64 m &&& BitVec.ofInt 64 15).toNat:Nat):Int):=w64 (by omega)
  simp only [binOp,Op.intBits,ne_eq,not_true_eq_false,if_false,Sem.run_pure]
  exact congrArg (fun z=>Result.ok (Value.int .i64 z) w) hw
abbrev kyv(ks:List Int):List Value:=ks.map fun k:Int=>(.int .i64 k:Value)
theorem at_none{k:Int}:∀ {l:Bl},l.at k=none↔k∉l.map Prod.fst
 | []=>by unfold Bl.at;simp
 | x::r=>by
  have ih:=at_none (k:=k) (l:=r)
  by_cases h:k=x.1
  ·unfold Bl.at
   rw [List.find?_cons_of_pos (by simpa using h)]
   simp [h]
  ·unfold Bl.at at ih ⊢
   rw [List.find?_cons_of_neg (by simpa using h),List.map_cons,List.mem_cons]
   rw [ih]
   exact⟨fun hn hh=>hh.elim h hn,fun hn hh=>hn (.inr hh)⟩
theorem put_new{k:Int}{d:List UInt8}:∀ {l:Bl},k∉l.map Prod.fst→l.put k d=l++[(k,d)]
 | [],_=>rfl
 | x::r,h=>by
  rw [List.map_cons,List.mem_cons] at h
  unfold Bl.put
  rw [if_neg fun hh=>h (.inl hh),put_new fun hh=>h (.inr hh)];rfl
theorem put_keys{k:Int}{d:List UInt8}:∀ {l:Bl},k∈l.map Prod.fst→(l.put k d).map Prod.fst=l.map Prod.fst
 | [],h=>by cases h
 | x::r,h=>by
  unfold Bl.put
  by_cases hk:k=x.1
  ·rw [if_pos hk,List.map_cons,List.map_cons,hk]
  ·rw [if_neg hk,List.map_cons,List.map_cons,put_keys]
   rw [List.map_cons,List.mem_cons] at h
   exact h.resolve_left hk
attribute [local irreducible] SW SL SQ SH SA SS Pu Fin CutF HandF
theorem bGet_p{b sp d tr s bk tb p t c0 bb n:Nat}{ws:List (List UInt8)}{sr:Sr}{most:Int}{l:Bl}{H:Hp}(hB:BatP b sp most l H)(h:Gm.Ok p t){σ:Dv}{x:So}{β:Bk}{Hd HS Hk Hs:Hp}(hx:x.Ok p)(hD:DevP d σ Hd)(hlen:σ.len=256*Gm.total p t)(hS:StoreP sp d tr s bk p t x HS)(hK:BookP bk tb β Hk)(hSe:SealP s c0 bb n ws sr Hs)(hKo:KeyOk n ws){k:Int}{z:List UInt8}(hz:rdS p (ctrX (Aes.enc ws n)) k σ x=(0,z,x)) :
  Tri Tryz.prog 24 [ptv b,.int .i64 k] (H++(HS++(Hd++(Hs++Hk)))) (fun _=>True)
  (fun v H'=>∃ v1 Hr HS' Hk' β',v=.tuple #[v1,.int .i64 0]∧Sl 5 1 v1 (cbs ((l.at k).getD z)) Hr∧StoreP sp d tr s bk p t x HS'∧BookP bk tb β' Hk'∧H'=H++(HS'++(Hd++(Hs++(Hk'++Hr))))):=by
 have hR:=sRead_p h hx hD hlen hS hK hSe hKo k
 rw [hz] at hR
 obtain⟨m,c,es,Ht,rfl,rfl,hr⟩:=hB
 refine Tri.mk Tryz.func24 rfl Tryz.ntmps24 rfl fun w hw=>?_
 rw [at_plB]
 cases hq:atI es k with
 | some y=>
  have hmem:=List.mem_of_find?_eq_some hq
  obtain⟨hv,hl⟩:=hr y hmem
  have hv1:=hv.one
  repeat' (first|(refine W.go ?_;try intro b_)|fail)
  refine W.lkI ?_
  rw [hq]
  dsimp only [Option.map_some,Option.getD_some,Option.isSome_some]
  repeat' (first|(refine W.go ?_;try intro b_)|fail)
  refine W.call (Clone_p y.v y.bs (by omega)) ?_ (hpre:=fun w2 hs=>hv.rd (Hc:=[]) hs)
  intro v1 H1 h1
  have h11:=h1.isOne
  repeat' (first|(refine W.go ?_;try intro b_)|fail)
  refine Fin.to (((b,cl (batC sp m most) 163)::(m,moI es c)::Ht)++(HS++(Hd++(Hs++(Hk++H1))))) ?_
  exact F.f2 ⟨v1,H1,HS,Hk,β,rfl,h1,hS,hK,rfl⟩
 | none=>
  repeat' (first|(refine W.go ?_;try intro b_)|fail)
  refine W.lkI ?_
  rw [hq]
  dsimp only [Option.map_none,Option.getD_none,Option.isSome_none]
  repeat' (first|(refine W.go ?_;try intro b_)|fail)
  refine SL.callv (HS++(Hd++(Hs++Hk))) rfl rfl rfl rfl rfl rfl hR (fun _ _=>trivial) ?_
  rintro _ _ ⟨v1,Hr,HS',Hk',rfl,h1,hS',hK',rfl⟩
  have h11:=h1.isOne
  repeat' (first|(refine W.go ?_;try intro b_)|fail)
  refine Fin.to (((b,cl (batC sp m most) 163)::(m,moI es c)::Ht)++(HS'++(Hd++(Hs++(Hk'++Hr))))) ?_
  exact F.f2 ⟨v1,Hr,HS',Hk',_,rfl,h1,hS',hK',rfl⟩
theorem bPutS_p{b sp d tr s bk p t:Nat}{most:Int}{l:Bl}{H HS:Hp}{x:So}(hS:StoreP sp d tr s bk p t x HS)(h0:x.st=0)(hB:BatP b sp most l H)(k:Int)(dv:Value)(y:List UInt8)(hy:y.length=256) :
  Tri Tryz.prog 19 [ptv b,.int .i64 k,dv] (H++HS) (fun w=>Rd ((H++HS).map Prod.fst) w 1 dv (cbs y)) (fun v H'=>∃ H2,v=.int .i64 (l.no most k)∧BatP b sp most (l.step most k y) H2∧H'=H2++HS):=by
 obtain⟨ev,tp,He,Ht,rfl,-⟩:=hS
 exact bPut_p (by rw [h0];rfl) hB k dv y hy
def BegP(k:List UInt8)(pp b:Nat)(most:Int)(l:Bl)(H:Hp):Prop:=
 ∃ (i:Pid) (sp:Nat) (rv:Value) (σ:Dv) (x:So) (sr:Sr) (β:Bk) (Hd Hs Hk HS HB:Hp),DevP i.d σ Hd∧SealP i.s i.c i.b 10 (Aes.sched k) sr Hs∧BookP i.bk i.tb β Hk∧StoreP sp i.d i.tr i.s i.bk 3 4 x HS∧BatP b sp most l HB ∧
  x.Ok 3∧x.st=0∧σ.len=256*Gm.total 3 4∧(∀ j:Nat,j<5→rdS 3 (ctrX (Aes.enc (Aes.sched k) 10)) (j:Int) σ x=(0,List.replicate 256 0,x)) ∧
  H=(pp,cl (pairC i 3 4 (ptv sp) rv) 43)::(Hd++(Hs++(Hk++(HS++HB))))
theorem begun21_p(k:List UInt8)(hk:k.length=16){most:Int}(h0:0≤most):Tri Tryz.prog 18 [.agg (cbs k).toArray,.int .i64 most] [] (fun _=>True)
  (fun v H=>∃ pp b rb,v=.tuple #[ptv pp,ptv b,ptv rb,.bool true]∧BegP k pp b most [] H):=by
 refine Tri.mk Tryz.func18 rfl Tryz.ntmps18 rfl fun w hw=>?_
 have hk0:(cbs k).length=16:=by rw [cbs_len];exact hk
 obtain⟨σ',hF,hSta⟩:=fmt_new ok34 (E:=Aes.enc (Aes.sched k) 10) (fun x=>Aes.enc_len ..) (cnt:=0) (by decide) (by decide) (by decide)
 have hB:=blanks_256 (p:=3) (t:=4) (E:=Aes.enc (Aes.sched k) 10) (fun x=>Aes.enc_len ..) (UInt64.ofNat ((0:Int)+2).toNat)
 have hBl:=blanks_len 3 4 (ctrX (Aes.enc (Aes.sched k) 10)) (UInt64.ofNat ((0:Int)+2).toNat)
 have hB0:(blanks 3 4 (ctrX (Aes.enc (Aes.sched k) 10)) (UInt64.ofNat ((0:Int)+2).toNat)).getD 0 []=superB 3 4:=rfl
 have hX:=aes_eq k hk
 have hK:=sched_ok k hk
 have hK':=rsched_ok k hk
 have hbeg:=begin2_p ok34 k hk (cnt:=0) (by decide) (by decide)
 have hpf:=fun pp H hP=>pFormat_p (pp:=pp) (H:=H) (o:=none) (N:=0) (sr:=Sr.new) (β:=Bk.new) (σ:=Dv.new (4*Gm.total 3 4:Nat)) (r:=rg0 0) ok34 hP (by have:=(new_sta (4*Gm.total 3 4) (by decide)).len;omega) (rg0_ok (by decide) (by decide)) hK hK' (by omega) hX
 rw [hF] at hpf
 have hfr:=fun (τ:Dv) (n:Nat) (R:List UInt8) (h:τ.Sta n ((blanks 3 4 (ctrX (Aes.enc (Aes.sched k) 10)) (UInt64.ofNat ((0:Int)+2).toNat)).flatten++R)) (hn:8*n=256*Gm.total 3 4) (j:Nat) (hj:j<5)=>fresh_read (e:=UInt64.ofNat ((0:Int)+2).toNat) rfl (E:=Aes.enc (Aes.sched k) 10) (fun x=>Aes.enc_len ..) h hn hj true
 generalize fmtSr 3 (Dv.new (4*Gm.total 3 4:Nat)) (rg0 0) Sr.new=sr at *
 generalize fmtK 3 4 10 (Aes.sched k) (Dv.new (4*Gm.total 3 4:Nat)) (rg0 0) Bk.new=β at *
 generalize hXX:ctrX (Aes.enc (Aes.sched k) 10)=X at *
 generalize blanks 3 4 X (UInt64.ofNat ((0:Int)+2).toNat)=B at *
 have hrl:(rootB B).length=32:=Sha.sum_len _
 have hlen:σ'.len=256*Gm.total 3 4:=by rw [hSta.len];rfl
 generalize hrr:({ c:=0+2,root:=rootB B }:Rg)=r2 at *
 have hr2:r2.Ok:=by rw [← hrr];exact⟨hrl,by show (0:Int)≤0+2;decide,by show (0:Int)+2≤_;decide⟩
 obtain⟨σ3,hO,hS3⟩:=open_sta (r:=r2) hSta (by rfl) hB hBl (by rw [← hrr]) hB0 (by rw [← hrr];show (0:Int)+2<_;decide)
 have hlk:lookB 3 4 σ' r2=(1,B):=look_sta hSta (by rfl) hB hBl (by rw [← hrr]) hB0
 have hpo:=fun pp H hP=>pOpen_p (pp:=pp) (H:=H) (n:=10) (N:=0+200) (ws:=Aes.sched k) (ws':=Rg.sched k) (sr:=sr) (β:=β) (o:=none) (σ:=σ') (r:=r2) ok34 hP hlen hr2 true
 have hoo:openO 3 4 true σ' r2=some ⟨epsB 3 B,sumsB B,true,0⟩:=by unfold openO;rw [hO,if_pos rfl,hlk]
 rw [hO,hoo] at hpo
 have hfr3:=hfr σ3 _ _ hS3 rfl
 have hlen3:σ3.len=256*Gm.total 3 4:=by rw [hS3.len];rfl
 have hxo:(⟨epsB 3 B,sumsB B,true,0⟩:So).Ok 3:=⟨by unfold epsB;simp,by dsimp only;rw [sumsB_len,hBl],sumsB_32 _⟩
 clear hfr hB hBl hB0 hSta hS3 hO hlk hoo hF hX hK hK'
 generalize openK 3 4 true σ' r2 β=β2 at *
 generalize hso:(⟨epsB 3 B,sumsB B,true,0⟩:So)=so at *
 have hst:so.st=0:=by rw [← hso]
 generalize ({ r2 with c:=r2.c+1 }:Rg)=r3 at *
 dsimp only at hpo hpf
 repeat' (first|(refine W.go ?_;try intro b_)|fail)
 refine W.call hbeg ?_
 rintro _ H1 ⟨pp,rfl,hP⟩
 repeat' (first|(refine W.go ?_;try intro b_)|fail)
 refine W.call (hpf pp H1 hP) ?_
 rintro _ H2 ⟨rfl,hP2⟩
 clear hpf hbeg hP
 repeat' (first|(refine W.go ?_;try intro b_)|fail)
 refine W.call (hpo pp H2 hP2) ?_
 rintro _ H3 ⟨rfl,hP3⟩
 clear hpo hP2
 obtain⟨i,sv,rv,Hd,Hs,Hk,HD,HR,HS,HT,hD,hS,hBk,hDR,hSR,⟨sp,rfl,hSt⟩,⟨rsp,rfl,hRt⟩,rfl⟩:=hP3
 repeat' (first|(refine W.go ?_;try intro b_)|fail)
 (refine SW.regionS [] ?_ (by kernel_rfl);refine SS.tw 0 rfl (p_move rfl rfl) ?_;refine SS.tw 1 rfl (p_move rfl rfl) ?_;refine SS.tw 2 rfl (p_nil rfl rfl) ?_;refine SS.tw 3 rfl (p_fieldAddr rfl rfl OfN.ok) ?_;(first|refine SS.ls 4 [] rfl ?_|refine SS.sR 4 rfl ?_);refine SS.tw 5 rfl (p_move rfl rfl) ?_;refine SS.tw 7 rfl (p_move rfl rfl) ?_;refine SS.tw 8 rfl (p_nil rfl rfl) ?_;refine SS.tw 9 rfl (p_fieldAddr rfl rfl OfN.ok) ?_;(first|refine SS.ls 10 [] rfl ?_|refine SS.sR 10 rfl ?_);refine SS.tw 11 rfl (p_move rfl rfl) ?_;refine SS.tw 12 rfl (p_build rfl rfl (by first|assumption|rfl)) ?_;skip )
 refine SS.twoK 6 13 ?a ?b rfl rfl
 case' a=>
  refine W.call (bNew_p sp h0) ?_
  rintro _ HB ⟨b,rfl,hBt⟩
  refine SL.nilB ?_
  refine SS.T 14 rfl ?_
  refine SS.T 15 rfl ?_
  refine SS.effK 13 ?_ rfl (by kernel_rfl)
  refine W.bxa fun rb=>?_
  refine SL.nilB ?_
  refine SS.T 16 rfl ?_
  refine SS.T 17 rfl ?_
  refine SS.done ?_ (by kernel_rfl)
 case' b=>
  refine W.bxa fun rb=>?_
  refine SL.nilB ?_
  refine SS.effK 6 ?_ rfl (by kernel_rfl)
  refine W.call (bNew_p sp h0) ?_
  rintro _ HB ⟨b,rfl,hBt⟩
  refine SL.nilB ?_
  refine SS.T 14 rfl ?_
  refine SS.T 15 rfl ?_
  refine SS.T 16 rfl ?_
  refine SS.T 17 rfl ?_
  refine SS.done ?_ (by kernel_rfl)
 all_goals
  repeat' (first|(refine W.go ?_;try intro b_)|fail)
  refine Fin.to ((pp,cl (pairC i 3 4 (ptv sp) (ptv rsp)) 43)::(Hd++(Hs++(Hk++(HS++HB))))) ?_
  refine F.f4 ⟨pp,b,rb,rfl,i,sp,ptv rsp,σ3,so,sr,β2,Hd,Hs,Hk,HS,HB,hD,hS,hBk,hSt,hBt,hxo,hst,hlen3,by rw [hXX];exact hfr3,rfl⟩
end Go.Proofs.YtnigolgkkjidiaaGreat
