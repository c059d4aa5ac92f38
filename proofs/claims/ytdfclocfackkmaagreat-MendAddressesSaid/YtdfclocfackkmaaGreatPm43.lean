/- One act of both: what befalls a pair. -/
import Derived.Test.YtdfclocfackkmaaGreatPm41
import Derived.Test.YtdfclocfackkmaaGreatPm42
set_option linter.unusedVariables false
set_option linter.unusedSimpArgs false
set_option linter.unusedSectionVars false
set_option maxHeartbeats 16000000
namespace Go.Proofs.YtdfclocfackkmaaGreat
open Go Go.Proofs.Tryz
section
attribute [local irreducible] SW SL SQ SH SA SS Pu Fin bS aN
theorem jN.up{rs rc n:Nat}{ws:LL}{N N':Nat}{H:Hp}(h:jN rs rc n ws N H)(hle:N<=N'):jN rs rc n ws N' H:=by obtain⟨lv,tw,te,tb,tp,L,Hc,HL,Ht,e,h1,h2,h3,h4⟩:=h;exact⟨lv,tw,te,tb,tp,L,Hc,HL,Ht,e,h1,h2,cZ h3 hle,h4⟩
theorem nC.up{pp p t n N N':Nat}{ws ws':LL}{C:Dv}{r:Rg}{sr:Sr}{D:Bk}{o:Option So}{H:Hp}(h:nC pp p t n N ws ws' C r sr D o H)(hle:N<=N'):nC pp p t n N' ws ws' C r sr D o H:=by obtain⟨i,sv,rv,Hd,Hs,Hk,HD,HR,HS,HT,hD,hS,hB,hDR,hSR,hO,hOR,rfl⟩:=h;exact⟨i,sv,rv,Hd,Hs,Hk,HD,HR,HS,HT,hD,hS,hB,hDR,hSR.up hle,hO,hOR,rfl⟩
abbrev tF(i:Pid)(p t pp:Nat)(sv rv:Value)(r:Rg)(Hd Hs Hk HD HR HS HT:Hp):Hp:=(pp,cl (vH i p t sv rv) 52)::(i.tr,cl (trc i.d r) 201)::(i.rtr,cl (rtc i.rd r) 100)::(Hd++(Hs++(Hk++(HD++(HR++(HS++HT))))))
def aPC(pp p t n N:Nat)(ws ws':LL)(C:Dv)(r:Rg)(sr:Sr)(o:Option So)(H:Hp):Prop:=
 ∃ (σ':Dv) (r':Rg) (sr':Sr) (β':Bk) (o':Option So),nC pp p t n (N+1000) ws ws' σ' r' sr' β' o' H/\Inv p t σ' r' o'/\∀ Q Q',Clo p t (dY (Aes.enc ws n)) Q Q'->Q C r sr o->Q' σ' r' sr' o'
def vR(K:List Nat)(w:World)(a:lU)(us:LV)(l:List Ent):Prop:=rV K w a.lv us l/\(∃ b,Rd K w 1 a.bv (cbs b))/\∃ q,Rd K w 1 a.pv (cbs q)
theorem aDB{K:List Nat}{w:World}{v:Value}(m:Nat)(h:∃ b,Rd K w 1 v (cbs b)):∃ b:LB,b.length<=m/\Rd K w 1 (ctV m v) (cbs b)/\One (ctV m v):=by obtain⟨b,hb⟩:=h;have h2:=aJ7 hb m;exact⟨b.take m,by rw [aH];omega,h2,h2.isOne⟩
theorem vR.one{K:List Nat}{w:World}{a:lU}{us:LV}{l:List Ent}(h:vR K w a us l):OC a.c:=by have o1:One a.lv:=h.1.1.isOne;have o2:One a.bv:=h.2.1.elim fun b hb=>hb.isOne;have o3:One a.pv:=h.2.2.elim fun b hb=>hb.isOne;infer_instance
theorem vR.all{K:List Nat}{w:World}{a:lU}{us:LV}{l:List Ent}(h:vR K w a us l):OC a.c/\a.c.length=9/\(∃ b:LB,b.length<=300/\Rd K w 1 (ctV 300 a.bv) (cbs b)/\One (ctV 300 a.bv))/\∃ b:LB,b.length<=12/\Rd K w 1 (ctV 12 a.pv) (cbs b)/\One (ctV 12 a.pv):=
 ⟨h.one,rfl,aDB 300 h.2.1,aDB 12 h.2.2⟩
theorem vR.cut{K:List Nat}{w0 w:World}{H r:Hp}{a:lU}{us:LV}{l:List Ent}(h:vR K w0 a us l)(hs:St K w0 H w) [hp:eY H [] r]:aDp w a.lv us l/\(∃ b,Rd [] w 1 a.bv (cbs b))/\∃ q,Rd [] w 1 a.pv (cbs q):=
 ⟨h.1.ro (Hc:=[]) hs,h.2.1.elim fun b hb=>⟨b,hb.ro (Hc:=[]) hs⟩,h.2.2.elim fun b hb=>⟨b,hb.ro (Hc:=[]) hs⟩⟩
theorem vR.ro{K:List Nat}{w0 w:World}{H Hc r:Hp}{a:lU}{us:LV}{l:List Ent}(h:vR K w0 a us l)(hs:St K w0 H w) [hp:eY H Hc r]:vR (Hc.map Prod.fst) w a us l:=
 ⟨h.1.ro hs,h.2.1.elim fun b hb=>⟨b,hb.ro hs⟩,h.2.2.elim fun b hb=>⟨b,hb.ro hs⟩⟩
abbrev aFt(pp p t n N:Nat)(ws ws':LL)(C:Dv)(r:Rg)(sr:Sr)(o:Option So)(H:Hp)(a:lU)(us:LV)(l:List Ent):Prop:=Tri prog 9 [ptv pp,.agg a.c.toArray] H (fun w=>vR (H.map Prod.fst) w a us l) (fun v H'=>v=.bool true/\aPC pp p t n N ws ws' C r sr o H')
structure XoS where
 k:Nat
 HA:Hp
 HB:Hp
section
variable {pp p t n N:Nat}{ws ws':LL}{C:Dv}{r:Rg}{sr:Sr}{D:Bk}{o:Option So}{H:Hp}
abbrev oZ(i:Pid)(P T:Int)(sv rv:Value):LV:=[ptv i.d,ptv i.tr,ptv i.s,ptv i.bk,.int .i64 P,.int .i64 T,sv,ptv i.rd,ptv i.rtr,ptv i.rs,.int .i64 P,.int .i64 T,rv]
abbrev aQr(C σ':Dv):Prop:=∀ {p t X Q Q' r sr o},Clo p t X Q Q'->Q C r sr o->Q' σ' r sr o
theorem aIr{i:Pid}{P T:Int}{sv rv:Value}{Hd HD:Hp}(os:One sv)(ot:One rv)(hD:eX i.d C Hd)(hDR:gS i.rd C HD)(w8:C.ws.length%8=0)(a:lU)(us:LV)(l:List Ent)(hl:l.length<=maxLen)(ha : -9223372036854775808<=a.at'/\a.at'<=9223372036854775807)(hk:¬ (a.kind=0\/a.kind=1\/a.kind=2\/a.kind=3\/a.kind=6\/a.kind=7)):Tri prog 9 [ptv pp,.agg a.c.toArray] ((pp,cl (oZ i P T sv rv) 52)::(Hd++HD)) (fun w=>vR (((pp,cl (oZ i P T sv rv) 52)::(Hd++HD)).map Prod.fst) w a us l) (fun v H'=>v=.bool true/\∃ σ' Hd' HD',eX i.d σ' Hd'/\gS i.rd σ' HD'/\σ'.ws.length=C.ws.length/\H'=(pp,cl (oZ i P T sv rv) 52)::(Hd'++HD')/\aQr C σ'):=by
 refine Tri.mt func9 ntmps9 fun w hw=>?_;obtain⟨oc,hol,⟨bb,hb300,hbR,ob⟩,qq,hq12,hqR,oq⟩:=hw.all;have hcu:=aDo a us l hl;obtain⟨kind,lv,full,kk,n0,at',bv,wr,pv⟩:=a;dsimp only [lU.c] at hol oc ha hk hcu hbR hqR ob oq |-;generalize ctV 300 bv=bv2 at *;generalize ctV 12 pv=pv2 at *;(refine W.k ?_;repeat intro b_);refine aF hcu ?_ (hpre:=fun w2 hs=>hw.cut hs);rintro _ _ ⟨lv2,r0,us2,l2,HO,HQ,rfl,hr0,hO2,-,rfl⟩;have oO:=hO2.isOne;by_cases k4:kind=4
 ·subst k4;have h1:=aMb hD pv2 qq;have h2:=aK4 hDR pv2 qq;(refine W.k ?_;repeat intro b_);(refine SW.l [7] [0,1,2,3,4,5,6] ?_;refine bL 7 ?_);refine aF h1 ?_ (hpre:=fun w2 hs=>hqR.ro (Hc:=Hd) hs);rintro _ Hd2 ⟨rfl,hD2⟩;(refine bB [] ?_;refine SS.dn ?_);(refine W.k ?_;repeat intro b_);(refine SW.l [7] [0,1,2,3,4,5,6] ?_;refine bL 7 ?_);refine aF h2 ?_ (hpre:=fun w2 hs=>hqR.ro (Hc:=HD) hs);rintro _ HD2 ⟨rfl,hDR2⟩;(refine bB [] ?_;refine SS.dn ?_);have h3:=aOx hD2;have h4:=aK9 hDR2;(refine W.k ?_;repeat intro b_);refine aF h3 ?_;rintro _ Hd3 ⟨rfl,hD3⟩;(refine W.k ?_;repeat intro b_);refine aF h4 ?_;rintro _ HD3 ⟨rfl,hDR3⟩;(refine W.k ?_;repeat intro b_);refine Fin.to ((pp,cl (oZ i P T sv rv) 52)::(Hd3++HD3)) ?_;exact F.f1 ⟨rfl,(C.crash qq).on,Hd3,HD3,hD3,hDR3,aFH qq C,rfl,fun hQ hq=>hQ.cr qq hq⟩
 by_cases k5:kind=5
 ·subst k5;have h1:=aPN hD (r0:Int) oQ pv2 qq oQ;have h2:=aOR hDR (r0:Int) oQ pv2 qq oQ;(refine W.k ?_;repeat intro b_);(refine SW.l [9] [0,1,2,3,4,5,6,7,8] ?_;refine bL 9 ?_);refine aF h1 ?_ (hpre:=fun w2 hs=>hqR.ro (Hc:=Hd) hs);rintro _ Hd2 ⟨rfl,hD2⟩;(refine bB [] ?_;refine SS.dn ?_);(refine W.k ?_;repeat intro b_);(refine SW.l [9] [0,1,2,3,4,5,6,7,8] ?_;refine bL 9 ?_);refine aF h2 ?_ (hpre:=fun w2 hs=>hqR.ro (Hc:=HD) hs);rintro _ HD2 ⟨rfl,hDR2⟩;(refine bB [] ?_;refine SS.dn ?_);(refine W.k ?_;repeat intro b_);refine Fin.to ((pp,cl (oZ i P T sv rv) 52)::(Hd2++HD2)) ?_;exact F.f1 ⟨rfl,C.arm (r0:Int) qq,Hd2,HD2,hD2,hDR2,rfl,rfl,fun hQ hq=>hQ.ar _ _ hq⟩
 by_cases k8:kind=8
 ·subst k8;have h1:=aQk hD at' bv2 bb oQ ha;have h2:=aO6 hDR at' bv2 bb oQ ha;have hwl:=aPl C at' bb;have hta:∀ {p t X Q Q' r sr o},Clo p t X Q Q'->Q C r sr o->Q' (C.tam at' bb) r sr o:=fun hQ hq=>hQ.ta _ _ hq;generalize C.tamB at' bb.length=tb at *;generalize C.tam at' bb=σ2 at *;(refine W.k ?_;repeat intro b_);(refine SW.l [19] [0,1,2,3,4,5,6,7,8,10,11,12,13,14,15,16,17,18] ?_;refine aX 9 ?_);refine aF h1 ?_ (hpre:=fun w2 hs=>hbR.ro (Hc:=Hd) hs);rintro _ Hd2 ⟨rfl,hD2⟩;(refine bB [] ?_;refine bL 19 ?_);refine aF h2 ?_ (hpre:=fun w2 hs=>hbR.ro (Hc:=HD) hs);rintro _ HD2 ⟨rfl,hDR2⟩;cases tb;all_goals
   (refine bB [] ?_;refine dS 20 rfl (aNs rfl rfl rfl) ?_;refine SG.l [21,22] ?_);(refine W.k ?_;repeat intro b_);refine Fin.to ((pp,cl (oZ i P T sv rv) 52)::(Hd2++HD2)) ?_;exact F.f1 ⟨rfl,_,Hd2,HD2,hD2,hDR2,hwl,rfl,hta⟩
 have h3:=aOx hD;have h4:=aK9 hDR;(refine W.k ?_;repeat intro b_);refine aF h3 ?_;rintro _ Hd3 ⟨rfl,hD3⟩;(refine W.k ?_;repeat intro b_);refine aF h4 ?_;rintro _ HD3 ⟨rfl,hDR3⟩;(refine W.k ?_;repeat intro b_);refine Fin.to ((pp,cl (oZ i P T sv rv) 52)::(Hd3++HD3)) ?_;exact F.f1 ⟨rfl,C.on,Hd3,HD3,hD3,hDR3,rfl,rfl,fun hQ hq=>hQ.on hq⟩
theorem aM0(h:Gm.Ok p t)(hP:nC pp p t n N ws ws' C r sr D o H)(hI:Inv p t C r o)(a:lU)(us:LV)(l:List Ent)(hl:l.length<=maxLen)(ha : -9223372036854775808<=a.at'/\a.at'<=9223372036854775807)(hk:¬ (a.kind=0\/a.kind=1\/a.kind=2\/a.kind=3\/a.kind=6\/a.kind=7)):aFt pp p t n N ws ws' C r sr o H a us l:=by obtain⟨i,sv,rv,Hd,Hs,Hk,HD,HR,HS,HT,hD,hS,hB,hDR,hSR,hO,hOR,rfl⟩:=hP;have os:=hO.one;have ot:=hOR.one;refine ((aIr (pp:=pp) (i:=i) (P:=p) (T:=t) (sv:=sv) (rv:=rv) os ot hD hDR hI.w8 a us l hl ha hk).frame (r:=(i.tr,cl (trc i.d r) 201)::(i.rtr,cl (rtc i.rd r) 100)::(Hs++(Hk++(HR++(HS++HT))))) (Pre':=fun w=>vR ((tF i p t pp sv rv r Hd Hs Hk HD HR HS HT).map Prod.fst) w a us l) fG (fun w ho hw=>hw.ro (St.start ho))).to ?_;rintro _ _ ⟨H1,rfl,rfl,σ',Hd',HD',h1,h2,hwl,rfl,hq⟩;refine⟨tF i p t pp sv rv r Hd' Hs Hk HD' HR HS HT,[],?_,rfl,σ',r,sr,D,o,⟨i,sv,rv,Hd',Hs,Hk,HD',HR,HS,HT,h1,hS,hB,h2,hSR.up oQ,hO,hOR,rfl⟩,hI.dev hwl,fun Q Q' hQ hq0=>hq hQ hq0⟩;rw [aG];exact fG
theorem aM3(h:Gm.Ok p t)(hP:nC pp p t n N ws ws' C r sr D o H)(hI:Inv p t C r o)(hK:kA n ws)(hK':kA n ws')(hN:N<=1000000)(hX:Rg.enc ws' n=Aes.enc ws n)(a:lU)(us:LV)(l:List Ent)(hl:l.length<=maxLen)(hk:a.kind=6\/a.kind=7):aFt pp p t n N ws ws' C r sr o H a us l:=by
 have hop:=fun wr=>aEG h hP hI.len hI.r wr;have hio:=fun w=>hI.open w;obtain⟨i,sv,rv,Hd,Hs,Hk,HD,HR,HS,HT,hD,hS,hB,hDR,hSR,hO,hOR,rfl⟩:=hP;have hfm:=aBf (pp:=pp) (o:=none) (H:=(pp,cl (vH i p t (.pointer none) (.pointer none)) 52)::(i.tr,cl (trc i.d r) 201)::(i.rtr,cl (rtc i.rd r) 100)::(Hd++(Hs++(Hk++(HD++(HR++([]++[]))))))) h ⟨i,.pointer none,.pointer none,Hd,Hs,Hk,HD,HR,[],[],hD,hS,hB,hDR,hSR,⟨rfl,rfl⟩,⟨rfl,rfl⟩,rfl⟩ hI.len hI.r hK hK' hN hX;have hif:=hI.format (X:=dY (Aes.enc ws n));refine Tri.mt func9 ntmps9 fun w hw=>?_;obtain⟨oc,hol,⟨bb,hb300,hbR,ob⟩,qq,hq12,hqR,oq⟩:=hw.all;have hcu:=aDo a us l hl;have os:=hO.one;have ot:=hOR.one;obtain⟨kind,lv,full,kk,n0,at',bv,wr,pv⟩:=a;dsimp only [lU.c] at hol oc hk hcu hbR hqR ob oq |-;generalize ctV 300 bv=bv2 at *;generalize ctV 12 pv=pv2 at *;rcases hk with rfl|rfl
 ·refine W.k fun b_=>?_;refine aF hcu ?_ (hpre:=fun w2 hs=>hw.cut hs);rintro _ _ ⟨lv2,r0,us2,l2,HO,HQ,rfl,hr0,hO2,-,rfl⟩;have oO:=hO2.isOne;refine W.k ?_;refine aF (hop wr) ?_;rintro _ H2 ⟨rfl,hP2⟩;refine W.k ?_;refine Fin.to H2 ?_;exact F.f1 ⟨rfl,_,_,_,_,_,hP2.up oQ,(hio wr).1,fun Q Q' hQ hq=>hQ.op wr hI hq⟩
 refine W.k fun b_=>?_;refine aF hcu ?_ (hpre:=fun w2 hs=>hw.cut hs);rintro _ _ ⟨lv2,r0,us2,l2,HO,HQ,rfl,hr0,hO2,-,rfl⟩;have oO:=hO2.isOne;refine W.k ?_;rw [show ((vH i p t sv rv).set 6 (.pointer none)).set 12 (.pointer none)=vH i p t (.pointer none) (.pointer none) from rfl];refine aF hfm ?_;rintro _ H2 ⟨rfl,hP2⟩;refine W.k ?_;refine Fin.to H2 ?_;exact F.f1 ⟨rfl,_,_,_,_,_,hP2.up oQ,hif.1,fun Q Q' hQ hq=>hQ.fm hI hq⟩
theorem aM4(h:Gm.Ok p t)(hP:nC pp p t n N ws ws' C r sr D o H)(hI:Inv p t C r o)(hK:kA n ws)(hK':kA n ws')(hX:Rg.enc ws' n=Aes.enc ws n)(a:lU)(us:LV)(l:List Ent)(hl:l.length<=maxLen)(hk:a.kind=3):aFt pp p t n N ws ws' C r sr o H a us l:=by
 have hP0:=hP;obtain⟨i,sv,rv,Hd,Hs,Hk,HD,HR,HS,HT,hD,hS,hB,hDR,hSR,hO,hOR,rfl⟩:=hP;refine Tri.mt func9 ntmps9 fun w hw=>?_;obtain⟨oc,hol,⟨bb,hb300,hbR,ob⟩,qq,hq12,hqR,oq⟩:=hw.all;have hcu:=aDo a us l hl;have os:=hO.one;have ot:=hOR.one;obtain⟨kind,lv,full,kk,n0,at',bv,wr,pv⟩:=a;dsimp only [lU.c] at hol oc hk hcu hbR hqR ob oq |-;generalize ctV 300 bv=bv2 at *;generalize ctV 12 pv=pv2 at *;subst hk;cases o with
 | none=>
  obtain⟨rfl,rfl⟩:=hO
  obtain⟨rfl,rfl⟩:=hOR
  refine W.k fun b_=>?_
  refine aF hcu ?_ (hpre:=fun w2 hs=>hw.cut hs)
  rintro _ _ ⟨lv2,r0,us2,l2,HO,HQ,rfl,hr0,hO2,-,rfl⟩
  have oO:=hO2.isOne
  refine W.k ?_
  refine Fin.to (tF i p t pp (.pointer none) (.pointer none) r Hd Hs Hk HD HR [] []) ?_
  exact F.f1 ⟨rfl,C,r,sr,D,none,hP0.up oQ,hI,fun Q Q' hQ hq=>hQ.no hq⟩
 | some x=>
  obtain⟨sp,rfl,hSt⟩:=hO
  obtain⟨rsp,rfl,hRt⟩:=hOR
  have hx:=hI.o x rfl
  have h1:=aMW (tr:=i.tr) h hx hD hI.len hSt hB hS hK kk
  have h2:=aML (tr:=i.rtr) h hx hDR hI.len hRt hSR hK' kk
  rw [hX] at h2
  have hi:=hI.read (X:=dY (Aes.enc ws n)) kk
  have hqr:∀ Q Q',Clo p t (dY (Aes.enc ws n)) Q Q'->Q C r sr (some x)->Q' C r sr (some (rdS p (dY (Aes.enc ws n)) kk C x).2.2):=fun Q Q' hQ hq=>hQ.rd kk hI hq
  generalize rdS p (dY (Aes.enc ws n)) kk C x=RR at *
  generalize rdK p kk C x D=β2 at *
  obtain⟨e,bs,x2⟩:=RR
  dsimp only at h1 h2 hi hqr
  refine W.k fun b_=>?_
  refine aF hcu ?_ (hpre:=fun w2 hs=>hw.cut hs)
  rintro _ _ ⟨lv2,r0,us2,l2,HO,HQ,rfl,hr0,hO2,-,rfl⟩
  have oO:=hO2.isOne
  refine W.k ?_
  (refine SW.l [6] [0,1,2,3,4,5] ?_;refine bL 6 ?_)
  refine aF h1 ?_
  rintro _ _ ⟨v1,Hr1,HS2,Hk2,rfl,hr1,hSt2,hB2,rfl⟩
  have o1:=hr1.isOne
  (refine SL.l [7,8,9,10,11,12] ?_)
  refine W.k ?_
  (refine SW.l [6] [0,1,2,3,4,5] ?_;refine bL 6 ?_)
  refine aF h2 ?_
  rintro _ _ ⟨v2,Hr2,HT2,rfl,hr2,hRt2,rfl⟩
  have o2:=hr2.isOne
  (refine SL.l [7,8,9,10,11,12] ?_)
  refine W.k ?_
  refine aEc (bs:=bs) hr1 ?_
  refine W.k ?_
  refine aEc (bs:=bs) hr2 ?_
  refine W.k ?_
  refine Fin.to (tF i p t pp (ptv sp) (ptv rsp) r Hd Hs Hk2 HD HR HS2 HT2) ?_
  refine F.f1 ?_
  exact⟨by simp,C,r,sr,β2,some x2,⟨i,ptv sp,ptv rsp,Hd,Hs,Hk2,HD,HR,HS2,HT2,hD,hS,hB2,hDR,hSR.up oQ,⟨sp,rfl,hSt2⟩,⟨rsp,rfl,hRt2⟩,rfl⟩,hi.1,hqr⟩
def aLD(pp p t n N:Nat)(ws ws':LL)(C:Dv)(r:Rg)(sr:Sr)(D:Bk)(x:So)(H:Hp):Prop:=∃ (l2:List Ent) (β':Bk),l2.length<=26 /\
 nC pp p t n (N+1000) ws ws' (cmS p t (dY (Aes.enc ws n)) l2 (C,r,x)).2.1 (cmS p t (dY (Aes.enc ws n)) l2 (C,r,x)).2.2.1 (aEt p t r x l2 sr) β' (some (cmS p t (dY (Aes.enc ws n)) l2 (C,r,x)).2.2.2) H
theorem aM1{x:So}(h:Gm.Ok p t)(hP:nC pp p t n N ws ws' C r sr D (some x) H)(hI:Inv p t C r (some x))(hK:kA n ws)(hK':kA n ws')(hN:N<=1000000)(hX:Rg.enc ws' n=Aes.enc ws n)(a:lU)(us:LV)(l:List Ent)(hl:l.length<=maxLen)(hk:a.kind=0\/a.kind=1\/a.kind=2):Tri prog 9 [ptv pp,.agg a.c.toArray] H (fun w=>vR (H.map Prod.fst) w a us l) (fun v H'=>v=.bool true/\aLD pp p t n N ws ws' C r sr D x H'):=by
 obtain⟨i,sv,rv,Hd,Hs,Hk,HD,HR,HS,HT,hD,hS,hB,hDR,hSR,hO,hOR,rfl⟩:=hP;refine Tri.mt func9 ntmps9 fun w hw=>?_;obtain⟨oc,hol,⟨bb,hb300,hbR,ob⟩,qq,hq12,hqR,oq⟩:=hw.all;have hcu:=aDo a us l hl;obtain⟨sp,rfl,hSt⟩:=hO;obtain⟨rsp,rfl,hRt⟩:=hOR;have hwE:=hw.1;obtain⟨kind,lv,full,kk,n0,at',bv,wr,pv⟩:=a;dsimp only [lU.c] at hol oc hk hcu hbR hqR ob oq hwE |-;generalize ctV 300 bv=bv2 at *;generalize ctV 12 pv=pv2 at *;have hx:=hI.o x rfl;have hXl:∀ e j b,(dY (Aes.enc ws n) e j b).length=b.length:=fun e j b=>mJ (E:=Aes.enc ws n) (fun y=>Aes.enc_len ..) e j b;have hio:=fun l=>hI.commit hXl h (l:=l);rcases hk with rfl|rfl|rfl;all_goals
  (refine W.k ?_;repeat intro b_);refine aF hcu ?_ (hpre:=fun w2 hs=>hw.cut hs);rintro _ _ ⟨lv2,r0,us2,l2,HO,HQ,rfl,hr0,hO2,hC,rfl⟩;have hln:l2.length<=26:=by have:=hC.n;omega
  have hul2:=hC.ul;have h260:∀ x∈l2,x.2.length<=1000000:=fun y hy=>by obtain⟨j,hj⟩:=cW.1 hy;obtain⟨-,-,-,h3,-⟩:=hC.ent j y hj;omega
  obtain⟨oa,oln,ocp,rfl,hol2⟩:=hO2.form;rw [fL us2 l2 hul2] at hol2;obtain rfl:oln=l2.length:=by omega
  have hen:=aGV (.slice oa l2.length ocp) us2 l2 oQ h260;have h2:=aJe (tr:=i.rtr) h hx hI.r hDR hI.w8 hRt hSR hK' oQ (lv:=.slice oa l2.length ocp) (us:=us2) (l:=l2) oQ rfl;rw [hX] at h2;obtain⟨e,σ2,r2,x2,hcm,hI2,hH2⟩:=hio l2;rw [hcm] at h2;dsimp only at h2;(refine W.k ?_;repeat intro b_);refine aF hen ?_ (hpre:=fun w2 hs=>hC.ents [] hwE hO2 hs);rintro ev _ ⟨us3,HE,HQ3,hL3,hR3,rfl⟩;have oL3:=hL3.isOne;have h1:=aJs (tr:=i.tr) h hx hI.r hD hI.w8 hSt hB hS hK hL3 hR3.rb oQ rfl;rw [hcm] at h1;dsimp only at h1;have hul3:us3.length=l2.length:=by rw [hR3.rb.1,aC]
  have hec3:=fL us3 l2 hul3;obtain⟨ea,eln,ecp,rfl,hel3⟩:=hL3.form;rw [hec3] at hel3;obtain rfl:eln=l2.length:=by omega
  (refine W.k ?_;repeat intro b_);refine aF h1 ?_;rintro _ _ ⟨Hd2,HS2,Hs2,Hk2,β2,rfl,hD2,hSt2,hB2,hS2,rfl⟩;(refine W.j ?_;repeat intro b_);refine bP [0,3,6] HQ3 (fun _:Hp=>[]) (fun y=>y) NT ?_ ?_
  ·(refine W.k ?_;repeat intro b_);refine bE [0,3,6,36,37] (fun y:XoS=>[(38,.int .i64 (y.k:Int))]) (fun y=>y.HA++y.HB) (fun y=>l2.length-y.k) (fun y=>y.k<=l2.length/\xW (us3.drop y.k) ((l2.map Prod.snd).drop y.k) y.HB) ⟨0,[],HQ3⟩ ⟨Nat.zero_le _,hR3⟩ ?_;rintro⟨k,HA,HB⟩ ⟨hk,hOw⟩;dsimp only at hk hOw |-;by_cases hkn:k<l2.length
   ·rcases hL3 with ⟨hz,hz2,-⟩|⟨eb,elen,ecap,ejunk,hz,hexl,hej,hec,rfl⟩
    ·rw [hz2] at hec3;simp at hec3;omega
    simp only [Value.slice.injEq] at hz;obtain⟨rfl,rfl,rfl⟩:=hz;have huk:=aA (show k<us3.length by omega);have hx0:=aA hkn;have hrow:=uG (junk:=ejunk) hul3 huk hx0;obtain⟨b,H1,H2,rfl,hbk,hb1,hb2⟩:=hOw.drop huk;have hb6:b.length<=1000000:=by rw [aL,hx0] at hbk;simp only [Option.map_some,cR] at hbk;rw [<-hbk];exact h260 _ (aP hx0)
    generalize us3[k]=u at *;generalize l2[k]=z at *;obtain⟨ua,ul,uc,rfl,hbl⟩:=hb1.form;rw [aI,Nat.mul_one] at hbl;rcases hb1 with ⟨hz,hz2,rfl⟩|⟨ub,ulen,ucap,ujunk,hz,huxl,huj,huc,rfl⟩
    ·simp only [Value.slice.injEq] at hz;obtain⟨rfl,rfl,rfl⟩:=hz;(refine W.k ?_;repeat intro b_);refine bE [0,3,6,8,36,37,38,44] (fun y:Unit=>[(45,.int .i64 0)]) (fun _=>[]) (fun _=>0) NT () trivial ?_;rintro⟨⟩ -;(refine W.k ?_;repeat intro b_);refine aN.mk ⟨k+1,HA++[],H2⟩ ?_;exact⟨hkn,hb2⟩
    simp only [Value.slice.injEq] at hz;obtain⟨rfl,rfl,rfl⟩:=hz;(refine W.k ?_;repeat intro b_);refine bE [0,3,6,8,36,37,38,44] (fun y:Nat×LB=>[(45,.int .i64 (y.1:Int))]) (fun y=>[(ub,cl (cbs y.2++ujunk) 5)]) (fun y=>ul-y.1) (fun y=>y.1<=ul/\y.2.length=ul) (0,b) ⟨Nat.zero_le _,hbl⟩ ?_;rintro⟨j,b2⟩ ⟨hj,hb2l⟩;dsimp only at hj hb2l |-;by_cases hjl:j<ul
    ·have hjb:=aA (show j<b2.length by omega);have hlv:(cbs b2++ujunk)[j]?=some (.int .u8 (b2[j].toNat:Int)):=by rw [aJ (by rw [aI];omega),aL,hjb];rfl
     have hst:=aFC (xs:=b2) (i:=j) oQ (b2[j] ^^^ 5) ujunk;have hfit:j<(cbs b2++ujunk).length:=by rw [aB,aI];omega
     haveI:U8 (5:Int) 5:=⟨rfl⟩;generalize b2[j]=y0 at *;(refine W.k ?_;repeat intro b_);rw [hst];refine aN.mk (j+1,b2.set j (y0 ^^^ 5)) ?_;exact⟨hjl,by dsimp only;rw [cE];exact hb2l⟩
    obtain rfl:j=ul:=by omega
    (refine W.k ?_;repeat intro b_);refine aN.mk ⟨k+1,HA++[(ub,cl (cbs b2++ujunk) 5)],H2⟩ ?_;exact⟨hkn,hb2⟩
   (refine W.k ?_;repeat intro b_);refine bS.mk (HA++HB) ?_;exact trivial
  rintro H3 -;(refine W.k ?_;repeat intro b_);(refine SW.l [7] [0,1,2,3,4,5,6] ?_;refine bL 7 ?_);refine aF h2 ?_ (hpre:=fun w2 hs=>hC.ents ((i.rtr,cl (rtc i.rd r) 100)::(HT++(HD++HR))) hwE hO2 hs);rintro _ _ ⟨HD2,HT2,HR2,rfl,hDR2,hRt2,hSR2,rfl⟩;(refine SL.l [8,9,10] ?_);(refine W.k ?_;repeat intro b_);refine Fin.to (tF i p t pp (ptv sp) (ptv rsp) r2 Hd2 Hs2 Hk2 HD2 HR2 HS2 HT2) ?_;exact F.f1 ⟨rfl,l2,β2,hln,by rw [hcm];exact⟨i,ptv sp,ptv rsp,Hd2,Hs2,Hk2,HD2,HR2,HS2,HT2,hD2,hS2,hB2,hDR2,hSR2,⟨sp,rfl,hSt2⟩,⟨rsp,rfl,hRt2⟩,rfl⟩⟩
theorem aMZ(h:Gm.Ok p t)(hP:nC pp p t n N ws ws' C r sr D o H)(hI:Inv p t C r o)(hK:kA n ws)(hK':kA n ws')(hN:N<=1000000)(hX:Rg.enc ws' n=Aes.enc ws n)(a:lU)(us:LV)(l:List Ent)(hl:l.length<=maxLen)(hk:a.kind=0\/a.kind=1\/a.kind=2):aFt pp p t n N ws ws' C r sr o H a us l:=by
 have hP0:=hP;cases o with
 | some x=>
  have hXl:∀ e j b,(dY (Aes.enc ws n) e j b).length=b.length:=fun e j b=>mJ (E:=Aes.enc ws n) (fun y=>Aes.enc_len ..) e j b
  refine (aM1 h hP hI hK hK' hN hX a us l hl hk).to ?_
  rintro _ H' ⟨rfl,l2,β',-,hP'⟩
  obtain⟨e,σ2,r2,x2,hcm,hI2,-⟩:=hI.commit hXl h (l:=l2)
  have hq:=fun Q Q' (hQ:Clo p t (dY (Aes.enc ws n)) Q Q') (hq:Q C r sr (some x))=>hQ.cm l2 hI hq
  rw [hcm] at hP' hq
  exact⟨H',[],by rw [aG],rfl,σ2,r2,_,β',some x2,hP',hI2,hq⟩
 | none=>
  obtain⟨i,sv,rv,Hd,Hs,Hk,HD,HR,HS,HT,hD,hS,hB,hDR,hSR,hO,hOR,rfl⟩:=hP
  refine Tri.mt func9 ntmps9 fun w hw=>?_
  obtain⟨oc,hol,⟨bb,hb300,hbR,ob⟩,qq,hq12,hqR,oq⟩:=hw.all
  have hcu:=aDo a us l hl
  have os:=hO.one
  have ot:=hOR.one
  have hwE:=hw.1
  obtain⟨kind,lv,full,kk,n0,at',bv,wr,pv⟩:=a
  dsimp only [lU.c] at hol oc hk hcu hbR hqR ob oq hwE |-
  generalize ctV 300 bv=bv2 at *
  generalize ctV 12 pv=pv2 at *
  obtain⟨rfl,rfl⟩:=hO
  obtain⟨rfl,rfl⟩:=hOR
  rcases hk with rfl|rfl|rfl
  all_goals
   (refine W.k ?_;repeat intro b_)
   refine aF hcu ?_ (hpre:=fun w2 hs=>hw.cut hs)
   rintro _ _ ⟨lv2,r0,us2,l2,HO,HQ,rfl,hr0,hO2,-,rfl⟩
   have oO:=hO2.isOne
   (refine W.k ?_;repeat intro b_)
   refine Fin.to (tF i p t pp (.pointer none) (.pointer none) r Hd Hs Hk HD HR [] []) ?_
   exact F.f1 ⟨rfl,C,r,sr,D,none,hP0.up oQ,hI,fun Q Q' hQ hq=>hQ.no hq⟩
theorem aGM(h:Gm.Ok p t)(hP:nC pp p t n N ws ws' C r sr D o H)(hI:Inv p t C r o)(hK:kA n ws)(hK':kA n ws')(hN:N<=1000000)(hX:Rg.enc ws' n=Aes.enc ws n)(a:lU)(us:LV)(l:List Ent)(hl:l.length<=maxLen)(ha : -9223372036854775808<=a.at'/\a.at'<=9223372036854775807):aFt pp p t n N ws ws' C r sr o H a us l:=by
 by_cases h1:a.kind=0\/a.kind=1\/a.kind=2
 ·exact aMZ h hP hI hK hK' hN hX a us l hl h1
 by_cases h2:a.kind=3
 ·exact aM4 h hP hI hK hK' hX a us l hl h2
 by_cases h3:a.kind=6\/a.kind=7
 ·exact aM3 h hP hI hK hK' hN hX a us l hl h3
 exact aM0 h hP hI a us l hl ha oQ
end
theorem aIo{pp:Nat}{i:Pid}{P T:Int}{C:Dv}{r:Rg}{Hd HD:Hp}(hD:eX i.d C Hd)(hDR:gS i.rd C HD)(hr:r.Ok):Tri prog 17 [ptv pp] ((pp,cl (oZ i P T (.pointer none) (.pointer none)) 52)::(i.tr,cl (trc i.d r) 201)::(i.rtr,cl (rtc i.rd r) 100)::(Hd++HD)) NT (fun v H'=>v=.bool true/\H'=(pp,cl (oZ i P T (.pointer none) (.pointer none)) 52)::(i.tr,cl (trc i.d r) 201)::(i.rtr,cl (rtc i.rd r) 100)::(Hd++HD)):=by refine Tri.mt func17 ntmps17 fun w hw=>?_;have hsm:=aLf hD hDR;have hrd:=uR i.tr i.d r hr;obtain⟨f1,f2,f3,f4,f5,f6⟩:=aBs i.rd hr;have hrl:=mR hr;(refine W.k ?_;repeat intro b_);(refine SW.l [10] [0,1,2,3,4,5,6,7,8,9] ?_;refine bL 10 ?_);refine W.cq hsm ?_;(refine SL.l [11,12,13,14,15,16,17,19,20,21,22,23,24,25,26] ?_;(first|refine cY 18 rfl ?_;(first|refine cY 27 rfl ?_|refine dS 27 rfl (aBY rfl rfl rfl (by assumption) (by assumption) (by assumption)) ?_|refine dS 27 rfl (xM rfl rfl rfl (by assumption) (by assumption) (by first|assumption|rfl)) ?_);refine SG.l [28,29,30,31,32,33,34,35,36,37,38,39,40,41,42] ?_|refine aX 18 ?_));refine W.cq hrd ?_;(refine bB [] ?_;(first|refine cY 27 rfl ?_|refine dS 27 rfl (xM rfl rfl rfl (aMQ hr) (aMQ hr) rfl) ?_);refine SG.l [28,29,30,31,32,33,34,35,36,37,38,39] ?_;(first|refine cY 40 rfl ?_|refine dS 40 rfl (aHe rfl rfl rfl rfl) ?_);refine SG.l [41,42] ?_);(refine W.k ?_;repeat intro b_);refine Fin.to ((pp,cl (oZ i P T (.pointer none) (.pointer none)) 52)::(i.tr,cl (trc i.d r) 201)::(i.rtr,cl (rtc i.rd r) 100)::(Hd++HD)) ?_;exact F.f1 ⟨rfl,rfl⟩
theorem aNU{pp p t n N:Nat}{ws ws':LL}{C:Dv}{r:Rg}{sr:Sr}{D:Bk}{o:Option So}{H:Hp}(h:Gm.Ok p t)(hP:nC pp p t n N ws ws' C r sr D o H)(hI:Inv p t C r o):Tri prog 17 [ptv pp] H NT (fun v H'=>v=.bool true/\∃ β',nC pp p t n N ws ws' C r sr β' o H'):=by
 obtain⟨i,sv,rv,Hd,Hs,Hk,HD,HR,HS,HT,hD,hS,hB,hDR,hSR,hO,hOR,rfl⟩:=hP;have hr:=hI.r;cases o with
 | none=>
  obtain⟨rfl,rfl⟩:=hO
  obtain⟨rfl,rfl⟩:=hOR
  refine ((aIo (pp:=pp) (i:=i) (P:=p) (T:=t) hD hDR hr).frame (r:=Hs++(Hk++HR)) (Pre':=fun _=>True) fG (fun _ _ _=>trivial)).to ?_
  rintro _ _ ⟨H1,rfl,rfl,rfl⟩
  refine⟨tF i p t pp (.pointer none) (.pointer none) r Hd Hs Hk HD HR [] [],[],?_,rfl,D,i,.pointer none,.pointer none,Hd,Hs,Hk,HD,HR,[],[],hD,hS,hB,hDR,hSR,⟨rfl,rfl⟩,⟨rfl,rfl⟩,rfl⟩
  rw [aG]
  exact fG
 | some x=>
  refine Tri.mt func17 ntmps17 fun w hw=>?_
  have hsm:=aLf hD hDR
  have hrd:=uR i.tr i.d r hr
  obtain⟨f1,f2,f3,f4,f5,f6⟩:=aBs i.rd hr
  have hrl:=mR hr
  obtain⟨sp,rfl,hSt⟩:=hO
  obtain⟨rsp,rfl,hRt⟩:=hOR
  have hx:=hI.o x rfl
  have hll:=Gm.leaves_le h
  have hsl:=Gm.sealed_le h
  have hLq:Gm.leaves p=1+Gm.epochs p+Gm.sealed p:=rfl
  have hxl:=hx.es
  have hxv:=hx.lv
  have hst:=aJu hSt
  have hrt:=aMX hSt hB oQ
  have hlf:=fun k=>aMV hSt oQ hx.d k
  have hep:=fun k=>aLe hSt k
  have hln:=aO8 hSt
  obtain⟨ev,lv,He,Hl,rfl,hE,hL⟩:=hRt
  have oe:=hE.isOne
  obtain⟨ea,el,ec,rfl,hel⟩:=hE.form
  rw [eN] at hel
  obtain rfl:el=x.es.length:=by omega
  obtain⟨lb,lc,lj,rfl,hlc,rfl,hLn⟩:=hL.rowD hx.d oQ
  have hLx:=hLn x.lv hx.d rfl
  clear hLn hL
  have hrr:=aB3 x.lv hx.d (.slice (some ⟨lb,0,none⟩) x.lv.length lc) oQ
  have hr32:(fN x.lv).length=32:=Sha.sum_len _
  have hr32c:=lN hr32
  have hl1:mK x.lv (-1)=z32:=by unfold mK;rw [if_neg oQ]
  have he1:epV x.es (-1)=0:=by unfold epV;rw [if_neg oQ]
  have he2:epV x.es (x.es.length:Int)=0:=by unfold epV;rw [if_neg oQ]
  have hlf1:=hlf (-1)
  have hep1:Tri prog 56 [ptv sp,.int .i64 (-1)] HS NT (fun v H=>v=.int .u64 0/\H=HS):=by
   have:=hep (-1)
   rw [he1] at this
   exact this
  have hep2:Tri prog 56 [ptv sp,.int .i64 (x.es.length:Int)] HS NT (fun v H=>v=.int .u64 0/\H=HS):=by
   have:=hep (x.es.length:Int)
   rw [he2] at this
   exact this
  rw [hl1] at hlf1
  clear hl1 he1 he2
  (refine W.k ?_;repeat intro b_)
  (refine SW.l [10] [0,1,2,3,4,5,6,7,8,9] ?_;refine bL 10 ?_)
  refine W.cq hsm ?_
  (refine SL.l [11,12,13,14,15,16,17,19,20,21,22,23,24,25,26] ?_;(first|refine cY 18 rfl ?_;(first|refine cY 27 rfl ?_|refine dS 27 rfl (aBY rfl rfl rfl (by assumption) (by assumption) (by assumption)) ?_|refine dS 27 rfl (xM rfl rfl rfl (by assumption) (by assumption) (by first|assumption|rfl)) ?_);refine SG.l [28,29,30,31,32,33,34,35,36,37,38,39,40,41,42] ?_|refine aX 18 ?_))
  refine W.cq hrd ?_
  (refine bB [] ?_;(first|refine cY 27 rfl ?_|refine dS 27 rfl (xM rfl rfl rfl (aMQ hr) (aMQ hr) rfl) ?_);refine SG.l [28,29,30,31,32,33,34,35,36,37,38,39] ?_;(first|refine cY 40 rfl ?_|refine dS 40 rfl (aHe rfl rfl rfl rfl) ?_);refine SG.l [41,42] ?_)
  (refine W.k ?_;repeat intro b_)
  (refine SW.l [26] [0,1,2,3,5,6,7,8,9,10,11] ?_;refine aX 4 ?_)
  refine W.cq hst ?_
  (refine SL.l [12,13,14,15,16,17,19,20,21,22,23,24,25] ?_;(first|refine cY 18 rfl ?_;(first|refine cY 26 rfl ?_;(first|refine cY 27 rfl ?_|refine dS 27 rfl (aBY rfl rfl rfl (by assumption) (by assumption) (by assumption)) ?_|refine dS 27 rfl (xM rfl rfl rfl (by assumption) (by assumption) (by first|assumption|rfl)) ?_);refine SG.l [28,29] ?_|refine bL 26 ?_)|refine aX 18 ?_))
  refine aF hrt ?_
  rintro _ _ ⟨β2,Hk2,rfl,hB2,rfl⟩
  (refine bB [] ?_;(first|refine cY 26 rfl ?_;(first|refine cY 27 rfl ?_|refine dS 27 rfl (aBY rfl rfl rfl (by assumption) (by assumption) (by assumption)) ?_|refine dS 27 rfl (xM rfl rfl rfl (by assumption) (by assumption) (by first|assumption|rfl)) ?_);refine SG.l [28,29] ?_|refine bL 26 ?_))
  refine W.cq hrr ?_ (hpre:=fun w2 hs=>Rd.own (Hc:=[]) hLx hs inferInstance)
  (refine bB [] ?_;(first|refine cY 27 rfl ?_|refine dS 27 rfl (aAr rfl rfl rfl hr32 rfl) ?_);refine SG.l [28,29] ?_)
  (refine W.j ?_;repeat intro b_)
  refine bP [0] [] (fun _:Unit=>[]) (fun _=>[]) NT ?_ ?_
  ·(refine W.k ?_;repeat intro b_)
   refine bE [0,89,90] (fun k:Nat=>[(91,.int .i64 (k:Int))]) (fun _=>[]) (fun k=>x.lv.length-k) (fun k=>k<=x.lv.length) 0 (Nat.zero_le _) ?_
   intro k hk
   by_cases hkn:k<x.lv.length
   ·have hxk:x.lv[k]?=some (mK x.lv (k:Int)):=by
     unfold mK
     rw [if_pos oQ,aS,aE,aA hkn]
     rfl
    have hg:=nD (junk:=lj) hx.d hxk
    have h32:=xG hx.d (k:Int)
    have h32c:=lN h32
    have hfit:k*32+32<=(cbs x.lv.flatten++lj).length:=by rw [aB,aI,dH hx.d];omega
    have hlk:=hlf (k:Int)
    generalize mK x.lv (k:Int)=y at *
    (refine W.k ?_;repeat intro b_)
    (refine SW.l [] [0,1,2,3,4,6] ?_;refine aX 5 ?_)
    refine W.cq hlk ?_
    (refine bB [] ?_;refine dS 7 rfl (aAr rfl rfl rfl h32 rfl) ?_;refine SS.dn ?_)
    (refine W.k ?_;repeat intro b_)
    refine aN.mk (k+1) ?_
    exact hkn
   ·(refine W.k ?_;repeat intro b_)
    refine bS.mk () ?_
    exact trivial
  rintro⟨⟩ -
  (refine W.j ?_;repeat intro b_)
  refine bP [0] [] (fun _:Unit=>[]) (fun _=>[]) NT ?_ ?_
  ·(refine W.k ?_;repeat intro b_)
   refine bE [0,111,112] (fun k:Nat=>[(113,.int .i64 (k:Int))]) (fun _=>[]) (fun k=>x.es.length-k) (fun k=>k<=x.es.length) 0 (Nat.zero_le _) ?_
   intro k hk
   by_cases hkn:k<x.es.length
   ·rcases hE with ⟨-,hz,-⟩|⟨be,elen,ecap,ejunk,hz,hexl,hej,hec,rfl⟩
    ·have h9:=eN x.es
     rw [hz,List.length_nil] at h9
     omega
    simp only [Value.slice.injEq] at hz
    obtain⟨rfl,rfl,rfl⟩:=hz
    have hlu:(uv x.es++ejunk)[k]?=some (dZ (x.es.getD k 0)):=by rw [aJ (by rw [eN];omega)];exact aD2 oQ
    have hek:epV x.es (k:Int)=x.es.getD k 0:=by unfold epV;rw [if_pos oQ,aS]
    have hpk:=hep (k:Int)
    rw [hek] at hpk
    generalize x.es.getD k 0=y at *
    (refine W.k ?_;repeat intro b_)
    refine W.cw hpk ?_;repeat intro b_
    refine aN.mk (k+1) ?_
    exact hkn
   ·(refine W.k ?_;repeat intro b_)
    refine bS.mk () ?_
    exact trivial
  rintro⟨⟩ -
  (refine W.k ?_;repeat intro b_)
  (refine SW.l [19,28,44] [0,1,2,3,5,6,7,8,9,10,11,12] ?_;refine aX 4 ?_)
  refine W.cq hln ?_
  (refine SL.l [13,14,15,16,17,18,20] ?_;(first|refine cY 19 rfl ?_;(first|refine cY 21 rfl ?_|refine dS 21 rfl (aH3 rfl rfl rfl (by assumption) (by assumption) (by assumption)) ?_|refine dS 21 rfl (aEH rfl rfl rfl (by assumption) (by assumption) (by first|assumption|rfl)) ?_);refine SG.l [22,23,24,25,26,27] ?_;(first|refine cY 28 rfl ?_;refine SG.l [29,30,31,32,33,34,35,36,37,38,39,40,41,42,43] ?_;(first|refine cY 44 rfl ?_;refine SG.l [45,46,47,48] ?_|refine bL 44 ?_)|refine bL 28 ?_)|refine bL 19 ?_))
  refine W.cq hlf1 ?_
  (refine bB [] ?_;(first|refine cY 21 rfl ?_|refine dS 21 rfl (aH2 (a:=z32) (b:=z32) rfl rfl rfl rfl rfl) ?_);refine SG.l [22,23,24,25,26,27] ?_;(first|refine cY 28 rfl ?_;refine SG.l [29,30,31,32,33,34,35,36,37,38,39,40,41,42,43] ?_;(first|refine cY 44 rfl ?_;refine SG.l [45,46,47,48] ?_|refine bL 44 ?_)|refine bL 28 ?_))
  refine W.cq hep1 ?_
  (refine SL.l [29,30,31,32,33,34,35,36,37,38,39,40,41,42,43] ?_;(first|refine cY 44 rfl ?_;refine SG.l [45,46,47,48] ?_|refine bL 44 ?_))
  refine W.cq hep2 ?_
  (refine SL.l [45,46,47,48] ?_)
  (refine W.k ?_;repeat intro b_)
  refine Fin.to (tF i p t pp (ptv sp) (ptv rsp) r Hd Hs Hk2 HD HR HS ((rsp,cl (xZ i.rd i.rtr i.rs p t (.slice ea x.es.length ec) (.slice (some ⟨lb,0,none⟩) x.lv.length lc) x.w x.st) 144)::(He++[(lb,cl (cbs x.lv.flatten++lj) 90)])))  ?_
  exact F.f1 ⟨rfl,β2,i,ptv sp,ptv rsp,Hd,Hs,Hk2,HD,HR,HS,_,hD,hS,hB2,hDR,hSR,⟨sp,rfl,hSt⟩,⟨rsp,rfl,_,_,He,_,rfl,hE,hLx⟩,rfl⟩
abbrev P34(k:LB)(pp N:Nat)(C:Dv)(r:Rg)(sr:Sr)(D:Bk)(o:Option So)(H:Hp):Prop:=nC pp 3 4 10 N (Aes.sched k) (Rg.sched k) C r sr D o H
theorem aJA.k{w:World}{a:lU}(h:aJA w a):∃ us l,vR [] w a us l/\l.length<=maxLen:=by obtain⟨us,l,h1,h2,-⟩:=h.l;exact⟨us,l,⟨h1,h.b,h.p⟩,h2⟩
structure PlS where
 i:Nat
 N:Nat
 C:Dv
 r:Rg
 sr:Sr
 D:Bk
 o:Option So
 H:Hp
theorem aEW{l ys:LV}{ob len i:Nat}(h:(l.drop ob).take (len*9)=ys)(hi:i<len):(l.drop (ob+i*9)).take 9=(ys.drop (i*9)).take 9:=by rw [<-h,jT,fK,cG,cO oQ]
theorem aJS{sp c b n:Nat}{ws:LL}{s:Sr}{H:Hp}(hS:lL sp c b n ws s H)(htw:s.twice=none):Tri prog 10 [ptv sp] H NT (fun r H'=>r=.tuple #[.agg [(.int .u64 0:Value),.int .i64 0].toArray,.bool false]/\H'=H):=by
 obtain⟨m,tv,us,Hc,Hw,Ht,rfl,hC,hT,hus,hall⟩:=hS;refine Tri.mt func10 ntmps10 fun w hw=>?_;rw [htw] at hT;obtain⟨ta,tl,tc,rfl,htl⟩:=hT.form;have htl0:tl=0:=by simp [twC] at htl;omega
 subst htl0;refine W.k fun b_=>?_;refine pT ((sp,cl [ptv c,.map (some m),.slice ta 0 tc] 123)::(m,moS noC (usM us))::((Hc++[(b,gK)])++(Hw++Ht))) [.int .u64 0,.int .i64 0] ?_;exact⟨rfl,rfl⟩
theorem aEy(k:LB)(hk:k.length=16){cnt:Int}(h0:0<=cnt)(h1:cnt<=18446744073709551615)(a:Option Addr)(len cap:Nat)(ys:LV)(hml0:len<=maxLen):Tri prog 3 [.agg (cbs k).toArray,.int .u64 cnt,.slice a len cap] [] (fun w=>yB w a len cap ys) (fun v H=>v=.bool true):=by
 have hX:=aEe k hk;have hK:=wW k hk;have hK':=xR k hk;have hbg:=zY aCL k hk h0 h1;have hclo:=aMl (p:=3) (t:=4) (X:=dY (Aes.enc (Aes.sched k) 10)) (fun e j b=>mJ (E:=Aes.enc (Aes.sched k) 10) (fun y=>Aes.enc_len ..) e j b) aCL;have hstep:=fun (pp N:Nat) (C:Dv) (r:Rg) (sr:Sr) (D:Bk) (o:Option So) (H:Hp) (hN:N<=1000000) (hP:P34 k pp N C r sr D o H) (hI:Inv 3 4 C r o) (a:lU) us l hl ha=>aGM (pp:=pp) (N:=N) aCL hP hI hK hK' hN hX a us l hl ha;have hI0:Inv 3 4 (Dv.new (4*Gm.total 3 4:Nat)) (rg0 cnt) none:=⟨by have:=(aAp (4*Gm.total 3 4) dQ).len;omega,aBn h0 h1,by simp⟩;have hH0:aAM (rg0 cnt) Sr.new none:=⟨rfl,by simp [Sr.new],by simp⟩;generalize Dv.new (4*Gm.total 3 4:Nat)=σ0 at *;generalize rg0 cnt=r0 at *;generalize Sr.new=sr0 at *;generalize Bk.new=β0 at *;refine Tri.mt func3 ntmps3 fun w hw=>?_;obtain⟨hrd0,hops⟩:=hw;obtain⟨a',len',cap',he,hyl,hcap,hrd⟩:=hrd0.get;cases he;have hml:len<=9223372036854775807:=cZ hml0 dQ;have hk0:(cbs k).length=16:=by rw [aI];exact hk
 (refine W.k ?_;repeat intro b_);(refine SW.l [3] [1,2] ?_;refine aX 0 ?_);refine W.cq xS ?_;(refine bB [] ?_;refine bL 3 ?_);refine aF hbg ?_;rintro _ H1 ⟨pp,rfl,hP1⟩;clear hbg;(refine SL.l [4,5] ?_);(refine W.j ?_;repeat intro b_);refine bP [7] H1 (fun _:PlS=>[]) (fun y=>y.H) (fun y=>P34 k pp y.N y.C y.r y.sr y.D y.o y.H/\aAM y.r y.sr y.o) ?_ ?_
 ·(refine W.k ?_;repeat intro b_);refine bE [7,16,17] (fun y:PlS=>[(18,.int .i64 (y.i:Int))]) (fun y=>y.H) (fun y=>len-y.i) (fun y=>y.i<=len/\y.i<=25/\y.N=0+1000*y.i/\P34 k pp y.N y.C y.r y.sr y.D y.o y.H/\Inv 3 4 y.C y.r y.o/\aAM y.r y.sr y.o) ⟨0,0,σ0,r0,sr0,β0,none,H1⟩ ⟨Nat.zero_le _,Nat.zero_le _,rfl,hP1,hI0,hH0⟩ ?_;clear hP1 hI0 hH0;rintro⟨ii,N,C,r,sr,D,o,H⟩ ⟨hi,hi25,hN,hP,hI,hH⟩;dsimp only at hi hi25 hN hP hI hH |-;by_cases hil:ii<len
  ·obtain⟨ad,ho,hrow⟩:=hops ii hil;obtain⟨blk0,ob,lr,T,fz,rfl,hb,hbk,hys⟩:=hrd oQ;have hrow2:=(aEW hys hil).trans hrow;have hol:ad.c.length=9:=rfl;obtain⟨us,l,hA,hl⟩:=ho.k;have hoc:OC ad.c:=hA.one;by_cases c25:25<=ii
   ·(refine W.k ?_;repeat intro b_);refine bS.mk ⟨ii,N,C,r,sr,D,o,H⟩ ?_;exact⟨hP,hH⟩
   have hst:=hstep pp N C r sr D o H oQ hP hI ad us l hl (by have:=ho.i;exact⟨this.1,this.2⟩);(refine W.k ?_;repeat intro b_);refine aF hst ?_ (hpre:=fun w2 hs=>hA.ro (Hc:=H) hs);rintro _ H2 ⟨rfl,σ2,r2,sr2,β2,o2,hP2,hI2,hH2⟩;(refine W.k ?_;repeat intro b_);refine aN.mk ⟨ii+1,N+1000,σ2,r2,sr2,β2,o2,H2⟩ ?_;exact⟨hil,by dsimp only;omega,by dsimp only;omega,hP2,hI2,hH2 _ _ hclo hH⟩
  (refine W.k ?_;repeat intro b_);refine bS.mk ⟨ii,N,C,r,sr,D,o,H⟩ ?_;exact⟨hP,hH⟩
 rintro⟨ii,N,C,r,sr,D,o,H⟩ ⟨hP,hH⟩;dsimp only at hP hH |-;obtain⟨i,sv,rv,Hd,Hs,Hk,HD,HR,HS,HT,hD,hS,hB,hDR,hSR,hO,hOR,rfl⟩:=hP;have os:=hO.one;have ot:=hOR.one;have htw:=aJS hS hH.one;(refine W.k ?_;repeat intro b_);refine W.cw htw ?_;repeat intro b_
 refine W.cw aAU ?_;repeat intro b_
 refine Fin.to [] ?_;exact F.f1 rfl
end
end Go.Proofs.YtdfclocfackkmaaGreat
