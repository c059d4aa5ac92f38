/- One act of both: what befalls a pair. -/
import Derived.Test.YtnhnpjokpelkbaaGreatPp42
import Derived.Test.YtnhnpjokpelkbaaGreatPp43
set_option linter.unusedVariables false
set_option linter.unusedSimpArgs false
set_option linter.unusedSectionVars false
set_option maxHeartbeats 16000000
namespace Go.Proofs.YtnhnpjokpelkbaaGreat
open Go Go.Proofs.Tryz
section
attribute [local irreducible] SW SL SQ SH SA SS Pu Fin bT aQ
theorem jS.up{rs rc n:Nat}{ws:List (List UInt8)}{N N':Nat}{H:Hp}(h:jS rs rc n ws N H)(hle:N≤N'):jS rs rc n ws N' H:=by
 obtain⟨lv,tw,te,tb,tp,L,Hc,HL,Ht,e,h1,h2,h3,h4⟩:=h
 exact⟨lv,tw,te,tb,tp,L,Hc,HL,Ht,e,h1,h2,fN h3 hle,h4⟩
theorem nL.up{pp p t n N N':Nat}{ws ws':List (List UInt8)}{σ:Dv}{r:Rg}{sr:Sr}{β:Bk}{o:Option So}{H:Hp}(h:nL pp p t n N ws ws' σ r sr β o H)(hle:N≤N'):nL pp p t n N' ws ws' σ r sr β o H:=by
 obtain⟨i,sv,rv,Hd,Hs,Hk,HD,HR,HS,HT,hD,hS,hB,hDR,hSR,hO,hOR,rfl⟩:=h
 exact⟨i,sv,rv,Hd,Hs,Hk,HD,HR,HS,HT,hD,hS,hB,hDR,hSR.up hle,hO,hOR,rfl⟩
abbrev wJ(i:Pid)(p t pp:Nat)(sv rv:Value)(r:Rg)(Hd Hs Hk HD HR HS HT:Hp):Hp:=(pp,cl (vR i p t sv rv) 47)::(i.tr,cl (trc i.d r) 201)::(i.rtr,cl (rtc i.rd r) 120)::(Hd++(Hs++(Hk++(HD++(HR++(HS++HT))))))
def aMy(pp p t n N:Nat)(ws ws':List (List UInt8))(σ:Dv)(r:Rg)(sr:Sr)(o:Option So)(H:Hp):Prop:=
 ∃ (σ':Dv) (r':Rg) (sr':Sr) (β':Bk) (o':Option So),nL pp p t n (N+1000) ws ws' σ' r' sr' β' o' H∧Inv p t σ' r' o'∧∀ Q Q',Clo p t (dM (Aes.enc ws n)) Q Q'→Q σ r sr o→Q' σ' r' sr' o'
def aBQ(K:List Nat)(w:World)(a:oG)(us:List Value)(l:List Ent):Prop:=sJ K w a.lv us l∧(∃ b,Rd K w 1 a.bv (cbs b))∧∃ q,Rd K w 1 a.pv (cbs q)
theorem aDk{K:List Nat}{w:World}{v:Value}(m:Nat)(h:∃ b,Rd K w 1 v (cbs b)):∃ b:List UInt8,b.length≤m∧Rd K w 1 (ctV m v) (cbs b)∧One (ctV m v):=by
 obtain⟨b,hb⟩:=h
 have h2:=aJx hb m
 exact⟨b.take m,by rw [aG];omega,h2,h2.isOne⟩
theorem aBQ.one{K:List Nat}{w:World}{a:oG}{us:List Value}{l:List Ent}(h:aBQ K w a us l):OC a.c:=by
 have o1:One a.lv:=h.1.1.isOne
 have o2:One a.bv:=h.2.1.elim fun b hb=>hb.isOne
 have o3:One a.pv:=h.2.2.elim fun b hb=>hb.isOne
 infer_instance
theorem aBQ.all{K:List Nat}{w:World}{a:oG}{us:List Value}{l:List Ent}(h:aBQ K w a us l):OC a.c∧a.c.length=9∧(∃ b:List UInt8,b.length≤300∧Rd K w 1 (ctV 300 a.bv) (cbs b)∧One (ctV 300 a.bv))∧∃ b:List UInt8,b.length≤12∧Rd K w 1 (ctV 12 a.pv) (cbs b)∧One (ctV 12 a.pv):=
 ⟨h.one,rfl,aDk 300 h.2.1,aDk 12 h.2.2⟩
theorem aBQ.cut{K:List Nat}{w0 w:World}{H r:Hp}{a:oG}{us:List Value}{l:List Ent}(h:aBQ K w0 a us l)(hs:St K w0 H w) [hp:fA H [] r]:aC8 w a.lv us l∧(∃ b,Rd [] w 1 a.bv (cbs b))∧∃ q,Rd [] w 1 a.pv (cbs q):=
 ⟨h.1.ro (Hc:=[]) hs,h.2.1.elim fun b hb=>⟨b,hb.ro (Hc:=[]) hs⟩,h.2.2.elim fun b hb=>⟨b,hb.ro (Hc:=[]) hs⟩⟩
abbrev aE2(pp p t n N:Nat)(ws ws':List (List UInt8))(σ:Dv)(r:Rg)(sr:Sr)(o:Option So)(H:Hp)(a:oG)(us:List Value)(l:List Ent):Prop:=Tri prog 30 [ptv pp,.agg a.c.toArray] H (fun w=>aBQ (H.map Prod.fst) w a us l) (fun v H'=>v=.bool true∧aMy pp p t n N ws ws' σ r sr o H')
structure XoS where
 k:Nat
 HA:Hp
 HB:Hp
section
variable {pp p t n N:Nat}{ws ws':List (List UInt8)}{σ:Dv}{r:Rg}{sr:Sr}{β:Bk}{o:Option So}{H:Hp}
theorem aMi(h:Gm.Ok p t)(hP:nL pp p t n N ws ws' σ r sr β o H)(hI:Inv p t σ r o)(a:oG)(us:List Value)(l:List Ent)(hl:l.length≤maxLen)(ha : -9223372036854775808≤a.at'∧a.at'≤9223372036854775807)(hk:¬ (a.kind=0∨a.kind=1∨a.kind=2∨a.kind=3∨a.kind=6∨a.kind=7)) :
  aE2 pp p t n N ws ws' σ r sr o H a us l:=by
 obtain⟨i,sv,rv,Hd,Hs,Hk,HD,HR,HS,HT,hD,hS,hB,hDR,hSR,hO,hOR,rfl⟩:=hP
 refine Tri.mk func30 rfl ntmps30 rfl fun w hw=>?_
 obtain⟨oc,hol,⟨bb,hb300,hbR,ob⟩,qq,hq12,hqR,oq⟩:=hw.all
 have hcu:=aG2 a us l hl
 have os:=hO.one
 have ot:=hOR.one
 have w8:=hI.w8
 have key:∀ (σ':Dv) (Hd' HD':Hp),σ'.ws.length=σ.ws.length→fD i.d σ' Hd'→iA i.rd σ' HD'→(∀ Q Q',Clo p t (dM (Aes.enc ws n)) Q Q'→Q σ r sr o→Q' σ' r sr o)→aMy pp p t n N ws ws' σ r sr o (wJ i p t pp sv rv r Hd' Hs Hk HD' HR HS HT):=fun σ' Hd' HD' hwl h1 h2 hq=>
  ⟨σ',r,sr,β,o,⟨i,sv,rv,Hd',Hs,Hk,HD',HR,HS,HT,h1,hS,hB,h2,hSR.up oQ,hO,hOR,rfl⟩,hI.dev hwl,hq⟩
 obtain⟨kind,lv,full,kk,n0,at',bv,wr,pv⟩:=a
 dsimp only [oG.c] at hol oc ha hk hcu hbR hqR ob oq ⊢
 generalize ctV 300 bv=bv2 at *
 generalize ctV 12 pv=pv2 at *
 refine W.k fun b_=>?_
 refine aF hcu ?_ (hpre:=fun w2 hs=>hw.cut hs)
 rintro _ _ ⟨lv2,r0,us2,l2,HO,HQ,rfl,hr0,hO2,-,rfl⟩
 have oO:=hO2.isOne
 by_cases k4:kind=4
 ·subst k4
  have h1:=aLx hD pv2 qq
  have h2:=aKu hDR pv2 qq
  refine W.k ?_
  (refine SW.l [7] [0,1,2,3,4,5,6] ?_;refine bO 7 ?_)
  refine aF h1 ?_ (hpre:=fun w2 hs=>hqR.ro (Hc:=Hd) hs)
  rintro _ Hd2 ⟨rfl,hD2⟩
  (refine bC [] ?_;refine SS.dn ?_)
  refine W.k ?_
  (refine SW.l [7] [0,1,2,3,4,5,6] ?_;refine bO 7 ?_)
  refine aF h2 ?_ (hpre:=fun w2 hs=>hqR.ro (Hc:=HD) hs)
  rintro _ HD2 ⟨rfl,hDR2⟩
  (refine bC [] ?_;refine SS.dn ?_)
  have h3:=aPd hD2
  have h4:=aMS hDR2
  refine W.k ?_
  refine aF h3 ?_
  rintro _ Hd3 ⟨rfl,hD3⟩
  refine W.k ?_
  refine aF h4 ?_
  rintro _ HD3 ⟨rfl,hDR3⟩
  refine W.k ?_
  refine Fin.to (wJ i p t pp sv rv r Hd3 Hs Hk HD3 HR HS HT) ?_
  exact F.f1 ⟨rfl,key (σ.crash qq).on Hd3 HD3 (aFg qq σ) hD3 hDR3 fun Q Q' hQ hq=>hQ.cr qq hq⟩
 by_cases k5:kind=5
 ·subst k5
  have h1:=aO0 hD (r0:Int) oQ pv2 qq oQ
  have h2:=aN7 hDR (r0:Int) oQ pv2 qq oQ
  refine W.k ?_
  (refine SW.l [9] [0,1,2,3,4,5,6,7,8] ?_;refine bO 9 ?_)
  refine aF h1 ?_ (hpre:=fun w2 hs=>hqR.ro (Hc:=Hd) hs)
  rintro _ Hd2 ⟨rfl,hD2⟩
  (refine bC [] ?_;refine SS.dn ?_)
  refine W.k ?_
  (refine SW.l [9] [0,1,2,3,4,5,6,7,8] ?_;refine bO 9 ?_)
  refine aF h2 ?_ (hpre:=fun w2 hs=>hqR.ro (Hc:=HD) hs)
  rintro _ HD2 ⟨rfl,hDR2⟩
  (refine bC [] ?_;refine SS.dn ?_)
  refine W.k ?_
  refine Fin.to (wJ i p t pp sv rv r Hd2 Hs Hk HD2 HR HS HT) ?_
  exact F.f1 ⟨rfl,key (σ.arm (r0:Int) qq) Hd2 HD2 rfl hD2 hDR2 fun Q Q' hQ hq=>hQ.ar _ _ hq⟩
 by_cases k8:kind=8
 ·subst k8
  have h1:=aPy hD at' bv2 bb oQ ha
  have h2:=aOm hDR at' bv2 bb oQ ha
  have hwl:=aOA σ at' bb
  have hta:∀ Q Q',Clo p t (dM (Aes.enc ws n)) Q Q'→Q σ r sr o→Q' (σ.tam at' bb) r sr o:=fun Q Q' hQ hq=>hQ.ta _ _ hq
  generalize σ.tamB at' bb.length=tb at *
  generalize σ.tam at' bb=σ2 at *
  refine W.k ?_
  (refine SW.l [19] [0,1,2,3,4,5,6,7,8,10,11,12,13,14,15,16,17,18] ?_;refine bA 9 ?_)
  refine aF h1 ?_ (hpre:=fun w2 hs=>hbR.ro (Hc:=Hd) hs)
  rintro _ Hd2 ⟨rfl,hD2⟩
  (refine bC [] ?_;refine bO 19 ?_)
  refine aF h2 ?_ (hpre:=fun w2 hs=>hbR.ro (Hc:=HD) hs)
  rintro _ HD2 ⟨rfl,hDR2⟩
  cases tb
  all_goals
   (refine bC [] ?_;refine dZ 20 rfl (aMK rfl rfl rfl) ?_;refine SG.l [21,22] ?_)
   refine W.k ?_
   refine Fin.to (wJ i p t pp sv rv r Hd2 Hs Hk HD2 HR HS HT) ?_
   exact F.f1 ⟨rfl,key _ Hd2 HD2 hwl hD2 hDR2 hta⟩
 have h3:=aPd hD
 have h4:=aMS hDR
 refine W.k ?_
 refine aF h3 ?_
 rintro _ Hd3 ⟨rfl,hD3⟩
 refine W.k ?_
 refine aF h4 ?_
 rintro _ HD3 ⟨rfl,hDR3⟩
 refine W.k ?_
 refine Fin.to (wJ i p t pp sv rv r Hd3 Hs Hk HD3 HR HS HT) ?_
 exact F.f1 ⟨rfl,key σ.on Hd3 HD3 rfl hD3 hDR3 fun Q Q' hQ hq=>hQ.on hq⟩
theorem aMj(h:Gm.Ok p t)(hP:nL pp p t n N ws ws' σ r sr β o H)(hI:Inv p t σ r o)(hK:kS n ws)(hK':kS n ws')(hN:N≤1000000)(hX:Rg.enc ws' n=Aes.enc ws n)(a:oG)(us:List Value)(l:List Ent)(hl:l.length≤maxLen)(hk:a.kind=6∨a.kind=7) :
  aE2 pp p t n N ws ws' σ r sr o H a us l:=by
 have hop:=fun wr=>aEf h hP hI.len hI.r wr
 have hio:=fun w=>hI.open w
 obtain⟨i,sv,rv,Hd,Hs,Hk,HD,HR,HS,HT,hD,hS,hB,hDR,hSR,hO,hOR,rfl⟩:=hP
 have hfm:=aA3 (pp:=pp) (o:=none) (H:=(pp,cl (vR i p t (.pointer none) (.pointer none)) 47)::(i.tr,cl (trc i.d r) 201)::(i.rtr,cl (rtc i.rd r) 120)::(Hd++(Hs++(Hk++(HD++(HR++([]++[]))))))) h ⟨i,.pointer none,.pointer none,Hd,Hs,Hk,HD,HR,[],[],hD,hS,hB,hDR,hSR,⟨rfl,rfl⟩,⟨rfl,rfl⟩,rfl⟩ hI.len hI.r hK hK' hN hX
 have hif:=hI.format (X:=dM (Aes.enc ws n))
 refine Tri.mk func30 rfl ntmps30 rfl fun w hw=>?_
 obtain⟨oc,hol,⟨bb,hb300,hbR,ob⟩,qq,hq12,hqR,oq⟩:=hw.all
 have hcu:=aG2 a us l hl
 have os:=hO.one
 have ot:=hOR.one
 obtain⟨kind,lv,full,kk,n0,at',bv,wr,pv⟩:=a
 dsimp only [oG.c] at hol oc hk hcu hbR hqR ob oq ⊢
 generalize ctV 300 bv=bv2 at *
 generalize ctV 12 pv=pv2 at *
 rcases hk with rfl|rfl
 ·refine W.k fun b_=>?_
  refine aF hcu ?_ (hpre:=fun w2 hs=>hw.cut hs)
  rintro _ _ ⟨lv2,r0,us2,l2,HO,HQ,rfl,hr0,hO2,-,rfl⟩
  have oO:=hO2.isOne
  refine W.k ?_
  refine aF (hop wr) ?_
  rintro _ H2 ⟨rfl,hP2⟩
  refine W.k ?_
  refine Fin.to H2 ?_
  exact F.f1 ⟨rfl,_,_,_,_,_,hP2.up oQ,(hio wr).1,fun Q Q' hQ hq=>hQ.op wr hI hq⟩
 ·refine W.k fun b_=>?_
  refine aF hcu ?_ (hpre:=fun w2 hs=>hw.cut hs)
  rintro _ _ ⟨lv2,r0,us2,l2,HO,HQ,rfl,hr0,hO2,-,rfl⟩
  have oO:=hO2.isOne
  refine W.k ?_
  rw [show ((vR i p t sv rv).set 6 (.pointer none)).set 12 (.pointer none)=vR i p t (.pointer none) (.pointer none) from rfl]
  refine aF hfm ?_
  rintro _ H2 ⟨rfl,hP2⟩
  refine W.k ?_
  refine Fin.to H2 ?_
  exact F.f1 ⟨rfl,_,_,_,_,_,hP2.up oQ,hif.1,fun Q Q' hQ hq=>hQ.fm hI hq⟩
theorem aMk(h:Gm.Ok p t)(hP:nL pp p t n N ws ws' σ r sr β o H)(hI:Inv p t σ r o)(hK:kS n ws)(hK':kS n ws')(hX:Rg.enc ws' n=Aes.enc ws n)(a:oG)(us:List Value)(l:List Ent)(hl:l.length≤maxLen)(hk:a.kind=3) :
  aE2 pp p t n N ws ws' σ r sr o H a us l:=by
 have hP0:=hP
 obtain⟨i,sv,rv,Hd,Hs,Hk,HD,HR,HS,HT,hD,hS,hB,hDR,hSR,hO,hOR,rfl⟩:=hP
 refine Tri.mk func30 rfl ntmps30 rfl fun w hw=>?_
 obtain⟨oc,hol,⟨bb,hb300,hbR,ob⟩,qq,hq12,hqR,oq⟩:=hw.all
 have hcu:=aG2 a us l hl
 have os:=hO.one
 have ot:=hOR.one
 obtain⟨kind,lv,full,kk,n0,at',bv,wr,pv⟩:=a
 dsimp only [oG.c] at hol oc hk hcu hbR hqR ob oq ⊢
 generalize ctV 300 bv=bv2 at *
 generalize ctV 12 pv=pv2 at *
 subst hk
 cases o with
 | none=>
  obtain⟨rfl,rfl⟩:=hO
  obtain⟨rfl,rfl⟩:=hOR
  refine W.k fun b_=>?_
  refine aF hcu ?_ (hpre:=fun w2 hs=>hw.cut hs)
  rintro _ _ ⟨lv2,r0,us2,l2,HO,HQ,rfl,hr0,hO2,-,rfl⟩
  have oO:=hO2.isOne
  refine W.k ?_
  refine Fin.to (wJ i p t pp (.pointer none) (.pointer none) r Hd Hs Hk HD HR [] []) ?_
  exact F.f1 ⟨rfl,σ,r,sr,β,none,hP0.up oQ,hI,fun Q Q' hQ hq=>hQ.no hq⟩
 | some x=>
  obtain⟨sp,rfl,hSt⟩:=hO
  obtain⟨rsp,rfl,hRt⟩:=hOR
  have hx:=hI.o x rfl
  have h1:=aHP (tr:=i.tr) h hx hD hI.len hSt hB hS hK kk
  have h2:=aL5 (tr:=i.rtr) h hx hDR hI.len hRt hSR hK' kk
  rw [hX] at h2
  have hi:=hI.read (X:=dM (Aes.enc ws n)) kk
  have hqr:∀ Q Q',Clo p t (dM (Aes.enc ws n)) Q Q'→Q σ r sr (some x)→Q' σ r sr (some (rdS p (dM (Aes.enc ws n)) kk σ x).2.2):=fun Q Q' hQ hq=>hQ.rd kk hI hq
  generalize rdS p (dM (Aes.enc ws n)) kk σ x=RR at *
  generalize rdK p kk σ x β=β2 at *
  obtain⟨e,bs,x2⟩:=RR
  dsimp only at h1 h2 hi hqr
  refine W.k fun b_=>?_
  refine aF hcu ?_ (hpre:=fun w2 hs=>hw.cut hs)
  rintro _ _ ⟨lv2,r0,us2,l2,HO,HQ,rfl,hr0,hO2,-,rfl⟩
  have oO:=hO2.isOne
  refine W.k ?_
  (refine SW.l [6] [0,1,2,3,4,5] ?_;refine bO 6 ?_)
  refine aF h1 ?_
  rintro _ _ ⟨v1,Hr1,HS2,Hk2,rfl,hr1,hSt2,hB2,rfl⟩
  have o1:=hr1.isOne
  (refine SL.l [7,8,9,10,11,12] ?_)
  refine W.k ?_
  (refine SW.l [6] [0,1,2,3,4,5] ?_;refine bO 6 ?_)
  refine aF h2 ?_
  rintro _ _ ⟨v2,Hr2,HT2,rfl,hr2,hRt2,rfl⟩
  have o2:=hr2.isOne
  (refine SL.l [7,8,9,10,11,12] ?_)
  refine W.k ?_
  refine aDW (bs:=bs) hr1 ?_
  refine W.k ?_
  refine aDW (bs:=bs) hr2 ?_
  refine W.k ?_
  refine Fin.to (wJ i p t pp (ptv sp) (ptv rsp) r Hd Hs Hk2 HD HR HS2 HT2) ?_
  refine F.f1 ?_
  exact⟨by simp,σ,r,sr,β2,some x2,⟨i,ptv sp,ptv rsp,Hd,Hs,Hk2,HD,HR,HS2,HT2,hD,hS,hB2,hDR,hSR.up oQ,⟨sp,rfl,hSt2⟩,⟨rsp,rfl,hRt2⟩,rfl⟩,hi.1,hqr⟩
theorem aMh(h:Gm.Ok p t)(hP:nL pp p t n N ws ws' σ r sr β o H)(hI:Inv p t σ r o)(hK:kS n ws)(hK':kS n ws')(hN:N≤1000000)(hX:Rg.enc ws' n=Aes.enc ws n)(a:oG)(us:List Value)(l:List Ent)(hl:l.length≤maxLen)(hk:a.kind=0∨a.kind=1∨a.kind=2) :
  aE2 pp p t n N ws ws' σ r sr o H a us l:=by
 have hP0:=hP
 obtain⟨i,sv,rv,Hd,Hs,Hk,HD,HR,HS,HT,hD,hS,hB,hDR,hSR,hO,hOR,rfl⟩:=hP
 refine Tri.mk func30 rfl ntmps30 rfl fun w hw=>?_
 obtain⟨oc,hol,⟨bb,hb300,hbR,ob⟩,qq,hq12,hqR,oq⟩:=hw.all
 have hcu:=aG2 a us l hl
 have os:=hO.one
 have ot:=hOR.one
 have hwE:=hw.1
 obtain⟨kind,lv,full,kk,n0,at',bv,wr,pv⟩:=a
 dsimp only [oG.c] at hol oc hk hcu hbR hqR ob oq hwE ⊢
 generalize ctV 300 bv=bv2 at *
 generalize ctV 12 pv=pv2 at *
 cases o with
 | none=>
  obtain⟨rfl,rfl⟩:=hO
  obtain⟨rfl,rfl⟩:=hOR
  rcases hk with rfl|rfl|rfl
  all_goals
   refine W.k fun b_=>?_
   refine aF hcu ?_ (hpre:=fun w2 hs=>hw.cut hs)
   rintro _ _ ⟨lv2,r0,us2,l2,HO,HQ,rfl,hr0,hO2,-,rfl⟩
   have oO:=hO2.isOne
   refine W.k ?_
   refine Fin.to (wJ i p t pp (.pointer none) (.pointer none) r Hd Hs Hk HD HR [] []) ?_
   exact F.f1 ⟨rfl,σ,r,sr,β,none,hP0.up oQ,hI,fun Q Q' hQ hq=>hQ.no hq⟩
 | some x=>
  obtain⟨sp,rfl,hSt⟩:=hO
  obtain⟨rsp,rfl,hRt⟩:=hOR
  have hx:=hI.o x rfl
  have hXl:∀ e j b,(dM (Aes.enc ws n) e j b).length=b.length:=fun e j b=>mQ (E:=Aes.enc ws n) (fun y=>Aes.enc_len ..) e j b
  have hio:=fun l=>hI.commit hXl h (l:=l)
  rcases hk with rfl|rfl|rfl
  all_goals
   refine W.k fun b_=>?_
   refine aF hcu ?_ (hpre:=fun w2 hs=>hw.cut hs)
   rintro _ _ ⟨lv2,r0,us2,l2,HO,HQ,rfl,hr0,hO2,hC,rfl⟩
   have hln:l2.length≤26:=by have:=hC.n;omega
   have hul2:=hC.ul
   have h260:∀ x∈l2,x.2.length≤1000000:=fun y hy=>by
    obtain⟨j,hj⟩:=cC.1 hy
    obtain⟨-,-,-,h3,-⟩:=hC.ent j y hj
    omega
   obtain⟨oa,oln,ocp,rfl,hol2⟩:=hO2.form
   rw [fI us2 l2 hul2] at hol2
   obtain rfl:oln=l2.length:=by omega
   have hen:=aGq (.slice oa l2.length ocp) us2 l2 oQ h260
   have h2:=aIH (tr:=i.rtr) h hx hI.r hDR hI.w8 hRt hSR hK' oQ (lv:=.slice oa l2.length ocp) (us:=us2) (l:=l2) oQ rfl
   rw [hX] at h2
   obtain⟨e,σ2,r2,x2,hcm,hI2,hH2⟩:=hio l2
   rw [hcm] at h2
   dsimp only at h2
   refine W.k ?_
   refine aF hen ?_ (hpre:=fun w2 hs=>hC.ents [] hwE hO2 hs)
   rintro ev _ ⟨us3,HE,HQ3,hL3,hR3,rfl⟩
   have oL3:=hL3.isOne
   have h1:=aDE (tr:=i.tr) h hx hI.r hD hI.w8 hSt hB hS hK hL3 hR3.rb oQ rfl
   rw [hcm] at h1
   dsimp only at h1
   have hul3:us3.length=l2.length:=by rw [hR3.rb.1,aD]
   have hec3:=fI us3 l2 hul3
   obtain⟨ea,eln,ecp,rfl,hel3⟩:=hL3.form
   rw [hec3] at hel3
   obtain rfl:eln=l2.length:=by omega
   refine W.k ?_
   refine aF h1 ?_
   rintro _ _ ⟨Hd2,HS2,Hs2,Hk2,β2,rfl,hD2,hSt2,hB2,hS2,rfl⟩
   refine W.j ?_
   refine bQ [0,3,6] HQ3 (fun _:Hp=>[]) (fun y=>y) (fun _=>True) ?_ ?_
   ·refine W.k ?_
    refine bF [0,3,6,36,37] (fun y:XoS=>[(38,.int .i64 (y.k:Int))]) (fun y=>y.HA++y.HB) (fun y=>l2.length-y.k) (fun y=>y.k≤l2.length∧xW (us3.drop y.k) ((l2.map Prod.snd).drop y.k) y.HB) ⟨0,[],HQ3⟩ ⟨Nat.zero_le _,hR3⟩ ?_
    rintro⟨k,HA,HB⟩ ⟨hk,hOw⟩
    dsimp only at hk hOw ⊢
    by_cases hkn:k<l2.length
    ·rcases hL3 with ⟨hz,hz2,-⟩|⟨eb,elen,ecap,ejunk,hz,hexl,hej,hec,rfl⟩
     ·rw [hz2] at hec3;simp at hec3;omega
     simp only [Value.slice.injEq] at hz
     obtain⟨rfl,rfl,rfl⟩:=hz
     have huk:=aA (show k<us3.length by omega)
     have hx0:=aA hkn
     have hrow:=uS (junk:=ejunk) hul3 huk hx0
     obtain⟨b,H1,H2,rfl,hbk,hb1,hb2⟩:=hOw.drop huk
     have hb6:b.length≤1000000:=by
      rw [aJ,hx0] at hbk
      simp only [Option.map_some,cV] at hbk
      rw [← hbk]
      exact h260 _ (aT hx0)
     generalize us3[k]=u at *
     generalize l2[k]=z at *
     obtain⟨ua,ul,uc,rfl,hbl⟩:=hb1.form
     rw [aI,Nat.mul_one] at hbl
     rcases hb1 with ⟨hz,hz2,rfl⟩|⟨ub,ulen,ucap,ujunk,hz,huxl,huj,huc,rfl⟩
     ·simp only [Value.slice.injEq] at hz
      obtain⟨rfl,rfl,rfl⟩:=hz
      refine W.k fun b_=>?_
      refine bF [0,3,6,8,36,37,38,44] (fun y:Unit=>[(45,.int .i64 0)]) (fun _=>[]) (fun _=>0) (fun _=>True) () trivial ?_
      rintro⟨⟩ -
      refine W.k ?_
      refine aQ.mk ⟨k+1,HA++[],H2⟩ ?_
      exact⟨hkn,hb2⟩
     ·simp only [Value.slice.injEq] at hz
      obtain⟨rfl,rfl,rfl⟩:=hz
      refine W.k fun b_=>?_
      refine bF [0,3,6,8,36,37,38,44] (fun y:Nat×List UInt8=>[(45,.int .i64 (y.1:Int))]) (fun y=>[(ub,cl (cbs y.2++ujunk) 5)]) (fun y=>ul-y.1) (fun y=>y.1≤ul∧y.2.length=ul) (0,b) ⟨Nat.zero_le _,hbl⟩ ?_
      rintro⟨j,b2⟩ ⟨hj,hb2l⟩
      dsimp only at hj hb2l ⊢
      by_cases hjl:j<ul
      ·have hjb:=aA (show j<b2.length by omega)
       have hlv:(cbs b2++ujunk)[j]?=some (.int .u8 (b2[j].toNat:Int)):=by
        rw [aL (by rw [aI];omega),aJ,hjb];rfl
       have hst:=aFb (xs:=b2) (i:=j) oQ (b2[j] ^^^ 5) ujunk
       have hfit:j<(cbs b2++ujunk).length:=by rw [aB,aI];omega
       haveI:U8 (5:Int) 5:=⟨rfl⟩
       generalize b2[j]=y0 at *
       refine W.k ?_
       rw [hst]
       refine aQ.mk (j+1,b2.set j (y0 ^^^ 5)) ?_
       exact⟨hjl,by dsimp only;rw [bS];exact hb2l⟩
      ·obtain rfl:j=ul:=by omega
       refine W.k ?_
       refine aQ.mk ⟨k+1,HA++[(ub,cl (cbs b2++ujunk) 5)],H2⟩ ?_
       exact⟨hkn,hb2⟩
    ·refine W.k ?_
     refine bT.mk (HA++HB) ?_
     exact trivial
   rintro H3 -
   refine W.k ?_
   (refine SW.l [7] [0,1,2,3,4,5,6] ?_;refine bO 7 ?_)
   refine aF h2 ?_ (hpre:=fun w2 hs=>hC.ents ((i.rtr,cl (rtc i.rd r) 120)::(HT++(HD++HR))) hwE hO2 hs)
   rintro _ _ ⟨HD2,HT2,HR2,rfl,hDR2,hRt2,hSR2,rfl⟩
   (refine SL.l [8,9,10] ?_)
   refine W.k ?_
   refine Fin.to (wJ i p t pp (ptv sp) (ptv rsp) r2 Hd2 Hs2 Hk2 HD2 HR2 HS2 HT2) ?_
   exact F.f1 ⟨rfl,σ2,r2,_,β2,some x2,⟨i,ptv sp,ptv rsp,Hd2,Hs2,Hk2,HD2,HR2,HS2,HT2,hD2,hS2,hB2,hDR2,hSR2,⟨sp,rfl,hSt2⟩,⟨rsp,rfl,hRt2⟩,rfl⟩,hI2,fun Q Q' hQ hq=>by have:=hQ.cm l2 hI hq;rw [hcm] at this;exact this⟩
theorem aNc(h:Gm.Ok p t)(hP:nL pp p t n N ws ws' σ r sr β o H)(hI:Inv p t σ r o)(hK:kS n ws)(hK':kS n ws')(hN:N≤1000000)(hX:Rg.enc ws' n=Aes.enc ws n)(a:oG)(us:List Value)(l:List Ent)(hl:l.length≤maxLen)(ha : -9223372036854775808≤a.at'∧a.at'≤9223372036854775807) :
  aE2 pp p t n N ws ws' σ r sr o H a us l:=by
 by_cases h1:a.kind=0∨a.kind=1∨a.kind=2
 ·exact aMh h hP hI hK hK' hN hX a us l hl h1
 by_cases h2:a.kind=3
 ·exact aMk h hP hI hK hK' hX a us l hl h2
 by_cases h3:a.kind=6∨a.kind=7
 ·exact aMj h hP hI hK hK' hN hX a us l hl h3
 exact aMi h hP hI a us l hl ha oQ
end
theorem aJf{pp p t n N:Nat}{ws ws':List (List UInt8)}{σ:Dv}{r:Rg}{sr:Sr}{β:Bk}{o:Option So}{H:Hp}(h:Gm.Ok p t)(hP:nL pp p t n N ws ws' σ r sr β o H)(hI:Inv p t σ r o) :
  Tri prog 29 [ptv pp] H (fun _=>True) (fun v H'=>v=.bool true∧∃ β',nL pp p t n N ws ws' σ r sr β' o H'):=by
 obtain⟨i,sv,rv,Hd,Hs,Hk,HD,HR,HS,HT,hD,hS,hB,hDR,hSR,hO,hOR,rfl⟩:=hP
 have hr:=hI.r
 refine Tri.mk func29 rfl ntmps29 rfl fun w hw=>?_
 have hsm:=aOr hD hDR
 have hrd:=zD i.tr i.d r hr
 obtain⟨f1,f2,f3,f4,f5,f6⟩:=aDD i.rd hr
 have hrl:=nQ hr
 have os:=hO.one
 have ot:=hOR.one
 cases o with
 | none=>
  obtain⟨rfl,rfl⟩:=hO
  obtain⟨rfl,rfl⟩:=hOR
  refine W.k ?_
  (refine SW.l [10] [0,1,2,3,4,5,6,7,8,9] ?_;refine bO 10 ?_)
  refine W.cq hsm ?_
  (refine SL.l [11,12,13,14,15,16,17,19,20,21,22,23,24,25,26] ?_;(first|refine dB 18 rfl ?_;(first|refine dB 27 rfl ?_|refine dZ 27 rfl (p_neS_t rfl rfl rfl (by assumption) (by assumption) (by assumption)) ?_|refine dZ 27 rfl (xN rfl rfl rfl (by assumption) (by assumption) (by first|assumption|rfl)) ?_);refine SG.l [28,29,30,31,32,33,34,35,36,37,38,39,40,41,42] ?_|refine bA 18 ?_))
  refine W.cq hrd ?_
  (refine bC [] ?_;(first|refine dB 27 rfl ?_|refine dZ 27 rfl (xN rfl rfl rfl (aL8 hr) (aL8 hr) rfl) ?_);refine SG.l [28,29,30,31,32,33,34,35,36,37,38,39] ?_;(first|refine dB 40 rfl ?_|refine dZ 40 rfl (aGI rfl rfl rfl rfl) ?_);refine SG.l [41,42] ?_)
  refine W.k ?_
  refine Fin.to (wJ i p t pp (.pointer none) (.pointer none) r Hd Hs Hk HD HR [] []) ?_
  exact F.f1 ⟨rfl,β,i,.pointer none,.pointer none,Hd,Hs,Hk,HD,HR,[],[],hD,hS,hB,hDR,hSR,⟨rfl,rfl⟩,⟨rfl,rfl⟩,rfl⟩
 | some x=>
  obtain⟨sp,rfl,hSt⟩:=hO
  obtain⟨rsp,rfl,hRt⟩:=hOR
  have hx:=hI.o x rfl
  have hll:=Gm.leaves_le h
  have hsl:=Gm.sealed_le h
  have hLq:Gm.leaves p=1+Gm.epochs p+Gm.sealed p:=rfl
  have hxl:=hx.es
  have hxv:=hx.lv
  have hst:=aIT hSt
  have hrt:=aMf hSt hB oQ
  have hlf:=fun k=>aMe hSt oQ hx.d k
  have hep:=fun k=>aKD hSt k
  have hln:=aOo hSt
  obtain⟨ev,lv,He,Hl,rfl,hE,hL⟩:=hRt
  have oe:=hE.isOne
  obtain⟨ea,el,ec,rfl,hel⟩:=hE.form
  rw [eR] at hel
  obtain rfl:el=x.es.length:=by omega
  obtain⟨lb,lc,lj,rfl,hlc,rfl,hLn⟩:=hL.rowD hx.d oQ
  have hLx:=hLn x.lv hx.d rfl
  clear hLn hL
  have hrr:=aBO x.lv hx.d (.slice (some ⟨lb,0,none⟩) x.lv.length lc) oQ
  have hr32:(fU x.lv).length=32:=Sha.sum_len _
  have hr32c:=lV hr32
  have hl1:lW x.lv (-1)=z32:=by unfold lW;rw [if_neg oQ]
  have he1:epV x.es (-1)=0:=by unfold epV;rw [if_neg oQ]
  have he2:epV x.es (x.es.length:Int)=0:=by unfold epV;rw [if_neg oQ]
  have hlf1:=hlf (-1)
  have hep1:Tri prog 16 [ptv sp,.int .i64 (-1)] HS (fun _=>True) (fun v H=>v=.int .u64 0∧H=HS):=by
   have:=hep (-1)
   rw [he1] at this
   exact this
  have hep2:Tri prog 16 [ptv sp,.int .i64 (x.es.length:Int)] HS (fun _=>True) (fun v H=>v=.int .u64 0∧H=HS):=by
   have:=hep (x.es.length:Int)
   rw [he2] at this
   exact this
  rw [hl1] at hlf1
  clear hl1 he1 he2
  refine W.k ?_
  (refine SW.l [10] [0,1,2,3,4,5,6,7,8,9] ?_;refine bO 10 ?_)
  refine W.cq hsm ?_
  (refine SL.l [11,12,13,14,15,16,17,19,20,21,22,23,24,25,26] ?_;(first|refine dB 18 rfl ?_;(first|refine dB 27 rfl ?_|refine dZ 27 rfl (p_neS_t rfl rfl rfl (by assumption) (by assumption) (by assumption)) ?_|refine dZ 27 rfl (xN rfl rfl rfl (by assumption) (by assumption) (by first|assumption|rfl)) ?_);refine SG.l [28,29,30,31,32,33,34,35,36,37,38,39,40,41,42] ?_|refine bA 18 ?_))
  refine W.cq hrd ?_
  (refine bC [] ?_;(first|refine dB 27 rfl ?_|refine dZ 27 rfl (xN rfl rfl rfl (aL8 hr) (aL8 hr) rfl) ?_);refine SG.l [28,29,30,31,32,33,34,35,36,37,38,39] ?_;(first|refine dB 40 rfl ?_|refine dZ 40 rfl (aGI rfl rfl rfl rfl) ?_);refine SG.l [41,42] ?_)
  refine W.k ?_
  (refine SW.l [26] [0,1,2,3,5,6,7,8,9,10,11] ?_;refine bA 4 ?_)
  refine W.cq hst ?_
  (refine SL.l [12,13,14,15,16,17,19,20,21,22,23,24,25] ?_;(first|refine dB 18 rfl ?_;(first|refine dB 26 rfl ?_;(first|refine dB 27 rfl ?_|refine dZ 27 rfl (p_neS_t rfl rfl rfl (by assumption) (by assumption) (by assumption)) ?_|refine dZ 27 rfl (xN rfl rfl rfl (by assumption) (by assumption) (by first|assumption|rfl)) ?_);refine SG.l [28,29] ?_|refine bO 26 ?_)|refine bA 18 ?_))
  refine aF hrt ?_
  rintro _ _ ⟨β2,Hk2,rfl,hB2,rfl⟩
  (refine bC [] ?_;(first|refine dB 26 rfl ?_;(first|refine dB 27 rfl ?_|refine dZ 27 rfl (p_neS_t rfl rfl rfl (by assumption) (by assumption) (by assumption)) ?_|refine dZ 27 rfl (xN rfl rfl rfl (by assumption) (by assumption) (by first|assumption|rfl)) ?_);refine SG.l [28,29] ?_|refine bO 26 ?_))
  refine W.cq hrr ?_ (hpre:=fun w2 hs=>Rd.own (Hc:=[]) hLx hs inferInstance)
  (refine bC [] ?_;(first|refine dB 27 rfl ?_|refine dZ 27 rfl (aAm rfl rfl rfl hr32 rfl) ?_);refine SG.l [28,29] ?_)
  refine W.j ?_
  refine bQ [0] [] (fun _:Unit=>[]) (fun _=>[]) (fun _=>True) ?_ ?_
  ·refine W.k ?_
   refine bF [0,89,90] (fun k:Nat=>[(91,.int .i64 (k:Int))]) (fun _=>[]) (fun k=>x.lv.length-k) (fun k=>k≤x.lv.length) 0 (Nat.zero_le _) ?_
   intro k hk
   by_cases hkn:k<x.lv.length
   ·have hxk:x.lv[k]?=some (lW x.lv (k:Int)):=by
     unfold lW
     rw [if_pos oQ,aP,aC,aA hkn]
     rfl
    have hg:=nM (junk:=lj) hx.d hxk
    have h32:=xH hx.d (k:Int)
    have h32c:=lV h32
    have hfit:k*32+32≤(cbs x.lv.flatten++lj).length:=by rw [aB,aI,dI hx.d];omega
    have hlk:=hlf (k:Int)
    generalize lW x.lv (k:Int)=y at *
    refine W.k fun b_=>?_
    (refine SW.l [] [0,1,2,3,4,6] ?_;refine bA 5 ?_)
    refine W.cq hlk ?_
    (refine bC [] ?_;refine dZ 7 rfl (aAm rfl rfl rfl h32 rfl) ?_;refine SS.dn ?_)
    refine W.k ?_
    refine aQ.mk (k+1) ?_
    exact hkn
   ·refine W.k ?_
    refine bT.mk () ?_
    exact trivial
  rintro⟨⟩ -
  refine W.j ?_
  refine bQ [0] [] (fun _:Unit=>[]) (fun _=>[]) (fun _=>True) ?_ ?_
  ·refine W.k ?_
   refine bF [0,111,112] (fun k:Nat=>[(113,.int .i64 (k:Int))]) (fun _=>[]) (fun k=>x.es.length-k) (fun k=>k≤x.es.length) 0 (Nat.zero_le _) ?_
   intro k hk
   by_cases hkn:k<x.es.length
   ·rcases hE with ⟨-,hz,-⟩|⟨be,elen,ecap,ejunk,hz,hexl,hej,hec,rfl⟩
    ·have h9:=eR x.es
     rw [hz,List.length_nil] at h9
     omega
    simp only [Value.slice.injEq] at hz
    obtain⟨rfl,rfl,rfl⟩:=hz
    have hlu:(uv x.es++ejunk)[k]?=some (eG (x.es.getD k 0)):=by rw [aL (by rw [eR];omega)];exact aDM oQ
    have hek:epV x.es (k:Int)=x.es.getD k 0:=by unfold epV;rw [if_pos oQ,aP]
    have hpk:=hep (k:Int)
    rw [hek] at hpk
    generalize x.es.getD k 0=y at *
    refine W.k ?_
    refine W.cw hpk ?_
    refine aQ.mk (k+1) ?_
    exact hkn
   ·refine W.k ?_
    refine bT.mk () ?_
    exact trivial
  rintro⟨⟩ -
  refine W.k ?_
  (refine SW.l [19,28,44] [0,1,2,3,5,6,7,8,9,10,11,12] ?_;refine bA 4 ?_)
  refine W.cq hln ?_
  (refine SL.l [13,14,15,16,17,18,20] ?_;(first|refine dB 19 rfl ?_;(first|refine dB 21 rfl ?_|refine dZ 21 rfl (aHA rfl rfl rfl (by assumption) (by assumption) (by assumption)) ?_|refine dZ 21 rfl (aEg rfl rfl rfl (by assumption) (by assumption) (by first|assumption|rfl)) ?_);refine SG.l [22,23,24,25,26,27] ?_;(first|refine dB 28 rfl ?_;refine SG.l [29,30,31,32,33,34,35,36,37,38,39,40,41,42,43] ?_;(first|refine dB 44 rfl ?_;refine SG.l [45,46,47,48] ?_|refine bO 44 ?_)|refine bO 28 ?_)|refine bO 19 ?_))
  refine W.cq hlf1 ?_
  (refine bC [] ?_;(first|refine dB 21 rfl ?_|refine dZ 21 rfl (aHz (a:=z32) (b:=z32) rfl rfl rfl rfl rfl) ?_);refine SG.l [22,23,24,25,26,27] ?_;(first|refine dB 28 rfl ?_;refine SG.l [29,30,31,32,33,34,35,36,37,38,39,40,41,42,43] ?_;(first|refine dB 44 rfl ?_;refine SG.l [45,46,47,48] ?_|refine bO 44 ?_)|refine bO 28 ?_))
  refine W.cq hep1 ?_
  (refine SL.l [29,30,31,32,33,34,35,36,37,38,39,40,41,42,43] ?_;(first|refine dB 44 rfl ?_;refine SG.l [45,46,47,48] ?_|refine bO 44 ?_))
  refine W.cq hep2 ?_
  (refine SL.l [45,46,47,48] ?_)
  refine W.k ?_
  refine Fin.to (wJ i p t pp (ptv sp) (ptv rsp) r Hd Hs Hk2 HD HR HS ((rsp,cl (yA i.rd i.rtr i.rs p t (.slice ea x.es.length ec) (.slice (some ⟨lb,0,none⟩) x.lv.length lc) x.w x.st) 160)::(He++[(lb,cl (cbs x.lv.flatten++lj) 54)])))  ?_
  exact F.f1 ⟨rfl,β2,i,ptv sp,ptv rsp,Hd,Hs,Hk2,HD,HR,HS,_,hD,hS,hB2,hDR,hSR,⟨sp,rfl,hSt⟩,⟨rsp,rfl,_,_,He,_,rfl,hE,hLx⟩,rfl⟩
end
end Go.Proofs.YtnhnpjokpelkbaaGreat
