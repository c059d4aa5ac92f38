/- Blocks are parsed: the program's. -/
import Derived.Test.YtnigolgkkjidiaaGreatPr16
import Derived.Test.YtnigolgkkjidiaaGreatPr12
import Derived.Test.YtnigolgkkjidiaaGreatPr18
import Derived.Test.YtnigolgkkjidiaaGreatPr19
set_option linter.unusedVariables false
set_option linter.unusedSimpArgs false
set_option linter.unusedSectionVars false
set_option maxHeartbeats 8000000
namespace Go.Proofs.YtnigolgkkjidiaaGreat
open Go Go.Proofs.Tryz
section
attribute [local irreducible] SW SL SQ SH SA SS Pu Fin bZ aT
theorem bM0:bQ (fun i=>[(0,17),(17,1)][i]?) (List.replicate 17 (.int .u64 0)++[.slice none 0 0]) []=some (bF 0 z16 (.slice none 0 0)):=rfl
theorem aFZ{P T:Int}(hg:¬ GoK P T){v:Value} [One v]:Tri prog 28 [geV P T,v] [] (fun _=>True) (fun r H=>r=.tuple #[.agg (bF 0 z16 (.slice none 0 0)).toArray,.int .i64 1]∧H=[]):=by
 refine Tri.mk func28 rfl ntmps28 rfl fun w hw=>?_
 have hb:=bM0
 have hl:(bF 0 z16 (.slice none 0 0)).length=18:=rfl
 have ho:OC (bF 0 z16 (.slice none 0 0)):=inferInstance
 generalize bF 0 z16 (.slice none 0 0)=Z at *
 refine W.k fun _ b_=>?_
 refine W.cw (yJ hg) ?_
 exact F.ct [] Z ⟨rfl,rfl⟩
theorem aF0{p t:Nat}(hg:Gm.Ok p t){a:Option Addr}{len cap:Nat}(hne:len≠1+Gm.up p 16):Tri prog 28 [iX p t,.slice a len cap] [] (fun _=>True) (fun r H=>r=.tuple #[.agg (bF 0 z16 (.slice none 0 0)).toArray,.int .i64 1]∧H=[]):=by
 refine Tri.mk func28 rfl ntmps28 rfl fun w hw=>?_
 obtain⟨g1,g2,g3,g4⟩:=id hg
 have hup:=@yV p
 have hmp:=aDI hg
 have hb:=bM0
 have hl:(bF 0 z16 (.slice none 0 0)).length=18:=rfl
 have ho:OC (bF 0 z16 (.slice none 0 0)):=inferInstance
 generalize bF 0 z16 (.slice none 0 0)=Z at *
 generalize Gm.up p 16=M at *
 refine W.k fun _ b_=>?_
 refine W.cw (iW hg) ?_
 refine W.cw hmp ?_
 exact F.ct [] Z ⟨rfl,rfl⟩
def aOh(o:Option (Int×List Int×List Pg))(r:Value)(H:Hp):Prop:=match o with
 | none=>r=.tuple #[.agg (bF 0 z16 (.slice none 0 0)).toArray,.int .i64 4]∧H=[]
 | some x=>∃ pv,r=.tuple #[.agg (bF x.1 x.2.1 pv).toArray,.int .i64 0]∧Sl 185 5 pv (dK x.2.2) H
theorem aA0(bss:List (List UInt8))(b:List UInt8):gJ (bss++[b])=gJ bss++fQ b:=by
 unfold gJ
 rw [bB,eW]
 simp only [dO,jB,dG,iZ,aJ]
theorem aLj(ps:List Pg):ps.any (fun p=>decide (p≠.pl 0))=false↔ps=zpg ps.length:=by
 constructor
 ·intro h
  exact List.eq_replicate_iff.2 ⟨rfl,fun q hq=>by
   have:=List.any_eq_false.1 h q hq
   simpa using this⟩
 ·intro h
  rw [h]
  exact List.any_eq_false.2 fun q hq=>by rw [fT hq];decide
theorem aBW{p t:Nat}(hg:Gm.Ok p t){bv:Value}{us:List Value}{Hb Hs:Hp}(hb:Sl 50 1 bv us Hb)(b0:List UInt8)(bss:List (List UInt8))(hR:RB Hs us (b0::bss))(hlen:bss.length=Gm.up p 16)(h256:∀ b∈b0::bss,b.length=256) :
  Tri prog 28 [iX p t,bv] (Hb++Hs) (fun _=>True) (fun r H=>∃ Hn,aOh (kZ p b0 bss) r Hn∧H=Hn++(Hb++Hs)):=by
 obtain⟨g1,g2,g3,g4⟩:=id hg
 have hup:=@yV p
 have hmp:=aDI hg
 generalize hM:Gm.up p 16=M at *
 rcases hb with ⟨-,h,-⟩|⟨q,ql,qc,qj,rfl,hq1,hq2,hq3,rfl⟩
 ·exfalso
  have:=hR.1
  rw [h] at this
  cases this
 have hul:us.length=1+M:=by rw [hR.1,aW,hlen];omega
 have hql:ql=1+M:=om
 subst hql
 obtain⟨v0,hv0,hr0⟩:=hR.2 0 b0 rfl
 have hus0:(us++qj)[0]?=some v0:=by rw [aN om];exact hv0
 have hv01:=hr0.one
 have hP0:=aI3 b0 (h256 b0 (by simp)) v0
 have hpin:∀ n l,vZ b0=some (n,l)→l.length=16∧isU n∧(∀ h∈l,isU h)∧rOk n l=true:=fun n l h=>aDJ h
 have hmetaP:kZ p b0 bss=match vZ b0 with
  | none=>none
  | some (n,l)=>if bss.all (fun b=>(fQ b).all fJ)=true∧(lI p n l ((gJ bss).take p)=true∧(gJ bss).drop p=zpg ((gJ bss).length-p)) then some (n,l,(gJ bss).take p) else none:=rfl
 refine Tri.mk func28 rfl ntmps28 rfl fun w hw=>?_
 have hb0:=bM0
 have hl0:(bF 0 z16 (.slice none 0 0)).length=18:=rfl
 have ho0:OC (bF 0 z16 (.slice none 0 0)):=inferInstance
 have hz0:(bP 0 z16).length=17:=rfl
 have hzo:OC (bP 0 z16):=inferInstance
 generalize hZ0:bF 0 z16 (.slice none 0 0)=Z0 at *
 cases hp:vZ b0 with
 | none=>
  rw [hp] at hP0 hmetaP
  dsimp only at hP0 hmetaP
  generalize bP 0 z16=Y0 at *
  refine W.k fun _ b_=>?_
  refine W.cw (iW hg) ?_
  refine W.cw hmp ?_
  refine W.cw hP0 ?_ (hpre:=fun w2 hs=>hr0.rd (Hc:=[]) hs);intro b_
  exact F.ct ((q,cl (us++qj) 50)::Hs) Z0 ⟨[],by rw [hmetaP,← hZ0];exact⟨rfl,rfl⟩,rfl⟩
 | some x=>
  obtain⟨n,l⟩:=x
  obtain⟨hl,hn,hu,hok⟩:=hpin n l hp
  rw [hp] at hP0 hmetaP
  dsimp only at hP0 hmetaP
  have hrl:(bP n l).length=17:=by rw [bU,hl]
  have hro:OC (bP n l):=inferInstance
  have hbm:=aEF n l hl
  have hmm:=fun ps h v=>aDO hg (n:=n) hl ps h v
  have hml:=fun v=>eU n l hl v
  generalize hY:bP n l=Y at *
  refine W.k fun _ b_=>?_
  refine W.cw (iW hg) ?_
  refine W.cw hmp ?_
  refine W.cq hP0 ?_ (hpre:=fun w2 hs=>hr0.rd (Hc:=[]) hs)
  refine W.j fun b_=>?_
  rename_i g m4
  have hall0:∀ b∈bss,(fQ b).all fJ=false→kZ p b0 bss=none:=fun b hb h=>by
   rw [hmetaP,if_neg]
   rintro⟨h1,-⟩
   rw [fH.1 h1 b hb] at h
   cases h
  refine SW.block ?_
  refine bN [2,4,6,38,39] (fun x:Nat×Value×Hp=>[(8,x.2.1),(40,.int .i64 x.1)]) (fun x=>(q,cl (us++qj) 50)::(Hs++((g,cl (uL p t) 23)::(m4,cl (List.replicate 17 (.int .u64 0)++[.slice none 0 0]) 91)::(b_,cl Y 88)::x.2.2))) (fun x=>M-x.1) (fun x=>x.1≤M∧Sl 185 5 x.2.1 (dK (gJ (bss.take x.1))) x.2.2∧(bss.take x.1).all (fun b=>(fQ b).all fJ)=true) (0,.slice none 0 0,[]) ⟨Nat.zero_le _,Sl.nil _ _,rfl⟩ ?_
  rintro⟨i,sv,Hq⟩ ⟨hi,hS,hall⟩
  dsimp only at hi hS hall ⊢
  have hS1:=hS.isOne
  by_cases hin:i<M
  ·obtain⟨b,hbi⟩:∃ b,bss[i]?=some b:=⟨_,aA om⟩
   have hbm:=aP hbi
   have hb256:=h256 b (cW _ hbm)
   obtain⟨v,hv,hrv⟩:=hR.2 (i+1) b (by rw [nT];exact hbi)
   have hst:bss.take (i+1)=bss.take i++[b]:=by rw [aO,hbi];rfl
   have hrv':=hrv
   obtain⟨a1,l1,c1,rfl,hl1,hc1,hcase⟩:=hrv'
   rw [hb256] at hl1
   subst hl1
   obtain⟨bb,bo,lv1,T1,fz1,rfl,-,-⟩:=hcase.resolve_left dc
   have hcell:(us++qj)[1+i]?=some (.slice (some ⟨bb,bo,none⟩) 256 c1):=by rw [qJ,aN om];exact hv
   have hpp:=aJC b hb256 bb bo c1
   have hsl:=gM (gJ (bss.take i))
   rw [uN,aD] at hsl
   have hX:dK (gJ (bss.take (i+1)))=dK (gJ (bss.take i))++dK (fQ b):=by
    rw [hst,aA0,dK,bB,eW]
   have hol:=gM (fQ b)
   rw [qX] at hol
   cases hab:(fQ b).all fJ with
   | false=>
    rw [hab,if_neg dc,if_neg dc] at hpp
    have hno:=hall0 b hbm hab
    refine W.k ?_
    refine aL hpp ?_ (hpre:=fun w2 hs=>hrv.rd (Hc:=[]) hs)
    rintro _ Hp ⟨pv,rfl,hP⟩
    have hP1:=hP.isOne
    refine W.k ?_
    exact F.ct ((q,cl (us++qj) 50)::Hs) Z0 ⟨[],by rw [hno,← hZ0];exact⟨rfl,rfl⟩,rfl⟩
   | true=>
    rw [hab,if_pos rfl,if_pos rfl] at hpp
    refine W.k ?_
    refine aL hpp ?_ (hpre:=fun w2 hs=>hrv.rd (Hc:=[]) hs)
    rintro _ Hp ⟨pv,rfl,hP⟩
    have hP1:=hP.isOne
    obtain⟨pa,pl,pc,rfl,hpl⟩:=hP.form
    refine W.k ?_
    refine W.ap hS (fun w2 hs=>hP.srcAt hs inferInstance) (fun v2 H2 h2=>?_) (hys:=hpl) (hbytes:=by rw [hsl,hol];omega)
    have h21:=h2.isOne
    rw [← hX] at h2
    refine W.k ?_
    refine aT.mk (i+1,v2,H2) ?_
    exact⟨hin,h2,by dsimp only;rw [hst,gR,hall];simp [hab]⟩
  ·have hiM:i=M:=om
   subst hiM
   rw [aB om] at hS hall
   have hal:=uN bss
   rw [hlen] at hal
   rw [hall] at hmetaP
   generalize gJ bss=A at *
   have hAl:=gM A
   rcases hS with ⟨-,h,-⟩|⟨z,zl,zc,zj,rfl,hz1,hz2,hz3,rfl⟩
   ·exfalso
    rw [h] at hAl
    simp at hAl;omega
   have hzl:zl=16*i:=om
   subst hzl
   have hS':Sl 185 5 (.slice (some ⟨z,0,none⟩) (16*i) zc) (dK A) [(z,cl (dK A++zj) 185)]:=.inr ⟨z,16*i,zc,zj,rfl,hz1,hz2,hz3,rfl⟩
   have hy3:((dK A++zj).drop 0).take (p*5)=dK (A.take p):=by rw [bH,aQ om,zW]
   have htl:(A.take p).length=p:=by rw [aD];omega
   have hcl:=aJO (A.take p) om z 0 p zc
   have htc:=gM (A.take p)
   rw [htl] at htc
   refine W.k ?_
   have hbm':=hbm
   (refine SW.l [8] [0,1,2,3] ?_;refine dL 4 rfl (aJI rfl rfl rfl om) ?_;skip )
   refine fX 5 7 ?ca ?cb rfl rfl
   case' ca=>
    refine aL hcl ?_ (hpre:=fun w2 hs=>Rd.atH (T:=185) (fz:=(0,0)) (Hc:=[]) hs inferInstance hy3 htc om)
    intro v3 H3 h3
    have h31:=h3.isOne
    obtain⟨a3,l3,c3,rfl,hl3⟩:=h3.form
    have hbm3:=hbm a3 l3 c3
    refine cU ?_
    refine dL 6 rfl (mH rfl rfl hbm3) ?_
    refine aX 7 ?_
    refine W.al fun bm=>?_
    refine cU ?_
   case' cb=>
    refine W.al fun bm=>?_
    refine cU ?_
    refine aX 5 ?_
    refine aL hcl ?_ (hpre:=fun w2 hs=>Rd.atH (T:=185) (fz:=(0,0)) (Hc:=[]) hs inferInstance hy3 htc om)
    intro v3 H3 h3
    have h31:=h3.isOne
    obtain⟨a3,l3,c3,rfl,hl3⟩:=h3.form
    have hbm3:=hbm a3 l3 c3
    refine cU ?_
    refine dL 6 rfl (mH rfl rfl hbm3) ?_
   all_goals
    have hml3:=hml (.slice a3 l3 c3)
    have hmo:OC (bF n l (.slice a3 l3 c3)):=inferInstance
    refine cB 8 ?_
    refine W.i ?_
    refine eI ?_
    have hmy:=hmm (A.take p) om (.slice a3 l3 c3)
    have hM2:lI p n l (A.take p)=aCC p n (A.take p):=by rw [aBY,hok,Bool.and_true]
    cases hm2:aCC p n (A.take p) with
    | false=>
     rw [hm2] at hmy
     have hno:kZ p b0 bss=none:=by rw [hmetaP,if_neg (by rw [hM2,hm2];simp)]
     refine W.k ?_
     refine W.cw hmy ?_ (hpre:=fun w2 hs=>Rd.own (Hc:=[]) h3 hs inferInstance)
     exact F.ct ((q,cl (us++qj) 50)::Hs) Z0 ⟨[],by rw [hno,← hZ0];exact⟨rfl,rfl⟩,rfl⟩
    | true=>
     rw [hm2] at hmy
     have hoc:=fun v=>aBk (g:=82) (fs:=[]) (cs:=[]) (Hc:=[]) (β:=fun p=>decide (p≠.pl 0)) (A.drop p) (fun p _=>aLk p) (by rw [aK];omega) v
     have hdl:(A.drop p).length=A.length-p:=aK ..
     have hiff:=aLj (A.drop p)
     have heq:((dK A).drop (p*5)).take ((16*i-p)*5)=dK (A.drop p):=by rw [← aD5,aB (by rw [gM,aK];omega)]
     refine W.k ?_
     refine W.cw hmy ?_ (hpre:=fun w2 hs=>Rd.own (Hc:=[]) h3 hs inferInstance)
     refine W.sF (l:=p) ?_
     refine W.k ?_
     refine W.cq (hoc _) ?_ (hpre:=fun w2 hs=>heq▸(Rd.own (Hc:=[]) hS' hs inferInstance).cutN zc p (16*i) (zc-p) om (Nat.le_refl _) om om)
     cases hany:(A.drop p).any (fun p=>decide (p≠.pl 0)) with
     | true=>
      have hno:kZ p b0 bss=none:=by
       rw [hmetaP,if_neg]
       rintro⟨-,-,h⟩
       rw [hiff.2 (by rw [hdl];exact h)] at hany
       cases hany
      refine W.k ?_
      exact F.ct ((q,cl (us++qj) 50)::Hs) Z0 ⟨[],by rw [hno,← hZ0];exact⟨rfl,rfl⟩,rfl⟩
     | false=>
      have hyes:=hmetaP.trans (if_pos ⟨rfl,by rw [hM2,hm2],(hiff.1 hany).trans (by rw [hdl])⟩)
      refine W.k ?_
      exact F.ct (H3++((q,cl (us++qj) 50)::Hs)) (bF n l (.slice a3 l3 c3)) ⟨H3,by rw [hyes];exact⟨_,rfl,h3⟩,rfl⟩
end
end Go.Proofs.YtnigolgkkjidiaaGreat
