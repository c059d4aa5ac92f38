/- Blocks are parsed: the document's. -/
import Derived.Test.YtnigolgkkjidiaaGreatPr20
import Derived.Test.YtnigolgkkjidiaaGreatPr14
set_option linter.unusedVariables false
set_option linter.unusedSimpArgs false
set_option linter.unusedSectionVars false
set_option maxHeartbeats 8000000
namespace Go.Proofs.YtnigolgkkjidiaaGreat
open Go Go.Proofs.Tryz
section
attribute [local irreducible] SW SL SQ SH SA SS Pu Fin bZ aT
theorem bMr(n:Int)(l:List Int)(hl:l.length=16):bQ (fun i=>[(0,17),(17,1)][i]?) (List.replicate 17 (.int .u64 0)++[.slice none 0 0]) [(0,.agg (bP n l).toArray)]=some (bF n l (.slice none 0 0)):=by
 match l,hl with
 | [_,_,_,_,_,_,_,_,_,_,_,_,_,_,_,_],_=>rfl
def aMx(o:Option (Int×List Int×List Pg))(r:Value)(H:Hp):Prop:=match o with
 | none=>∃ n l pv,l.length=16∧One pv∧r=.tuple #[.agg (bF n l pv).toArray,.bool false]
 | some x=>∃ pv,r=.tuple #[.agg (bF x.1 x.2.1 pv).toArray,.bool true]∧Sl 177 5 pv (dK x.2.2) H
theorem aD7{p t:Nat}(hg:Gm.Ok p t){bv:Value}{us:List Value}{Hb Hs:Hp}(hb:Sl 50 1 bv us Hb)(b0:List UInt8)(bss:List (List UInt8))(hR:RB Hs us (b0::bss))(hlen:bss.length=Gm.up p 16)(h256:∀ b∈b0::bss,b.length=256) :
  Tri prog 31 [iX p t,bv] (Hb++Hs) (fun _=>True) (fun r H=>∃ Hn,aMx (kZ p b0 bss) r Hn∧H=Hn++(Hb++Hs)):=by
 obtain⟨g1,g2,g3,g4⟩:=id hg
 have hup:=@yV p
 generalize hM:Gm.up p 16=M at *
 rcases hb with ⟨-,h,-⟩|⟨q,ql,qc,qj,rfl,hq1,hq2,hq3,rfl⟩
 ·exfalso
  have:=hR.1
  rw [h] at this
  cases this
 have hul:us.length=1+M:=by rw [hR.1,aW,hlen];omega
 have hql:ql=1+M:=om
 subst hql
 obtain⟨v0,hv0,hr0⟩:=hR.2 0 b0 rfl
 have hus0:(us++qj)[0]?=some v0:=by rw [aN om];exact hv0
 have hv01:=hr0.one
 have hP0:=aH6 b0 (h256 b0 (by simp)) hr0
 have hpin:∀ n l,vZ b0=some (n,l)→l.length=16∧isU n∧(∀ h∈l,isU h)∧rOk n l=true:=fun n l h=>aDJ h
 have hmetaP:kZ p b0 bss=match vZ b0 with
  | none=>none
  | some (n,l)=>if bss.all (fun b=>(fQ b).all fJ)=true∧(lI p n l ((gJ bss).take p)=true∧(gJ bss).drop p=zpg ((gJ bss).length-p)) then some (n,l,(gJ bss).take p) else none:=rfl
 refine Tri.mk func31 rfl ntmps31 rfl fun w hw=>?_
 have hb0:=bM0
 have hl0:(bF 0 z16 (.slice none 0 0)).length=18:=rfl
 have ho0:OC (bF 0 z16 (.slice none 0 0)):=inferInstance
 have hz0:(bP 0 z16).length=17:=rfl
 have hzo:OC (bP 0 z16):=inferInstance
 generalize hZ0:bF 0 z16 (.slice none 0 0)=Z0 at *
 cases hp:vZ b0 with
 | none=>
  rw [hp] at hP0 hmetaP
  dsimp only at hP0 hmetaP
  generalize bP 0 z16=Y0 at *
  refine W.k fun _ b_=>?_
  refine W.cw hP0 ?_;intro b_
  exact F.ct ((q,cl (us++qj) 50)::Hs) Z0 ⟨[],by rw [hmetaP];exact⟨0,z16,.slice none 0 0,rfl,⟨rfl⟩,by rw [← hZ0]⟩,rfl⟩
 | some x=>
  obtain⟨n,l⟩:=x
  obtain⟨hl,hn,hu,hok⟩:=hpin n l hp
  rw [hp] at hP0 hmetaP
  dsimp only at hP0 hmetaP
  have hrl:(bP n l).length=17:=by rw [bU,hl]
  have hro:OC (bP n l):=inferInstance
  have hbm:=bMr n l hl
  have hmm:=fun ps h v=>yQ hg hl hu hn.1 ps h v
  have hml:=fun v=>eU n l hl v
  have hmn:=hml (.slice none 0 0)
  have hmno:OC (bF n l (.slice none 0 0)):=inferInstance
  generalize hY:bP n l=Y at *
  refine W.k fun _ b_=>?_
  refine W.cq hP0 ?_
  refine W.j fun _ b_=>?_
  rename_i g m4 r6
  obtain⟨b8,hb8⟩:∃ b8,b8=b_:=⟨_,rfl⟩
  subst hb8
  have hall0:∀ b∈bss,(fQ b).all fJ=false→kZ p b0 bss=none:=fun b hb h=>by
   rw [hmetaP,if_neg]
   rintro⟨h1,-⟩
   rw [fH.1 h1 b hb] at h
   cases h
  have hst17:=fun v u=>aBX n l hl v u
  have h17:=fun v=>pM n l hl v
  refine SW.block ?_
  refine bN [2,4,8,28,29] (fun x:Nat×Value×Hp=>[(30,.int .i64 x.1)]) (fun x=>(q,cl (us++qj) 50)::(Hs++((g,cl (uL p t) 23)::(m4,cl (List.replicate 17 (.int .u64 0)++[.slice none 0 0]) 82)::(b8,cl (bF n l x.2.1) 82)::x.2.2))) (fun x=>M-x.1) (fun x=>x.1≤M∧Sl 177 5 x.2.1 (dK (gJ (bss.take x.1))) x.2.2∧(bss.take x.1).all (fun b=>(fQ b).all fJ)=true) (0,.slice none 0 0,[]) ⟨Nat.zero_le _,Sl.nil _ _,rfl⟩ ?_
  rintro⟨i,sv,Hq⟩ ⟨hi,hS,hall⟩
  dsimp only at hi hS hall ⊢
  have hS1:=hS.isOne
  have hm1:=hml sv
  have hm2:OC (bF n l sv):=inferInstance
  have hm3:=h17 sv
  by_cases hin:i<M
  ·obtain⟨b,hbi⟩:∃ b,bss[i]?=some b:=⟨_,aA om⟩
   have hbm2:=aP hbi
   have hb256:=h256 b (cW _ hbm2)
   obtain⟨v,hv,hrv⟩:=hR.2 (i+1) b (by rw [nT];exact hbi)
   have hst:bss.take (i+1)=bss.take i++[b]:=by rw [aO,hbi];rfl
   have hrv':=hrv
   obtain⟨a1,l1,c1,rfl,hl1,hc1,hcase⟩:=hrv'
   rw [hb256] at hl1
   subst hl1
   have hcell:(us++qj)[1+i]?=some (.slice a1 256 c1):=by rw [qJ,aN om];exact hv
   have hpp:=aGe b hb256 (.slice a1 256 c1)
   have hsl:=gM (gJ (bss.take i))
   rw [uN,aD] at hsl
   have hX:dK (gJ (bss.take (i+1)))=dK (gJ (bss.take i))++dK (fQ b):=by
    rw [hst,aA0,dK,bB,eW]
   have hol:=gM (fQ b)
   rw [qX] at hol
   cases hab:(fQ b).all fJ with
   | false=>
    rw [hab,if_neg dc] at hpp
    have hno:=hall0 b hbm2 hab
    refine W.k ?_
    refine aL hpp ?_ (hpre:=fun w2 hs=>hrv.rd (Hc:=[]) hs)
    rintro _ Hp ⟨pv,rfl,hP⟩
    have hP1:=hP.isOne
    refine W.k ?_
    exact F.ct ((q,cl (us++qj) 50)::Hs) Z0 ⟨[],by rw [hno];exact⟨0,z16,.slice none 0 0,rfl,⟨rfl⟩,by rw [← hZ0]⟩,rfl⟩
   | true=>
    rw [hab,if_pos rfl] at hpp
    have hlt:17<(bF n l sv).length:=by rw [hm1];decide
    generalize hZ:bF n l sv=Z at *
    refine W.k ?_
    refine aL hpp ?_ (hpre:=fun w2 hs=>hrv.rd (Hc:=[]) hs)
    rintro _ Hp ⟨pv,rfl,hP⟩
    have hP1:=hP.isOne
    obtain⟨pa,pl,pc,rfl,hpl⟩:=hP.form
    refine W.k ?_
    refine W.ap hS (fun w2 hs=>hP.srcAt hs inferInstance) (fun v2 H2 h2=>?_) (hys:=hpl) (hbytes:=by rw [hsl,hol];omega)
    have h21:=h2.isOne
    rw [← hX] at h2
    refine W.k ?_
    rw [← hZ,hst17]
    refine aT.mk (i+1,v2,H2) ?_
    exact⟨hin,h2,by dsimp only;rw [hst,gR,hall];simp [hab]⟩
  ·have hiM:i=M:=om
   subst hiM
   rw [aB om] at hS hall
   have hal:=uN bss
   rw [hlen] at hal
   rw [hall] at hmetaP
   generalize gJ bss=A at *
   have hAl:=gM A
   rcases hS with ⟨-,h,-⟩|⟨z,zl,zc,zj,rfl,hz1,hz2,hz3,rfl⟩
   ·exfalso
    rw [h] at hAl
    simp at hAl;omega
   have hzl:zl=16*i:=om
   subst hzl
   have hy3:((dK A++zj).drop 0).take (p*5)=dK (A.take p):=by rw [bH,aQ om,zW]
   have htl:(A.take p).length=p:=by rw [aD];omega
   have htc:=gM (A.take p)
   rw [htl] at htc
   obtain⟨ad,had⟩:∃ ad,ad=lJ (some ⟨z,0,none⟩) zc p 5:=⟨_,rfl⟩
   have hm1':=hml (.slice (some ⟨z,0,none⟩) p zc)
   have hm2':OC (bF n l (.slice (some ⟨z,0,none⟩) p zc)):=inferInstance
   have hs17:=hst17 (.slice (some ⟨z,0,none⟩) (16*i) zc) (.slice (some ⟨z,0,none⟩) p zc)
   have hlt:17<(bF n l (.slice (some ⟨z,0,none⟩) (16*i) zc)).length:=by rw [hm1];decide
   generalize bF n l (.slice (some ⟨z,0,none⟩) (16*i) zc)=Z at *
   refine W.j ?_
   refine W.sF (l:=p) ?_
   rw [← had]
   refine W.j ?_
   refine SW.block ?_
   refine bV [2,4,8,56,57] [] (fun k:Nat=>[(58,.int .i64 k)]) (fun _=>[]) (fun k=>16*i-p-k) (fun k=>k≤16*i-p∧∀ j,j<k→A[p+j]?=some (.pl 0)) 0 ⟨Nat.zero_le _,fun j hj=>absurd hj (jL _)⟩ ?_
   rintro k ⟨hk,hkz⟩
   by_cases hkn:k<16*i-p
   ·have had2:ad=some ⟨z,p*5,none⟩:=by
     rw [had];unfold lJ;rw [if_neg om];simp [Addr.add]
     try omega
    clear had
    subst had2
    obtain⟨qp,hqp⟩:∃ qp,A[p+k]?=some qp:=⟨_,aA om⟩
    have hrow:((dK A++zj).drop (p*5+k*5)).take 5=pgC qp:=by
     rw [show p*5+k*5=(p+k)*5 by omega,bW om,aQ (by rw [aK];omega)]
     exact nB (n:=5) (fun x hx=>by obtain⟨y,-,rfl⟩:=bG.1 hx;exact dW y) (by rw [aH,hqp];rfl)
    have hpl:=dW qp
    have hpo:OC (pgC qp):=inferInstance
    have hqq:=gB qp
    have hb5:bQ (fun i=>[(0,1),(1,1),(2,1),(3,1),(4,1)][i]?) ([.int .i64 0]++[.int .i64 0]++[.int .i64 0]++[.int .i64 0]++[.int .u64 0]) []=some (pgC (.pl 0)):=rfl
    by_cases he:qp=.pl 0
    ·have hee:pgC qp=pgC (.pl 0):=by rw [he]
     generalize pgC qp=X at *
     refine W.k fun b_=>?_
     refine bJ (wZ rfl rfl rfl hqq (gB (.pl 0)) hee) rfl rfl ?_
     refine W.k ?_
     refine aT.mk (k+1) ?_
     refine⟨hkn,fun j hj=>?_⟩
     by_cases hjk:j=k
     ·rw [hjk,hqp,he]
     ·exact hkz j om
    ·have hee:pgC qp≠pgC (.pl 0):=fun hh=>he (oK hh)
     have hno:kZ p b0 bss=none:=by
      rw [hmetaP,if_neg]
      rintro⟨-,-,h⟩
      have h1:(A.drop p)[k]?=some qp:=by rw [bD];exact hqp
      rw [h] at h1
      exact he (fT (aP h1))
     generalize pgC qp=X at *
     refine W.k fun b_=>?_
     refine bJ (zT rfl rfl rfl hqq (gB (.pl 0)) hee) rfl rfl ?_
     refine W.k ?_
     exact F.ct ((q,cl (us++qj) 50)::Hs) Z0 ⟨[],by rw [hno];exact⟨0,z16,.slice none 0 0,rfl,⟨rfl⟩,by rw [← hZ0]⟩,rfl⟩
   ·have hk2:k=16*i-p:=om
    subst hk2
    have hdrop:A.drop p=zpg (A.length-p):=by
     apply cM
     intro j
     by_cases hj:j<16*i-p
     ·rw [bD,hkz j hj,zpg,gX,if_pos om]
     ·rw [aY (by rw [aK];omega),zpg,aY (by rw [aM];omega)]
    have hmy:=hmm (A.take p) om (.slice (some ⟨z,0,none⟩) p zc)
    generalize hZ2:bF n l (.slice (some ⟨z,0,none⟩) p zc)=Z2 at *
    refine W.k ?_
    rw [hs17]
    (refine SW.l [4] [0,1,2] ?_;refine aX 3 ?_)
    refine W.cq hmy ?_ (hpre:=fun w2 hs=>Rd.atH (T:=177) (fz:=(0,0)) (Hc:=[]) hs inferInstance hy3 htc om)
    (refine bO [] ?_;refine cB 4 ?_;refine W.i ?_;refine SG.l [5,6] ?_)
    cases hmk:lI p n l (A.take p) with
    | false=>
     have hno:kZ p b0 bss=none:=by rw [hmetaP,if_neg (by rw [hmk];simp)]
     refine W.k ?_
     exact F.ct ((q,cl (us++qj) 50)::Hs) Z2 ⟨[],by rw [hno];exact⟨n,l,_,hl,⟨rfl⟩,by rw [hZ2]⟩,rfl⟩
    | true=>
     have hyes:=hmetaP.trans (if_pos ⟨rfl,hmk,hdrop⟩)
     have hSl:Sl 177 5 (.slice (some ⟨z,0,none⟩) p zc) (dK (A.take p)) [(z,cl (dK A++zj) 177)]:=.inr ⟨z,p,zc,dK (A.drop p)++zj,rfl,htc,by rw [aC,gM,aK];omega,by omega,by rw [← bE,zW,aD5,bY]⟩
     refine W.k ?_
     exact F.ct ([(z,cl (dK A++zj) 177)]++((q,cl (us++qj) 50)::Hs)) Z2 ⟨_,by rw [hyes];exact⟨_,by rw [hZ2],hSl⟩,rfl⟩
end
end Go.Proofs.YtnigolgkkjidiaaGreat
