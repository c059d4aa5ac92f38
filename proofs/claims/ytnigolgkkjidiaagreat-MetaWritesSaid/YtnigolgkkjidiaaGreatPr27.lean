/- Whatever blocks are parsed: the law. -/
import Derived.Test.YtnigolgkkjidiaaGreatPr21
import Derived.Test.YtnigolgkkjidiaaGreatPr18
import Derived.Test.YtnigolgkkjidiaaGreatPr26
import Derived.Test.YtnigolgkkjidiaaGreatPr11
set_option linter.unusedVariables false
set_option linter.unusedSimpArgs false
set_option linter.unusedSectionVars false
set_option maxHeartbeats 8000000
namespace Go.Proofs.YtnigolgkkjidiaaGreat
open Go Go.Proofs.Tryz
section
attribute [local irreducible] SW SL SQ SH SA SS Pu Fin bZ aT
theorem aMJ(m:Int):∃ r:Nat,r≤255∧UAr .and .i64 m 255 (r:Int):=by
 refine⟨(BitVec.ofInt 64 m &&& BitVec.ofInt 64 255).toNat,?_,⟨fun P w t=>?_⟩⟩
 ·rw [lA]
  exact oU
 ·have hle:(BitVec.ofInt 64 m &&& BitVec.ofInt 64 255).toNat≤255:=by rw [lA];exact oU
  have hw:IntKind.i64.wrap (((BitVec.ofInt 64 m &&& BitVec.ofInt 64 255).toNat:Nat):Int)=(((BitVec.ofInt 64 m &&& BitVec.ofInt 64 255).toNat:Nat):Int):=w64 om
  simp only [binOp,Op.intBits,ne_eq,not_true_eq_false,if_false,Sem.run_pure]
  exact congrArg (fun z=>Result.ok (Value.int .i64 z) w) hw
theorem aOs(m:Int):∃ r:Nat,r≤7∧UAr .and .i64 m 7 (r:Int):=by
 refine⟨(BitVec.ofInt 64 m &&& BitVec.ofInt 64 7).toNat,?_,⟨fun P w t=>?_⟩⟩
 ·rw [lA]
  exact oU
 ·have hle:(BitVec.ofInt 64 m &&& BitVec.ofInt 64 7).toNat≤7:=by rw [lA];exact oU
  have hw:IntKind.i64.wrap (((BitVec.ofInt 64 m &&& BitVec.ofInt 64 7).toNat:Nat):Int)=(((BitVec.ofInt 64 m &&& BitVec.ofInt 64 7).toNat:Nat):Int):=w64 om
  simp only [binOp,Op.intBits,ne_eq,not_true_eq_false,if_false,Sem.run_pure]
  exact congrArg (fun z=>Result.ok (Value.int .i64 z) w) hw
theorem aF3{p:Nat}{b:List UInt8}{bss:List (List UInt8)}{n:Int}{l:List Int}{ps:List Pg}(h:kZ p b bss=some (n,l,ps)):l.length=16∧ps.length=p:=by
 unfold kZ at h
 cases hp:vZ b with
 | none=>rw [hp] at h;cases h
 | some x=>
  obtain⟨n',l'⟩:=x
  rw [hp] at h
  dsimp only at h
  by_cases hc:bss.all (fun b=>(fQ b).all fJ)=true∧(lI p n' l' ((gJ bss).take p)=true∧(gJ bss).drop p=zpg ((gJ bss).length-p))
  ·rw [if_pos hc] at h
   cases h
   have h2:=hc.2.1
   unfold lI at h2
   rw [bL] at h2
   exact⟨(aDJ hp).1,of_decide_eq_true h2.1⟩
  ·rw [if_neg hc] at h;cases h
theorem aFj(haw:Tri prog 29 [] [] (fun _=>True) (fun v H=>v=.bool true∧H=[]))
  (P T n:Int) (l:List Int) (hl:l.length=16) (hn:isU n) (hu:∀ h∈l,isU h) (ps:List Pg) (hser:∀ q∈ps,aAg q) (a:Option Addr) (len cap:Nat) (ks:List Int) (av:Value) (vs:List UInt8) (vv:Value) (less:Bool) (hkl:ks.length≤9223372036854775807) :
  Tri prog 6 [geV P T,.agg (bF n l (.slice a len cap)).toArray,av,vv,.bool less] [] (fun w=>Rd [] w 5 (.slice a len cap) (dK ps)∧Rd [] w 1 av (ks.map fun k:Int=>(.int .i64 k:Value))∧Rd [] w 1 vv (cbs vs)) (fun v H=>v=.bool true):=by
 refine Tri.mk func6 rfl ntmps6 rfl fun w hw=>?_
 obtain⟨hp,hk,hv⟩:=hw
 have hk1:=hk.isOne
 have hv1:=hv.isOne
 have f1:=eU n l hl (.slice a len cap)
 have o1:OC (bF n l (.slice a len cap)):=inferInstance
 by_cases hg:GoK P T
 ·obtain⟨p,t,rfl,rfl,hG⟩:=aGR hg
  obtain⟨g1,g2,g3,g4⟩:=id hG
  have hup:=@yV p
  have hc:=aGU hG n l hl ps a len cap
  have hfs:=aC2 (p:=p) hser
  have hfl:=aC1 p ps
  generalize aBM p ps=qs at *
  have hql:=gM qs
  rw [hfl] at hql
  have hm18:=fun v=>eU n l hl v
  have hBl:=aDa p n l qs
  have hB6:=@aC9 p n l qs
  have hrB:=fun z zc=>xS hG hl hu hn qs hfl hfs (kb:=z) (ko:=0) (cap:=zc)
  generalize vA p n l qs=bss0 at *
  generalize hM:Gm.up p 16=M at *
  generalize bF n l (.slice a len cap)=X at *
  obtain⟨a1,l1,c1,rfl,hl1,hc1,hr1⟩:=hk.get
  obtain⟨a2,l2,c2,rfl,hl2,hc2,hr2⟩:=hv.get
  rw [aE,Nat.mul_one] at hl1
  rw [aI,Nat.mul_one] at hl2
  subst hl1 hl2
  refine W.k fun _ b_=>?_
  rename_i bg
  refine aL hc ?_ (hpre:=fun w2 hs=>hp.ro (Hc:=[]) hs)
  rintro _ H1 ⟨pv,rfl,hS⟩
  obtain⟨z,zl,zc,zj,rfl,hz1,hz2,hz3,rfl⟩:=hS.some om
  have hzl:p=zl:=om
  subst hzl
  have hS2:Sl 177 5 (.slice (some ⟨z,0,none⟩) p zc) (dK qs) [(z,cl (dK qs++zj) 177)]:=Sl.mk hz1 om hz3
  have f2:=hm18 (.slice (some ⟨z,0,none⟩) p zc)
  have o2:OC (bF n l (.slice (some ⟨z,0,none⟩) p zc)):=inferInstance
  have hrB:=hrB z zc
  generalize bF n l (.slice (some ⟨z,0,none⟩) p zc)=X2 at *
  refine W.k ?_
  refine W.cw (oM hG) ?_
  refine aL hrB ?_ (hpre:=fun w2 hs=>Rd.own (Hc:=[]) hS2 hs inferInstance)
  rintro bv _ ⟨us,Hb,Hs,hbS,hR,rfl⟩
  have hus:us.length=1+M:=by rw [hR.1,hBl]
  obtain⟨q,ql,qc,qj,rfl,hq1,hq2,hq3,rfl⟩:=hbS.some om
  have hqM:1+M=ql:=om
  subst hqM
  refine W.j ?_
  refine SW.block ?_
  refine bN [3,4,5,13,43,44] (fun x:Nat×List Value×Hp×List (List UInt8)=>[(45,.int .i64 x.1)]) (fun x=>(q,cl (x.2.1++qj) 50)::x.2.2.1) (fun x=>ks.length-x.1) (fun x=>x.1≤ks.length∧RB x.2.2.1 x.2.1 x.2.2.2∧x.2.2.2.length=1+M∧∀ b∈x.2.2.2,b.length=256) (0,us,Hs,bss0) ⟨Nat.zero_le _,hR,hBl,hB6⟩ ?_
  clear hR hus hB6 hBl
  rintro⟨i,us,Hs,bss⟩ ⟨hi,hR,hbl,hb6⟩
  dsimp only at hi hR hbl hb6 ⊢
  have hus:us.length=1+M:=by rw [hR.1,hbl]
  by_cases hin:i<ks.length
  ·obtain⟨k,hki⟩:∃ k,ks[i]?=some k:=⟨_,aA hin⟩
   obtain⟨b1,o1,la,T1,fz1,rfl,hb1,hk1',hy1⟩:=hr1 om
   have hci:la[o1+i]?=some (.int .i64 k):=by
    have:((la.drop o1).take (ks.length*1))[i]?=(ks.map fun k:Int=>(.int .i64 k:Value))[i]?:=by rw [hy1]
    rw [bI,if_pos om,bD] at this
    rw [this,aH,hki];rfl
   by_cases h6:i<6
   ·by_cases hiv:i<vs.length
    ·obtain⟨x,hx⟩:∃ x,vs[i]?=some x:=⟨_,aA hiv⟩
     obtain⟨b2,o2',lb,T2,fz2,rfl,hb2,hk2',hy2⟩:=hr2 om
     have hcx:=sO hy2 hx
     obtain⟨r0,ir0⟩:∃ r,aFK .i64 k 8 r:=⟨_,⟨by decide,rfl⟩⟩
     obtain⟨r1,hr17,ir1⟩:=aOs r0
     obtain⟨r2,hr25,ir2⟩:=aMJ k
     obtain⟨j,hj,hjM⟩:∃ j,j=r1%(1+M)∧j<1+M:=⟨_,rfl,Nat.mod_lt _ om⟩
     have ij:eG ((r1:Int)%((1+M:Nat):Int)) j:=⟨by rw [hj];first|exact (Int.natCast_emod _ _).symm|exact (Int.ofNat_emod _ _).symm|rfl⟩
     obtain⟨b,hbj⟩:∃ b,bss[j]?=some b:=⟨_,aA om⟩
     have hb256:=hb6 b (aP hbj)
     obtain⟨v,hvj,hrv⟩:=hR.2 j b hbj
     have hrv1:=hrv.one
     have hcell:(us++qj)[j]?=some v:=by rw [aN om];exact hvj
     obtain⟨a3,l3,c3,rfl,hl3,-⟩:=id hrv
     rw [hb256] at hl3
     subst hl3
     refine W.k fun b_=>?_
     have h0:Sl 5 1 (.slice (some ⟨b_,0,none⟩) 0 0) [] [(b_,cl ([]:List Value) 5)]:=Sl.mk (xs:=[]) (junk:=[]) (len:=0) (cap:=0) rfl rfl (Nat.le_refl _)
     refine W.ap h0 (fun w2 hs=>(hrv.rd (Hc:=[]) hs).srcW) (fun v3 H3 h3=>?_) (hys:=by rw [aI,hb256]) (hbytes:=by rw [aI,hb256];simp)
     rw [List.nil_append] at h3
     obtain⟨c,cl',cc,cj,rfl,hz1',hz2',hz3',rfl⟩:=h3.some (by rw [aI];omega)
     have hc256:cl'=256:=by rw [aI] at hz1';omega
     subst hc256
     have hlt2:r2<(cbs b++cj).length:=by rw [aC,aI];omega
     have hltj:j<(us++qj).length:=by rw [aC];omega
     have hset1:=aEJ (xs:=b) (i:=r2) om x cj
     have hset2:(us++qj).set j (.slice (some ⟨c,0,none⟩) 256 cc)=us.set j (.slice (some ⟨c,0,none⟩) 256 cc)++qj:=fN _ _ om
     refine W.k ?_
     rw [hset1,hset2]
     have hSc:Sl 5 1 (.slice (some ⟨c,0,none⟩) 256 cc) (cbs (b.set r2 x)) [(c,cl (cbs (b.set r2 x)++cj) 5)]:=Sl.mk (by rw [aI,cP];omega) (by rw [aI] at hz2';omega) hz3'
     refine aT.mk (i+1,us.set j (.slice (some ⟨c,0,none⟩) 256 cc),Hs++[(c,cl (cbs (b.set r2 x)++cj) 5)],bss.set j (b.set r2 x)) ?_
     refine⟨hin,?_,by dsimp only;rw [cP];exact hbl,fun b' hb'=>?_⟩
     ·exact RB.set (hR.mono fun y hy=>bA _ hy) ((RdH.of hSc).mono fun y hy=>aV _ hy) j
     ·rcases iV hb' with h|rfl
      ·exact hb6 b' h
      ·rw [cP];exact hb256
    ·refine W.k ?_
     refine aT.mk (i+1,us,Hs,bss) ?_
     exact⟨hin,hR,hbl,hb6⟩
   ·refine W.k ?_
    refine aT.mk (i+1,us,Hs,bss) ?_
    exact⟨hin,hR,hbl,hb6⟩
  ·have:i=ks.length:=om
   subst this
   clear hin hi hr1 hr2 hk hv
   obtain⟨b0,bs,rfl⟩:∃ b0 bs,bss=b0::bs:=by
    cases bss with
    | nil=>simp at hbl;omega
    | cons b0 bs=>exact⟨b0,bs,rfl⟩
   have hbsM:bs.length=Gm.up p 16:=by rw [hM];simp at hbl;omega
   have hbS:Sl 50 1 (.slice (some ⟨q,0,none⟩) (1+M) qc) us [(q,cl (us++qj) 50)]:=Sl.mk om om hq3
   have hPm:=aBW hG hbS b0 bs hR hbsM hb6
   have hPr:=aD7 hG hbS b0 bs hR hbsM hb6
   have hm0:(bF 0 z16 (.slice none 0 0)).length=18:=rfl
   have ho0:OC (bF 0 z16 (.slice none 0 0)):=inferInstance
   cases less with
   | true=>
    have hPf:=aF0 hG (a:=some ⟨q,1,none⟩) (len:=1+M-1) (cap:=qc-1) (by rw [hM];omega)
    refine W.k ?_
    (refine SW.l [] [0,1] ?_;refine dL 2 rfl (aB3 rfl rfl rfl om om om) ?_;skip )
    refine fX 3 7 ?ca ?cb rfl rfl
    case' ca=>
     refine W.cq hPf ?_
     refine cU ?_
     refine SS.T 4 rfl ?_
     refine SS.T 5 rfl ?_
     refine SS.T 6 rfl ?_
     refine aX 7 ?_
     refine W.al fun bm=>?_
     refine cU ?_
    case' cb=>
     refine W.al fun bm=>?_
     refine cU ?_
     refine aX 3 ?_
     refine W.cq hPf ?_
     refine cU ?_
     refine SS.T 4 rfl ?_
     refine SS.T 5 rfl ?_
     refine SS.T 6 rfl ?_
    all_goals
     refine aX 8 ?_
     refine W.i ?_
     refine SS.T 9 rfl ?_
     refine eI ?_
     refine W.k ?_
     refine W.cw haw ?_
     refine Fin.to [] ?_
     exact F.f1 rfl
   | false=>
    cases hmp:kZ p b0 bs with
    | none=>
     rw [hmp] at hPm hPr
     refine W.k ?_
     refine aL hPm ?_
     rintro _ _ ⟨Hn,⟨rfl,rfl⟩,rfl⟩
     refine W.k fun b_=>?_
     refine aL hPr ?_
     rintro _ _ ⟨Hr,⟨n',l',pv',hl',hpv',rfl⟩,rfl⟩
     have hm1:=eU n' l' hl' pv'
     have ho1:OC (bF n' l' pv'):=inferInstance
     refine W.k fun b_=>?_
     refine aL (zO 0 z16 rfl [] (.slice none 0 0) dc) ?_ (hpre:=fun w2 hs=>Rd.nil _ w2 5)
     rintro _ HP ⟨qv,rfl,hq⟩
     have hq1:=hq.isOne
     have hbz:=bM0
     have hm2:=eU 0 z16 rfl qv
     have ho2:OC (bF 0 z16 qv):=inferInstance
     refine W.k ?_
     refine W.cq (aBn 0 0 z16 z16 rfl rfl [] [] qv (.slice none 0 0) dc) ?_ (hpre:=fun w2 hs=>⟨Rd.own (Hc:=[]) hq hs inferInstance,Rd.nil _ w2 5⟩)
     rw [decide_eq_true (show (0:Int)=0∧z16=z16∧([]:List Pg)=[] from ⟨rfl,rfl,rfl⟩)]
     refine W.k ?_
     refine W.cw haw ?_
     refine Fin.to [] ?_
     exact F.f1 rfl
    | some y=>
     obtain⟨n2,l2,ps2⟩:=y
     obtain⟨hl2,hp2⟩:=aF3 hmp
     rw [hmp] at hPm hPr
     refine W.k ?_
     refine aL hPm ?_
     rintro _ _ ⟨Hn,⟨pv,rfl,hS1⟩,rfl⟩
     have hS11:=hS1.isOne
     have hm1:=eU n2 l2 hl2 pv
     have ho1:OC (bF n2 l2 pv):=inferInstance
     refine W.k fun b_=>?_
     refine aL hPr ?_
     rintro _ _ ⟨Hr,⟨pw,rfl,hS2⟩,rfl⟩
     have hS21:=hS2.isOne
     have hm2:=eU n2 l2 hl2 pw
     have ho2:OC (bF n2 l2 pw):=inferInstance
     dsimp only at hS1 hS2 hm1 hm2
     have hpl:=zO n2 l2 hl2 ps2 pv om
     refine W.k fun b_=>?_
     (refine SW.l [6,9] [0,1,2,3,5] ?_;(first|refine cI 4 rfl ?_;(first|refine cI 6 rfl ?_;refine SG.l [7,8] ?_;(first|refine cI 9 rfl ?_;refine SG.l [10,11,12] ?_|refine cB 9 ?_)|refine cB 6 ?_)|refine aX 4 ?_))
     refine aL hpl ?_ (hpre:=fun w2 hs=>Rd.own (Hc:=[]) hS1 hs inferInstance)
     rintro _ HP ⟨qv,rfl,hq⟩
     have hq1:=hq.isOne
     (refine bO [] ?_;(first|refine cI 6 rfl ?_;refine SG.l [7,8] ?_;(first|refine cI 9 rfl ?_;refine SG.l [10,11,12] ?_|refine cB 9 ?_)|refine cB 6 ?_))
     refine W.cq (aBn n2 n2 l2 l2 hl2 hl2 ps2 ps2 qv pw om) ?_ (hpre:=fun w2 hs=>⟨Rd.own (Hc:=[]) hq hs inferInstance,Rd.own (Hc:=[]) hS2 hs inferInstance⟩)
     rw [decide_eq_true (show n2=n2∧l2=l2∧ps2=ps2 from ⟨rfl,rfl,rfl⟩)]
     (refine SL.l [7,8] ?_;(first|refine cI 9 rfl ?_;refine SG.l [10,11,12] ?_|refine cB 9 ?_))
     refine W.cq haw ?_
     (refine SL.l [10,11,12] ?_)
     refine W.k ?_
     refine Fin.to [] ?_
     exact F.f1 rfl
 ·have hc:=aGV (full:=true) (tU hg) rfl n l hl ps a len cap
  have f2:=eU n l hl (.slice a (min 70 len) cap)
  have o2:OC (bF n l (.slice a (min 70 len) cap)):=inferInstance
  have hP:=aFZ hg (v:=.slice none 0 0)
  have hb0:(bF 0 z16 (.slice none 0 0)).length=18:=rfl
  have ho0:OC (bF 0 z16 (.slice none 0 0)):=inferInstance
  generalize bF n l (.slice a len cap)=X at *
  generalize bF n l (.slice a (min 70 len) cap)=X2 at *
  generalize bF 0 z16 (.slice none 0 0)=Z0 at *
  refine W.k fun _ b_=>?_
  refine W.cw hc ?_ (hpre:=fun w2 hs=>hp.ro (Hc:=[]) hs)
  refine W.cw (tU hg) ?_
  refine W.cw hP ?_;intro b_
  refine W.cw haw ?_
  refine Fin.to [] ?_
  exact F.f1 rfl
end
end Go.Proofs.YtnigolgkkjidiaaGreat
