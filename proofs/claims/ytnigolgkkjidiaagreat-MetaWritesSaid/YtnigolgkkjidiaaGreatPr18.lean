/- Metas: which may be, and their blocks: the document's. -/
import Derived.Test.YtnigolgkkjidiaaGreatPr16
import Derived.Test.YtnigolgkkjidiaaGreatPr17
import Derived.Test.YtnigolgkkjidiaaGreatPr8
set_option linter.unusedVariables false
set_option linter.unusedSimpArgs false
set_option linter.unusedSectionVars false
set_option maxHeartbeats 4000000
namespace Go.Proofs.YtnigolgkkjidiaaGreat
open Go Go.Proofs.Tryz
section
attribute [local irreducible] SW SL SQ SH SA SS Pu Fin bZ aT
theorem zW(ps:List Pg)(m:Nat):dK (ps.take m)=(dK ps).take (m*5):=by
 rw [dK,jR,dK]
 exact (yI (n:=5) (fun x hx=>by obtain⟨y,-,rfl⟩:=bG.1 hx;exact dW y) m).symm
theorem aD5(ps:List Pg)(m:Nat):dK (ps.drop m)=(dK ps).drop (m*5):=by
 rw [dK,jQ,dK]
 exact (uG (n:=5) (fun x hx=>by obtain⟨y,-,rfl⟩:=bG.1 hx;exact dW y) m).symm
theorem Rd.subP{K:List Nat}{w:World}{b o len cap:Nat}{ps:List Pg}(i j cap':Nat)(h:Rd K w 5 (.slice (some ⟨b,o,none⟩) len cap) (dK ps))(hij:i≤j)(hj:j≤len)(hc:j-i≤cap'):Rd K w 5 (.slice (some ⟨b,o+i*5,none⟩) (j-i) cap') (dK ((ps.drop i).take (j-i))):=by
 obtain⟨a',len',cap'',he,h2,h3,h4⟩:=h
 cases he
 have hl:ps.length=len:=by rw [gM] at h2;omega
 refine⟨_,_,_,rfl,by rw [gM,aD,aK,hl,dB om],hc,?_⟩
 rcases h4 with h4|⟨b',o',l,T,fz,ha,hb,hk,hy⟩
 ·exact .inl om
 ·cases ha
  refine .inr ⟨b,o+i*5,l,T,fz,rfl,hb,hk,?_⟩
  rw [zW,aD5,← hy,jX,fS,bR,dB om]
theorem yQ{p t:Nat}(hg:Gm.Ok p t){n:Int}{l:List Int}(hl:l.length=16)(hu:∀ h∈l,isU h)(hn:0≤n)(ps:List Pg)(hps:ps.length≤1000000)(pv:Value):Tri prog 36 [iX p t,.agg (bF n l pv).toArray] [] (fun w=>Rd [] w 5 pv (dK ps)) (fun v H=>v=.bool (lI p n l ps)∧H=[]):=by
 refine Tri.mk func36 rfl ntmps36 rfl fun w hw=>?_
 have hw2:=hw
 have hL:∀ y∈ps.map pgC,y.length=5:=fun y hy=>by
  obtain⟨x,hx,rfl⟩:=bG.1 hy
  exact dW x
 obtain⟨a,cap,rfl,hcap,hgt⟩:=hw.rows dc hL
 rw [aE] at hcap hw2 ⊢
 have hml:=eU n l hl (.slice a ps.length cap)
 have hmo:OC (bF n l (.slice a ps.length cap)):=inferInstance
 have h0:(bF n l (.slice a ps.length cap))[0]?=some (.int .u64 n):=rfl
 have h17:=pM n l hl (.slice a ps.length cap)
 have hrr:=aBg n l hl (.slice a ps.length cap)
 have hrl:(bP n l).length=17:=by rw [bU,hl]
 have hro:OC (bP n l):=inferInstance
 have hR:=aFh (n:=n) hl hu hn
 have hM:=aNI ps hps (.slice a ps.length cap)
 generalize bF n l (.slice a ps.length cap)=Z at *
 generalize bP n l=Y at *
 unfold lI
 by_cases hlen:ps.length=p
 ·rw [decide_eq_true hlen,dZ]
  cases hrr:rOk n l with
  | false=>
   rw [hrr] at hR
   refine W.k fun _ b_=>?_
   refine W.cw (oM hg) ?_
   refine W.cw hR ?_
   exact F.n
  | true=>
   rw [hrr] at hR
   cases hok:vH ps with
   | false=>
    rw [hok] at hM
    refine W.k fun _ b_=>?_
    refine W.cw (oM hg) ?_
    refine W.cw hR ?_
    refine W.cw hM ?_ (hpre:=fun w2 hs=>hw2.ro (Hc:=[]) hs)
    exact F.n
   | true=>
    rw [hok] at hM
    rw [dZ,dZ]
    refine W.k fun _ b_=>?_
    refine W.cw (oM hg) ?_
    refine W.cw hR ?_
    refine W.cq hM ?_ (hpre:=fun w2 hs=>hw2.ro (Hc:=[]) hs)
    refine W.j ?_
    refine SW.block ?_
    refine W.j ?_
    refine bV [3,31,32] [b_] (fun i:Nat=>[(33,.int .i64 (i:Int))]) (fun _=>[(b_,cl Z 82)]) (fun i=>ps.length-i) (fun i=>i≤ps.length∧(ps.take i).any (tI n)=false) 0 ⟨Nat.zero_le _,rfl⟩ ?_
    rintro i ⟨hi,hany⟩
    by_cases hin:i<ps.length
    ·obtain⟨q,hq⟩:∃ q,ps[i]?=some q:=⟨_,aA hin⟩
     obtain⟨pb,po,lv,T,fz,rfl,hb,hk5,hv⟩:=hgt i (pgC q) (by rw [aH,hq];rfl)
     have hpl:=dW q
     have hk0:(pgC q)[0]?=some (.int .i64 q.kind):=rfl
     have hk4:(pgC q)[4]?=some (.int .u64 q.ser):=rfl
     have hpo:OC (pgC q):=inferInstance
     have hst:(ps.take (i+1)).any (tI n)=tI n q:=by rw [aO,hq,List.any_append,hany];simp
     have hno:tI n q=true→ps.any (tI n)=true:=fun h=>List.any_eq_true.2 ⟨q,aP hq,h⟩
     unfold tI at hst hno
     generalize pgC q=X at *
     by_cases h2:q.kind=2
     ·by_cases h3:n≤q.ser
      ·have:=hno (decide_eq_true ⟨h2,h3⟩)
       rw [show ps.any (tI n)=true from this]
       refine W.k fun b_=>?_
       exact F.n
      ·refine W.k fun b_=>?_
       refine aT.mk (i+1) ?_
       exact⟨hin,hst.trans (decide_eq_false fun h=>h3 h.2)⟩
     ·refine W.k fun b_=>?_
      refine aT.mk (i+1) ?_
      exact⟨hin,hst.trans (decide_eq_false fun h=>h2 h.1)⟩
    ·have:i=ps.length:=om
     subst this
     rw [bT] at hany
     rw [hany]
     refine W.k ?_
     exact F.n
 ·rw [decide_eq_false hlen,eH]
  refine W.k fun _ b_=>?_
  refine W.cw (oM hg) ?_
  exact F.n
theorem aD6{P T:Int}(hg:¬ GoK P T){n:Int}{l:List Int}(hl:l.length=16)(pv:Value) [One pv]:Tri prog 36 [geV P T,.agg (bF n l pv).toArray] [] (fun _=>True) (fun v H=>v=.bool false∧H=[]):=by
 refine Tri.mk func36 rfl ntmps36 rfl fun w hw=>?_
 have hml:=eU n l hl pv
 have hmo:OC (bF n l pv):=inferInstance
 generalize bF n l pv=Z at *
 refine W.k fun _ b_=>?_
 refine W.cw (tU hg) ?_
 exact F.n
theorem xS{p t:Nat}(hg:Gm.Ok p t){n:Int}{l:List Int}(hl:l.length=16)(hu:∀ h∈l,isU h)(hn:isU n)(ps:List Pg)(hpl:ps.length=p)(hser:∀ q∈ps,aAg q){kb ko cap:Nat} :
  Tri prog 30 [iX p t,.agg (bF n l (.slice (some ⟨kb,ko,none⟩) p cap)).toArray] [] (fun w=>Rd [] w 5 (.slice (some ⟨kb,ko,none⟩) p cap) (dK ps)) (fun v H=>∃ us Hb Hs,Sl 50 1 v us Hb∧RB Hs us (vA p n l ps)∧H=Hb++Hs):=by
 obtain⟨g1,g2,g3,g4⟩:=id hg
 have hup:=@yV p
 have hmp:=aFk hg
 generalize hM:Gm.up p 16=M at *
 refine Tri.mk func30 rfl ntmps30 rfl fun w hw=>?_
 have hpo:One (Value.slice (some ⟨kb,ko,none⟩) p cap):=⟨rfl⟩
 have hcp:p≤cap:=by
  obtain⟨a,l',c',he,hl5,hc,-⟩:=hw.get
  cases he;exact hc
 have hml:=eU n l hl (.slice (some ⟨kb,ko,none⟩) p cap)
 have hmo:OC (bF n l (.slice (some ⟨kb,ko,none⟩) p cap)):=inferInstance
 have h17:=pM n l hl (.slice (some ⟨kb,ko,none⟩) p cap)
 have hrr:=aBg n l hl (.slice (some ⟨kb,ko,none⟩) p cap)
 have hrl:(bP n l).length=17:=by rw [bU,hl]
 have hro:OC (bP n l):=inferInstance
 have hB:=aDl hl hu hn
 have hmB:vA p n l ps=gC n l::(List.range M).map (oQ ps):=by rw [vA,aB6,hM]
 generalize bF n l (.slice (some ⟨kb,ko,none⟩) p cap)=Z at *
 generalize bP n l=Y at *
 refine W.j fun _ b_=>?_
 rename_i bg
 refine aL hB ?_
 intro v0 H0 h0
 have h01:=h0.isOne
 obtain⟨a0,l0,c0,rfl,-⟩:=h0.form
 have hb1:bQ (fun i=>some (i*1,1)) (zs [.slice none 0 0] 1) [(0,.slice a0 l0 c0)]=some [.slice a0 l0 c0]:=rfl
 obtain⟨bm,hbm⟩:∃ bm,bm=b_:=⟨_,rfl⟩
 subst hbm
 refine W.j fun b_=>?_
 refine SW.block ?_
 refine bN [2,3] (fun x:Nat×Value×List Value×Hp×Hp=>[(5,x.2.1),(6,.int .i64 (x.1:Int))]) (fun x=>(bg,cl (uL p t) 23)::(bm,cl Z 82)::(x.2.2.2.1++x.2.2.2.2)) (fun x=>M-x.1) (fun x=>x.1≤M∧Sl 50 1 x.2.1 x.2.2.1 x.2.2.2.1∧RB x.2.2.2.2 x.2.2.1 (gC n l::(List.range x.1).map (oQ ps))) (0,_,[.slice a0 l0 c0],[(b_,cl [.slice a0 l0 c0] 50)],H0) ⟨Nat.zero_le _,Sl.own _ _ _ (len:=1) rfl,RB.snoc (vs:=[]) (bss:=[]) (RB.nil _) (RdH.of h0)⟩ ?_
 rintro⟨k,bv,us,Hb,Hs⟩ ⟨hk,hS,hRB⟩
 dsimp only at hk hS hRB ⊢
 have hS1:=hS.isOne
 have hul:us.length=k+1:=by rw [hRB.1,aW,aE,cZ]
 by_cases hkM:k<M
 ·have hst:gC n l::(List.range (k+1)).map (oQ ps)=(gC n l::(List.range k).map (oQ ps))++[oQ ps k]:=by
   rw [bS,bB];rfl
  obtain⟨e,he,he2⟩:∃ e,e=min (16*k+16) p∧16*k<e:=⟨_,rfl,by omega⟩
  have hbl:oQ ps k=pad 256 (rH ((ps.drop (16*k)).take (e-16*k))):=by
   unfold oQ
   congr 2
   by_cases h16:16*k+16≤p
   ·congr 1;omega
   ·rw [aB (by rw [aK];omega),aB (by rw [aK];omega)]
  have hB2:=aGb ((ps.drop (16*k)).take (e-16*k)) (by rw [aD];omega) (fun q hq=>hser q (fB (cX hq))) (.slice (some ⟨kb,ko+16*k*5,none⟩) (e-16*k) (cap-16*k))
  rw [← hbl] at hB2
  have e16:(16:Int)*(k:Int)=((16*k:Nat):Int):=om
  refine W.j ?_
  refine W.cq hmp ?_
  refine W.j ?_
  refine SW.block ?_
  refine W.j ?_
  refine bJ (tO rfl rfl rfl rfl) rfl rfl ?_
  refine W.j ?_
  refine cN [2,3,5,6] [] (fun _:Unit=>[(7,.int .i64 (e:Int))]) (fun _=>[]) (fun _=>True) ?_ ?_
  ·by_cases h16:16*k+16≤p
   ·have hee:e=16*k+16:=om
    rw [hee]
    have e1:(16:Int)*(k:Int)+16=((16*k+16:Nat):Int):=om
    have hcc:¬ rD .gtr ((16:Int)*(k:Int)+16) (p:Int):=by dsimp only [rD];omega
    rw [decide_eq_false hcc]
    refine W.k ?_
    rw [e1]
    refine bZ.mk () ?_
    trivial
   ·have hee:e=p:=om
    rw [hee]
    have hcc:rD .gtr ((16:Int)*(k:Int)+16) (p:Int):=by dsimp only [rD];omega
    rw [decide_eq_true hcc]
    refine W.k ?_
    refine bZ.mk () ?_
    trivial
  rintro _ -
  refine W.k ?_
  rw [e16]
  refine W.k ?_
  refine aL hB2 ?_ (hpre:=fun w2 hs=>(hw.ro (Hc:=[]) hs).subP (16*k) e (cap-16*k) om om om)
  intro v1 H1 h1
  have h11:=h1.isOne
  obtain⟨a1,l1,c1,rfl,-⟩:=h1.form
  have hb2:bQ (fun i=>some (i*1,1)) (zs [.slice none 0 0] 1) [(0,.slice a1 l1 c1)]=some [.slice a1 l1 c1]:=rfl
  refine W.k fun b_=>?_
  refine W.ap (ys:=[.slice a1 l1 c1]) (mm:=1) hS (fun w2 hs=>(Sl.own 50 1 b_ (xs:=[.slice a1 l1 c1]) rfl).srcAt hs inferInstance) (fun v2 H2 h2=>?_) (hys:=rfl) (hbytes:=by rw [hul];simp <;> omega)
  have h21:=h2.isOne
  refine W.k ?_
  refine aT.mk (k+1,v2,us++[.slice a1 l1 c1],H2,Hs++H1) ?_
  refine⟨hkM,h2,?_⟩
  dsimp only
  rw [hst]
  exact RB.snoc (hRB.mono fun x hx=>bA _ hx) ((RdH.of h1).mono fun x hx=>aV _ hx)
 ·have:k=M:=om
  subst this
  refine W.k ?_
  refine W.cw hmp ?_
  refine Fin.to (Hb++Hs) ?_
  exact F.f1 ⟨us,Hb,Hs,hS,hmB▸hRB,rfl⟩
theorem aI5(n:Int)(l:List Int)(hl:l.length=16):Tri prog 90 [.agg (bP n l).toArray] [] (fun _=>True) (fun r H=>r=.agg (bP n l).toArray∧H=[]):=by
 refine Tri.mk func90 rfl ntmps90 rfl fun w hw=>?_
 have f1:(bP n l).length=17:=by rw [bU,hl]
 have o1:OC (bP n l):=inferInstance
 have g0:(bP n l)[0]?=some (.int .u64 n):=rfl
 have t1:((bP n l).drop 1).take 16=l.map fun h=>(.int .u64 h:Value):=by
  show (l.map fun h=>(.int .u64 h:Value)).take 16=_
  rw [aB (by rw [aE,hl];omega)]
 have hll:(l.map fun h=>(.int .u64 h:Value)).length=16:=by rw [aE,hl]
 have hb:bQ (fun i=>[(0,1),(1,16)][i]?) ([.int .u64 0]++List.replicate 16 (.int .u64 0)) [(0,.int .u64 n)]=some (bP n (List.replicate 16 0)):=rfl
 have f0:(bP n (List.replicate 16 0)).length=17:=rfl
 have o0:OC (bP n (List.replicate 16 0)):=inferInstance
 refine W.j fun _ _ b_=>?_
 rename_i bx r2
 refine SW.block ?_
 refine W.j ?_
 refine bV [2,3,10] [b_] (fun x:Nat×List Int=>[(11,.int .i64 x.1)]) (fun x=>[(b_,cl (bP n x.2) 79)]) (fun x=>16-x.1) (fun x=>x.1≤16∧x.2.length=16∧x.2.take x.1=l.take x.1) (0,List.replicate 16 0) ⟨by decide,rfl,rfl⟩ ?_
 rintro⟨i,k⟩ ⟨hi,hk,hkl⟩
 dsimp only at hi hk hkl ⊢
 have fk:(bP n k).length=17:=by rw [bU,hk]
 have ok:OC (bP n k):=inferInstance
 by_cases hin:i<16
 ·obtain⟨h,hh⟩:∃ h,l[i]?=some h:=⟨_,aA om⟩
  have hidx:(l.map fun h=>(.int .u64 h:Value))[i]?=some (.int .u64 h):=by rw [aH,hh];rfl
  have hset:=yS n k i h
  have hlt:1+i<(bP n k).length:=by rw [fk];omega
  refine W.k ?_
  rw [hset]
  refine aT.mk (i+1,k.set i h) ?_
  refine⟨hin,by dsimp only;rw [cP];exact hk,?_⟩
  dsimp only
  rw [aO,aO,hh,iG om,nF (Nat.le_refl _),hkl]
 ·have h16:i=16:=om
  subst h16
  have hke:k=l:=by
   rw [← aB (l:=k) (i:=16) om,← aB (l:=l) (i:=16) om];exact hkl
  subst hke
  refine W.k ?_
  exact F.c0 (bP n k) ⟨rfl,rfl⟩
theorem aJD(ps:List Pg)(v:Value)(hn:ps.length≤1000000):Tri prog 91 [v] [] (fun w=>Rd [] w 5 v (dK ps)) (fun r H=>Sl 177 5 r (dK ps) H):=by
 refine Tri.mk func91 rfl ntmps91 rfl fun w hw=>?_
 have hL:∀ y∈ps.map pgC,y.length=5:=fun y hy=>by
  obtain⟨x,hx,rfl⟩:=bG.1 hy
  exact dW x
 obtain⟨a,cap,rfl,hcap,hgt⟩:=hw.rows dc hL
 rw [aE] at hcap ⊢
 refine W.j ?_
 refine SW.block ?_
 refine W.j ?_
 refine bN [6,7] (fun x:Nat×Value×Hp=>[(3,x.2.1),(8,.int .i64 x.1)]) (fun x=>x.2.2) (fun x=>ps.length-x.1) (fun x=>x.1≤ps.length∧Sl 177 5 x.2.1 (dK (ps.take x.1)) x.2.2) (0,.slice none 0 0,[]) ⟨Nat.zero_le _,by rw [cQ];exact Sl.nil _ _⟩ ?_
 rintro⟨i,sv,Hs⟩ ⟨hi,hS⟩
 dsimp only at hi hS ⊢
 have hS1:=hS.isOne
 by_cases hin:i<ps.length
 ·obtain⟨x,hx⟩:∃ x,ps[i]?=some x:=⟨_,aA hin⟩
  obtain⟨pb,po,lv,T,fz,rfl,hb,hk,hvv⟩:=hgt i (pgC x) (by rw [aH,hx];rfl)
  have hxl:=dW x
  have ht:dK (ps.take i)++pgC x=dK (ps.take (i+1)):=by rw [aO,hx];exact (zV _ _).symm
  have c0:(pgC x)[0]?=some (.int .i64 x.kind):=rfl
  have c1:(pgC x)[1]?=some (.int .i64 x.cls):=rfl
  have c2:(pgC x)[2]?=some (.int .i64 x.run):=rfl
  have c3:(pgC x)[3]?=some (.int .i64 x.size):=rfl
  have c4:(pgC x)[4]?=some (.int .u64 x.ser):=rfl
  have hb1:bQ (fun i=>[(0,1),(1,1),(2,1),(3,1),(4,1)][i]?) ([.int .i64 0]++[.int .i64 0]++[.int .i64 0]++[.int .i64 0]++[.int .u64 0]) [(0,.int .i64 x.kind),(1,.int .i64 x.cls),(2,.int .i64 x.run),(3,.int .i64 x.size),(4,.int .u64 x.ser)]=some (pgC x):=rfl
  have hb5:bQ (fun i=>some (i*5,5)) (zs [.int .i64 0,.int .i64 0,.int .i64 0,.int .i64 0,.int .u64 0] 1) [(0,.agg (pgC x).toArray)]=some (pgC x):=rfl
  have hox:OC (pgC x):=inferInstance
  have hpl:=gM (ps.take i)
  rw [aD] at hpl
  generalize pgC x=X at *
  refine W.k fun _ b_=>?_
  refine W.ap (ys:=X) (mm:=1) hS (fun w2 hs=>(Sl.own 177 5 b_ (xs:=X) (by rw [hxl])).srcAt hs inferInstance) (fun v3 H3 h3=>?_) (hys:=by rw [hxl]) (hbytes:=by rw [hpl,hxl];omega)
  have h31:=h3.isOne
  rw [ht] at h3
  refine W.k ?_
  refine aT.mk (i+1,v3,H3) ?_
  exact⟨hin,h3⟩
 ·have hi2:i=ps.length:=om
  subst hi2
  rw [bT] at hS
  refine W.k ?_
  refine Fin.to Hs ?_
  exact F.f1 hS
theorem zO(n:Int)(l:List Int)(hl:l.length=16)(ps:List Pg)(pv:Value)(hn:ps.length≤1000000):Tri prog 33 [.agg (bF n l pv).toArray] [] (fun w=>Rd [] w 5 pv (dK ps)) (fun r H=>∃ qv,r=.agg (bF n l qv).toArray∧Sl 177 5 qv (dK ps) H):=by
 refine Tri.mk func33 rfl ntmps33 rfl fun w hw=>?_
 have hv1:=hw.isOne
 have f1:(bF n l pv).length=18:=by rw [aC,bU,hl];rfl
 have o1:OC (bF n l pv):=inferInstance
 have t1:((bF n l pv).drop 0).take 17=bP n l:=by rw [bH,aQ (by rw [bU,hl];omega),aB (by rw [bU,hl];omega)]
 have g1:(bF n l pv)[17]?=some pv:=by rw [aS (by rw [bU,hl];omega),bU,hl];rfl
 have r1:(bP n l).length=17:=by rw [bU,hl]
 have hR:=aI5 n l hl
 have hP:=aJD ps pv hn
 have f2:∀ qv,(bF n l qv).length=18:=fun qv=>by rw [aC,bU,hl];rfl
 have hb:=aEF n l hl
 refine W.k fun _ b_=>?_
 (refine SW.l [5,7] [0,1,3,4] ?_;refine aX 2 ?_)
 refine W.cq hR ?_
 (refine bO [] ?_;refine cB 5 ?_)
 refine aL hP ?_ (hpre:=fun w2 hs=>hw.ro (Hc:=[]) hs)
 intro qv Hq hq
 have hq1:=hq.isOne
 obtain⟨qa,ql,qc,rfl,-⟩:=hq.form
 have hbq:=hb qa ql qc
 have fq:=f2 (.slice qa ql qc)
 have oq:OC (bF n l (.slice qa ql qc)):=inferInstance
 (refine SL.l [6] ?_;refine cB 7 ?_;refine W.i ?_;refine eI ?_)
 refine W.k ?_
 exact F.cH Hq (bF n l (.slice qa ql qc)) ⟨_,rfl,hq⟩
theorem aFp{P:Program}{w:World}{t t2:TypeId}{ty e n:Nat}{sv:Value}{a:Option Addr} [ht:cG P t e n] [h2:oC P t2](hsrc:eR P w sv n 0 []) :
  (Builtin.append_ #[t,t2] ty #[.slice a 0 0,sv]).run P w=.ok (.slice a 0 0) w:=by
 obtain⟨i,hi,hisz⟩:=qQ ht.size
 obtain⟨hl1,hf⟩:=hsrc w rfl
 subst hisz
 rcases h2.ok with ⟨e2,he2⟩|he2
 all_goals
  cases a <;> simp [Builtin.append_,run_underlying ht.ok,run_underlying he2,sizeOf,typeInfo,hi,hl1,hf,storeCells]
theorem aOi{P:Program}{C:Ctx}{Q:Exit→Fr→Hp→Prop}{ρ:Fr}{H:Hp}{L rest:List Oper}{d:Option Tmp}{ty:TypeId}{pos:String}{af:Array Edge}{g:Option (Nat×Bool)}{t t2 e n:Nat}{d':Option Nat}{x y:Operand}{a:Option Addr}{sv:Value} [ht:cG P t e n] [oC P t2](hsrc:∀ w,St C.K C.w0 H w→eR P w sv n 0 [])(hk:SL P C L Q rest (pt ρ d' (.slice a 0 0)) H)(hx:ev ρ x=some (.slice a 0 0):=by exact rfl)(hy:ev ρ y=some sv:=by exact rfl)
  (hg:gd L ρ ⟨d,.call { callee:=.builtin .append,args:=#[x,y],argTypes:=#[t,t2] },ty,pos,af,g⟩=some true:=by exact rfl) (hd:dk C.n d=some d':=by exact rfl):SL P C L Q (⟨d,.call { callee:=.builtin .append,args:=#[x,y],argTypes:=#[t,t2] },ty,pos,af,g⟩::rest) ρ H:=
 mM hg hd fun ac w hf hs=>⟨.slice a 0 0,w,H,.inl (by
  have h:=aFp (P:=P) (ty:=ty) (t:=t) (t2:=t2) (a:=a) (hsrc w hs)
  unfold execOp;simp [resolve,invoke,builtin,hf.eval hx,hf.eval hy,h]),hs,hk⟩
theorem aGV{P T:Int}{r full:Bool}(hmy:Tri prog 27 [geV P T] [] (fun _=>True) (fun v H=>v=.bool r∧H=[]))(hrf:(r&&full)=false)(n:Int)(l:List Int)(hl:l.length=16)(ps:List Pg)(a:Option Addr)(len cap:Nat):Tri prog 26 [geV P T,.agg (bF n l (.slice a len cap)).toArray,.bool full] [] (fun w=>Rd [] w 5 (.slice a len cap) (dK ps)) (fun r H=>r=.agg (bF n l (.slice a (min 70 len) cap)).toArray∧H=[]):=by
 refine Tri.mk func26 rfl ntmps26 rfl fun w hw=>?_
 have f1:=eU n l hl (.slice a len cap)
 have o1:OC (bF n l (.slice a len cap)):=inferInstance
 have g1:=pM n l hl (.slice a len cap)
 obtain⟨a',len',cap',he,hll,hc,hr⟩:=hw.get
 cases he
 by_cases h70:70<len
 ·obtain⟨b0,o0,l0,T0,fz0,rfl,-⟩:=hr om
  have hs:=aBX n l hl (.slice (some ⟨b0,o0,none⟩) len cap) (.slice (some ⟨b0,o0,none⟩) 70 cap)
  have f2:=eU n l hl (.slice (some ⟨b0,o0,none⟩) 70 cap)
  rw [show min 70 len=70 by omega]
  have o2:OC (bF n l (.slice (some ⟨b0,o0,none⟩) 70 cap)):=inferInstance
  have hlt:17<(bF n l (.slice (some ⟨b0,o0,none⟩) len cap)).length:=by rw [f1];omega
  generalize bF n l (.slice (some ⟨b0,o0,none⟩) len cap)=X at *
  generalize bF n l (.slice (some ⟨b0,o0,none⟩) 70 cap)=Y at *
  cases r
  ·refine W.k fun _ _ b_=>?_
   refine W.cw hmy ?_
   rw [hs]
   refine W.k ?_
   refine W.cw hmy ?_
   exact F.c0 Y ⟨rfl,rfl⟩
  ·rw [dZ] at hrf
   subst hrf
   refine W.k fun _ _ b_=>?_
   refine W.cw hmy ?_
   rw [hs]
   refine W.k ?_
   refine W.cw hmy ?_
   exact F.c0 Y ⟨rfl,rfl⟩
 ·rw [show min 70 len=len by omega]
  generalize bF n l (.slice a len cap)=X at *
  cases r
  ·refine W.k fun _ _ b_=>?_
   refine W.cw hmy ?_
   refine W.cw hmy ?_
   exact F.c0 X ⟨rfl,rfl⟩
  ·rw [dZ] at hrf
   subst hrf
   refine W.k fun _ _ b_=>?_
   refine W.cw hmy ?_
   refine W.cw hmy ?_
   exact F.c0 X ⟨rfl,rfl⟩
def aBM(p:Nat)(ps:List Pg):List Pg:=ps.take p++zpg (p-ps.length)
theorem aC1(p:Nat)(ps:List Pg):(aBM p ps).length=p:=by rw [aBM,aC,aD,aM];omega
theorem Rd.preQ{K:List Nat}{w:World}{a:Option Addr}{len cap:Nat}{ps:List Pg}(m:Nat)(h:Rd K w 5 (.slice a len cap) (dK ps)):Rd K w 5 (.slice a (min m len) cap) (dK (ps.take m)):=by
 obtain⟨a',len',cap',he,h2,h3,h4⟩:=h
 cases he
 have hl:ps.length=len:=by rw [gM] at h2;omega
 refine⟨_,_,_,rfl,by rw [gM,aD,hl],by omega,?_⟩
 rcases h4 with h4|⟨b,o,l,T,fz,ha,hb,hk,hy⟩
 ·exact .inl om
 ·refine .inr ⟨b,o,l,T,fz,ha,hb,hk,?_⟩
  rw [zW,← hy,fS]
  congr 1
  omega
def SlE(e n:Nat)(v:Value)(xs:List Value)(H:Hp):Prop:=Sl e n v xs H∨∃ a,v=.slice a 0 0∧xs=[]∧H=[]
theorem SlE.one{e n:Nat}{v:Value}{xs:List Value}{H:Hp}(h:SlE e n v xs H):One v:=by
 rcases h with h|⟨a,rfl,-,-⟩
 ·exact h.isOne
 ·exact⟨rfl⟩
theorem aGU{p t:Nat}(hg:Gm.Ok p t)(n:Int)(l:List Int)(hl:l.length=16)(ps:List Pg)(a:Option Addr)(len cap:Nat):Tri prog 26 [iX p t,.agg (bF n l (.slice a len cap)).toArray,.bool true] [] (fun w=>Rd [] w 5 (.slice a len cap) (dK ps)) (fun r H=>∃ pv,r=.agg (bF n l pv).toArray∧Sl 177 5 pv (dK (aBM p ps)) H):=by
 obtain⟨g1,g2,g3,g4⟩:=id hg
 have hN:=aHc hg
 refine Tri.mk func26 rfl ntmps26 rfl fun w hw=>?_
 have hw2:=hw
 obtain⟨a',len',cap',he,hll,hc,hr⟩:=hw.get
 cases he
 have hpl:ps.length=len:=by rw [gM] at hll;omega
 have hq:=hw2.preQ p
 have hxl:=gM (ps.take p)
 rw [aD,hpl] at hxl
 have hfl:aBM p ps=ps.take p++zpg (p-min p len):=by
  rw [aBM,hpl,show p-len=p-min p len by omega]
 have hmy:=oM hg
 have f1:=fun v=>eU n l hl v
 have st1:=fun v u=>aBX n l hl v u
 have g17:=fun v=>pM n l hl v
 have fz1:=fun v=>eU 1 z16 rfl v
 have gz17:=fun v=>pM 1 z16 rfl v
 have g17a:=g17 (.slice a len cap)
 have f1a:=f1 (.slice a len cap)
 refine W.j fun _ _ b_=>?_
 rename_i bg bm
 obtain⟨c6,hc6⟩:∃ c6,c6=b_:=⟨_,rfl⟩
 subst hc6
 refine W.cq hmy ?_
 refine W.j ?_
 refine bJ (tO rfl rfl rfl rfl) rfl rfl ?_
 refine W.j ?_
 refine cN [2,3,4,6,7] [(bm,cl (bF n l (.slice a len cap)) 82)] (fun _:Unit=>[]) (fun _=>[(bm,cl (bF n l (.slice a (min p len) cap)) 82)]) (fun _=>True) ?_ ?_
 ·by_cases hlp:p<len
  ·obtain⟨b0,o0,l0,T0,fz0,rfl,-⟩:=hr om
   have hcc:rD .gtr ((len:Nat):Int) ((p:Nat):Int):=by dsimp only [rD];omega
   rw [decide_eq_true hcc]
   have hlt:17<(bF n l (.slice (some ⟨b0,o0,none⟩) len cap)).length:=by rw [f1];decide
   have h17:=g17 (.slice (some ⟨b0,o0,none⟩) len cap)
   have hst:=st1 (.slice (some ⟨b0,o0,none⟩) len cap) (.slice (some ⟨b0,o0,none⟩) p cap)
   rw [show min p len=p by omega]
   have fl:=f1 (.slice (some ⟨b0,o0,none⟩) len cap)
   have ol:OC (bF n l (.slice (some ⟨b0,o0,none⟩) len cap)):=inferInstance
   generalize bF n l (.slice (some ⟨b0,o0,none⟩) len cap)=X at *
   refine W.k ?_
   rw [hst]
   refine bZ.mk () ?_
   trivial
  ·have hcc:¬ rD .gtr ((len:Nat):Int) ((p:Nat):Int):=by dsimp only [rD];omega
   rw [decide_eq_false hcc,show min p len=len by omega]
   refine W.k ?_
   refine bZ.mk () ?_
   trivial
 rintro _ -
 obtain⟨m,hm⟩:∃ m,min p len=m:=⟨_,rfl⟩
 rw [hm] at hq hxl hfl ⊢
 have fm:=f1 (.slice a m cap)
 have om2:OC (bF n l (.slice a m cap)):=inferInstance
 have g17m:=g17 (.slice a m cap)
 have st17:=st1 (.slice a m cap)
 have hlt:17<(bF n l (.slice a m cap)).length:=by rw [fm];decide
 generalize hX:bF n l (.slice a m cap)=X at *
 refine W.j ?_
 refine W.cq hmy ?_
 refine W.j ?_
 refine cN [3,4,6,7] [] (fun x:Value×Hp=>[(8,x.1)]) (fun x=>x.2) (fun x=>SlE 177 5 x.1 (dK (ps.take p)) x.2) ?_ ?_
 ·(refine SW.l [5] [0,1] ?_;refine dL 2 rfl (aMh rfl rfl rfl rfl om) ?_;refine SG.l [3,4] ?_;refine cB 5 ?_)
  by_cases hm0:m=0
  ·subst hm0
   have hnil:dK (ps.take p)=[]:=cE om
   refine aOi (fun w2 hs=>eR.empty w2 a cap 5) ?_
   (refine SL.l [6,7] ?_)
   refine W.k ?_
   refine bZ.mk (_,[]) ?_
   exact .inr ⟨_,rfl,hnil,rfl⟩
  ·refine aGy (xs:=[]) (ys:=dK (ps.take p)) (mm:=m) (fun w2 hs=>eR.empty w2 _ 0 5) (fun w2 hs=>hq.srcAt hs) (fun v3 H3 h3=>?_) (hxs:=rfl) (hys:=hxl) (hc:=by omega) (hbytes:=by rw [hxl];simp;omega)
   rw [List.nil_append] at h3
   have h31:=h3.isOne
   (refine SL.l [6,7] ?_)
   refine W.k ?_
   refine bZ.mk (v3,H3) ?_
   exact .inl h3
 rintro⟨v0,H0⟩ hE0
 dsimp only at hE0 ⊢
 have hE1:=hE0.one
 refine W.j ?_
 refine SW.block ?_
 refine bN [3,4,6,7] (fun x:Nat×Value×Hp=>[(8,x.2.1)]) (fun x=>(bg,cl (uL p t) 23)::x.2.2) (fun x=>p-x.1) (fun x=>m≤x.1∧x.1≤p∧SlE 177 5 x.2.1 (dK (ps.take p++zpg (x.1-m))) x.2.2) (m,v0,H0) ⟨Nat.le_refl _,by dsimp only;omega,by dsimp only;rw [dM,show zpg 0=[] from rfl,aJ];exact hE0⟩ ?_
 rintro⟨k,v,Hq⟩ ⟨hk1,hk2,hE⟩
 dsimp only at hk1 hk2 hE ⊢
 have hE1:=hE.one
 have htl:(ps.take p).length=m:=by rw [aD];omega
 have hxk:=gM (ps.take p++zpg (k-m))
 rw [aC,htl,aM,show m+(k-m)=k by omega] at hxk
 obtain⟨va,vc,rfl⟩:∃ va vc,v=.slice va k vc:=by
  rcases hE with h|⟨a2,rfl,h,-⟩
  ·obtain⟨a3,l3,c3,rfl,h3⟩:=h.form
   exact⟨a3,c3,by rw [show l3=k by omega]⟩
  ·rw [h] at hxk
   have:k=0:=by simp at hxk;omega
   exact⟨a2,0,by rw [this]⟩
 by_cases hkp:k<p
 ·have hX2:dK (ps.take p++zpg (k+1-m))=dK (ps.take p++zpg (k-m))++pgC (.pl 0):=by
   rw [← zV,bE,show k+1-m=(k-m)+1 by omega,zpg,zpg,jE]
  have hb5:bQ (fun i=>some (i*5,5)) (zs [.int .i64 0,.int .i64 0,.int .i64 0,.int .i64 0,.int .u64 0] 1) [(0,.agg (pgC (.pl 0)).toArray)]=some (pgC (.pl 0)):=rfl
  have hpc:=dW (.pl 0)
  have hpo:OC (pgC (.pl 0)):=inferInstance
  refine W.k ?_
  refine aL hN ?_
  rintro _ HN ⟨pv,rfl,hNS⟩
  rcases hNS with ⟨-,h,-⟩|⟨z,zl,zc,zj,rfl,hz1,hz2,hz3,rfl⟩
  ·exfalso
   have:=gM (zpg p)
   rw [h,aM] at this
   simp at this;omega
  have hzl:zl=p:=by
   have:=gM (zpg p)
   rw [aM] at this
   omega
  subst hzl
  have hrow:((dK (zpg zl)++zj).drop 0).take 5=pgC (.pl 0):=by
   rw [bH,aQ om]
   have:=nB (n:=5) (L:=(zpg zl).map pgC) (i:=0) (x:=pgC (.pl 0)) (fun x hx=>by obtain⟨y,-,rfl⟩:=bG.1 hx;exact dW y) (by rw [aH,zpg,gX,if_pos om];rfl)
   rw [kP,bH] at this
   exact this
  have gz:=gz17 (.slice (some ⟨z,0,none⟩) zl zc)
  have fz:=fz1 (.slice (some ⟨z,0,none⟩) zl zc)
  have oz:OC (bF 1 z16 (.slice (some ⟨z,0,none⟩) zl zc)):=inferInstance
  generalize bF 1 z16 (.slice (some ⟨z,0,none⟩) zl zc)=ZZ at *
  generalize pgC (.pl 0)=P0 at *
  refine W.k fun b_=>?_
  rcases hE with hS|⟨a2,h1,h2,h3⟩
  ·refine W.ap (ys:=P0) (mm:=1) hS (fun w2 hs=>(Sl.own 177 5 b_ (xs:=P0) (len:=1) hpc).srcAt hs inferInstance) (fun v3 H3 h3=>?_) (hys:=hpc) (hbytes:=by rw [hxk,hpc];omega)
   have h31:=h3.isOne
   rw [← hX2] at h3
   refine W.k ?_
   refine aT.mk (k+1,v3,H3) ?_
   exact⟨by dsimp only;omega,hkp,.inl h3⟩
  ·cases h1
   subst h3
   rw [h2,List.nil_append] at hX2
   refine aGy (xs:=[]) (ys:=P0) (mm:=1) (fun w2 hs=>eR.empty w2 _ 0 5) (fun w2 hs=>(Sl.own 177 5 b_ (xs:=P0) (len:=1) hpc).srcAt hs inferInstance) (fun v3 H3 h3=>?_) (hxs:=rfl) (hys:=hpc) (hc:=by omega) (hbytes:=by rw [hpc];simp)
   have h31:=h3.isOne
   rw [List.nil_append,← hX2] at h3
   refine W.k ?_
   refine aT.mk (0+1,v3,H3) ?_
   exact⟨by dsimp only;omega,hkp,.inl h3⟩
 ·have:k=p:=om
  subst this
  rcases hE with hS|⟨a2,h1,h2,-⟩
  ·refine W.k ?_
   rw [st17]
   have fn:=f1 (.slice va k vc)
   have on:OC (bF n l (.slice va k vc)):=inferInstance
   refine W.k ?_
   exact F.cH Hq (bF n l (.slice va k vc)) ⟨_,rfl,by rw [hfl];exact hS⟩
  ·exfalso
   rw [h2] at hxk
   simp at hxk;omega
theorem aC2{p:Nat}{ps:List Pg}(h:∀ q∈ps,aAg q):∀ q∈aBM p ps,aAg q:=fun q hq=>by
 rcases cK.1 hq with hq|hq
 ·exact h q (cX hq)
 ·rw [fT hq];exact⟨by decide,by decide⟩
theorem aGR{P T:Int}(h:GoK P T):∃ p t:Nat,P=p∧T=t∧Gm.Ok p t:=by
 obtain⟨h1,h2,h3,h4⟩:=h
 exact⟨P.toNat,T.toNat,by omega,by omega,by omega,by omega,by omega,by omega⟩
theorem Sl.some{e n:Nat}{v:Value}{xs:List Value}{H:Hp}(h:Sl e n v xs H)(hx:0<xs.length):∃ b len cap junk,v=.slice (some ⟨b,0,none⟩) len cap∧xs.length=len*n∧xs.length+junk.length=cap*n∧len≤cap∧H=[(b,cl (xs++junk) e)]:=by
 rcases h with ⟨-,h,-⟩|⟨b,len,cap,junk,h1,h2,h3,h4,h5⟩
 ·rw [h] at hx;cases hx
 ·exact⟨b,len,cap,junk,h1,h2,by rw [← h3,h2],h4,h5⟩
end
section
attribute [local irreducible] SW SL SQ SH SA SS Pu Fin bZ aT SX SJ
theorem aE3{P T:Int}(hg:¬ GoK P T){n:Int}{l:List Int}{pv:Value} [One pv](hl:l.length=16) :
  Tri prog 34 [geV P T,.agg (bF n l pv).toArray] [] (fun _=>True) (fun v H=>v=.tuple #[.slice none 0 0,.int .i64 1]∧H=[]):=by
 refine Tri.mk func34 rfl ntmps34 rfl fun w hw=>?_
 have hml:=eU n l hl pv
 have hmo:OC (bF n l pv):=inferInstance
 have hm:=aJk hg (n:=n) hl pv
 generalize bF n l pv=Z at *
 refine W.k fun _ _ _ b_=>?_
 refine W.cw hm ?_
 exact F.ss [] ⟨rfl,rfl⟩
theorem aFY{p t:Nat}(hg:Gm.Ok p t){n:Int}{l:List Int}(hl:l.length=16)(hu:∀ h∈l,isU h)(hn:isU n)(ps:List Pg)(hps:ps.length≤1000000)(pv:Value)(hno:lI p n l ps=false) :
  Tri prog 34 [iX p t,.agg (bF n l pv).toArray] [] (fun w=>Rd [] w 5 pv (dK ps)) (fun v H=>v=.tuple #[.slice none 0 0,.int .i64 1]∧H=[]):=by
 refine Tri.mk func34 rfl ntmps34 rfl fun w hw=>?_
 have hpo:=hw.isOne
 have hml:=eU n l hl pv
 have hmo:OC (bF n l pv):=inferInstance
 have hm:=aDO hg (n:=n) hl ps hps pv
 have hr:=aBg n l hl pv
 have hrl:(bP n l).length=17:=by rw [bU,hl]
 have hro:OC (bP n l):=inferInstance
 have hB:=aBR hl hu hn
 rw [aBY] at hno
 cases hmm:aCC p n ps with
 | false=>
  rw [hmm] at hm
  generalize bF n l pv=Z at *
  refine W.k fun _ _ _ b_=>?_
  refine W.cw hm ?_ (hpre:=fun w2 hs=>hw.ro (Hc:=[]) hs)
  exact F.ss [] ⟨rfl,rfl⟩
 | true=>
  rw [hmm,dZ] at hno
  have hn0:0<n:=by
   unfold aCC at hmm
   rw [bL,bL] at hmm
   exact of_decide_eq_true hmm.2.1
  rw [show hE n l=1 from if_neg (by rw [hno];simp;omega),if_neg dc] at hB
  rw [hmm] at hm
  generalize bF n l pv=Z at *
  generalize bP n l=Y at *
  refine W.k fun _ _ _ b_=>?_
  refine W.cw hm ?_ (hpre:=fun w2 hs=>hw.ro (Hc:=[]) hs)
  refine aL hB ?_
  rintro _ HB ⟨x,rfl,hx⟩
  have hx1:=hx.isOne
  refine W.k ?_
  exact F.ss [] ⟨rfl,rfl⟩
theorem aHN{p t:Nat}(hg:Gm.Ok p t){n:Int}{l:List Int}(hl:l.length=16)(hu:∀ h∈l,isU h)(ps:List Pg){kb ko cap:Nat}(hok:lI p n l ps=true) :
  Tri prog 34 [iX p t,.agg (bF n l (.slice (some ⟨kb,ko,none⟩) p cap)).toArray] [] (fun w=>Rd [] w 5 (.slice (some ⟨kb,ko,none⟩) p cap) (dK ps)) (fun v H=>∃ bv us Hb Hs,v=.tuple #[bv,.int .i64 0]∧Sl 50 1 bv us Hb∧RB Hs us (vA p n l ps)∧H=Hb++Hs):=by
 have hok2:=hok
 rw [aBY,bL] at hok2
 obtain⟨hmm,hr⟩:=hok2
 have hn1:=aHd hr
 have hn:isU n:=⟨by omega,by omega⟩
 have hpl:ps.length=p:=by
  unfold aCC at hmm
  rw [bL] at hmm
  exact of_decide_eq_true hmm.1
 have hall:∀ q∈ps,fJ q=true:=by
  unfold aCC at hmm
  rw [bL,bL,bL] at hmm
  exact aE9 hmm.2.2.1
 obtain⟨g1,g2,g3,g4⟩:=id hg
 refine Tri.mkX func34 rfl ntmps34 rfl fun w hw=>?_
 have hpo:One (Value.slice (some ⟨kb,ko,none⟩) p cap):=⟨rfl⟩
 have hml:=eU n l hl (.slice (some ⟨kb,ko,none⟩) p cap)
 have hmo:OC (bF n l (.slice (some ⟨kb,ko,none⟩) p cap)):=inferInstance
 have hm:=aDO hg (n:=n) hl ps om (.slice (some ⟨kb,ko,none⟩) p cap)
 have hrr:=aBg n l hl (.slice (some ⟨kb,ko,none⟩) p cap)
 have h17:=pM n l hl (.slice (some ⟨kb,ko,none⟩) p cap)
 have hrl:(bP n l).length=17:=by rw [bU,hl]
 have hro:OC (bP n l):=inferInstance
 have hB:=aBR hl hu hn
 rw [show hE n l=0 from if_pos (.inr hr),if_pos rfl] at hB
 rw [hmm] at hm
 generalize bF n l (.slice (some ⟨kb,ko,none⟩) p cap)=Z at *
 generalize bP n l=Y at *
 refine lQ (Fin.toEnd rfl) ?_
 refine W.k fun _ _ _ b_=>?_
 refine lQ (Fin.toEnd rfl) ?_
 refine W.k ?_
 rename_i bg bm c4
 obtain⟨c5,hc5⟩:∃ c5,c5=b_:=⟨_,rfl⟩
 subst hc5
 refine W.cw hm ?_ (hpre:=fun w2 hs=>hw.ro (Hc:=[]) hs)
 refine lQ (Fin.toEnd rfl) ?_
 refine W.k ?_
 refine aL hB ?_
 intro r6 HB ⟨x0,hx0,hx⟩
 subst hx0
 have hx1:=hx.isOne
 obtain⟨a0,l0,c0,rfl,-⟩:=hx.form
 have hb1:bQ (fun i=>some (i*1,1)) (zs [.slice none 0 0] 1) [(0,.slice a0 l0 c0)]=some [.slice a0 l0 c0]:=rfl
 refine W.k ?_
 refine lQ (Fin.toEnd rfl) ?_
 refine W.k ?_
 refine lQ (Fin.toEnd rfl) ?_
 refine W.k fun _ b_=>?_
 rename_i b1
 obtain⟨b8,hb8⟩:∃ b8,b8=b_:=⟨_,rfl⟩
 subst hb8
 refine aDy ?_
 refine lQ (Q0:=fun _ _ _=>False) (fun e a w ⟨_,_,_,_,h⟩=>h.elim) ?_
 refine W.k ?_
 refine aL (aIM (n:=16) dc) ?_
 rintro _ _ ⟨bs,bn,rfl,rfl⟩
 refine iC ?_
 refine SX.block ?_
 refine aIv [4,5,8,29] ?_
 rw [dE]
 refine aIx ((bs,cl [.slice (some ⟨kb,ko,none⟩) p cap] 89)::(bn,cl [.int .i64 (16:Nat)] 3)::(b8,cl [.slice (some ⟨b1,0,none⟩) 1 1] 94)::(c4,cl [.slice none 0 0] 94)::(c5,cl [.int .i64 0] 44)::(b1,cl [.slice a0 l0 c0] 50)::HB) ?_
 have hw':∀ D l o' w',St [] w ((l,o')::(D,.deferred (some []))::((bs,cl [.slice (some ⟨kb,ko,none⟩) p cap] 89)::(bn,cl [.int .i64 (16:Nat)] 3)::(b8,cl [.slice (some ⟨b1,0,none⟩) 1 1] 94)::(c4,cl [.slice none 0 0] 94)::(c5,cl [.int .i64 0] 44)::(b1,cl [.slice a0 l0 c0] 50)::HB)) w'→Rd (bs::bn::l::D::b8::c4::c5::b1::HB.map Prod.fst) w' 5 (.slice (some ⟨kb,ko,none⟩) p cap) (dK ps):=fun D l o' w' hs=>
  hw.ro (Hc:=(bs,cl [.slice (some ⟨kb,ko,none⟩) p cap] 89)::(bn,cl [.int .i64 (16:Nat)] 3)::(l,o')::(D,.deferred (some []))::(b8,cl [.slice (some ⟨b1,0,none⟩) 1 1] 94)::(c4,cl [.slice none 0 0] 94)::(c5,cl [.int .i64 0] 44)::(b1,cl [.slice a0 l0 c0] 50)::HB) hs
 refine aBz (caps:=[.pointer (some ⟨bs,0,none⟩),.pointer (some ⟨bn,0,none⟩)]) (Pre:=fun D l w'=>Rd (bs::bn::l::D::b8::c4::c5::b1::HB.map Prod.fst) w' 5 (.slice (some ⟨kb,ko,none⟩) p cap) (dK ps))
  (RR:=fun D l' v H'=>∃ r wv us Hq Hs,r.state=.ready∧r.pending=none∧Sl 50 1 wv us Hq∧RB Hs us (vA p n l ps)∧H'=(l',.loop r)::(D,.deferred (some []))::(b8,cl [wv] 94)::(c4,cl [.slice none 0 0] 94)::(c5,cl [.int .i64 0] 44)::(Hq++Hs)) rfl ?ht hw' ?hk
 case ht=>
  intro D lp rec hr1 hr2 hr3 hr4 hr5 hfit
  refine Tri.perm' (Hd:=(bs,cl [.slice (some ⟨kb,ko,none⟩) p cap] 89)::(bn,cl [.int .i64 (16:Nat)] 3)::((lp,.loop rec)::(D,.deferred (some []))::(b8,cl [.slice (some ⟨b1,0,none⟩) 1 1] 94)::(c4,cl [.slice none 0 0] 94)::(c5,cl [.int .i64 0] 44)::(b1,cl [.slice a0 l0 c0] 50)::HB))
   ((aHy (n:=16) (dK ps) dc dc om (fun k Hk=>∃ wv us Hq Hs,Sl 50 1 wv us Hq∧RB Hs us (gC n l::(List.range k).map (oQ ps))∧Hk=(lp,.loop rec)::(D,.deferred (some []))::(b8,cl [wv] 94)::(c4,cl [.slice none 0 0] 94)::(c5,cl [.int .i64 0] 44)::(Hq++Hs)) (fun _=>False) _ ⟨_,_,[(b1,cl [.slice a0 l0 c0] 50)],HB,Sl.own _ _ _ (len:=1) rfl,RB.snoc (vs:=[]) (bss:=[]) (RB.nil _) (RdH.of hx),rfl⟩ ?_).mono ?_)
  ·rintro k Hk hk ⟨wv,us,Hq,Hs,hS,hRB,rfl⟩
   obtain⟨m,hm⟩:∃ m,min 16 (p-16*k)=m:=⟨_,rfl⟩
   rw [hm]
   have hpb:=aJB ((ps.drop (16*k)).take m) (by rw [aD];omega) (fun q hq=>hall q (fB (cX hq))) (.slice (some ⟨kb,ko+16*k*5,none⟩) m m)
   have hbl:pad 256 (rH ((ps.drop (16*k)).take m))=oQ ps k:=by
    unfold oQ
    congr 2
    by_cases h16:16*k+16≤p
    ·congr 1;omega
    ·rw [aB (by rw [aK];omega),aB (by rw [aK];omega)]
   rw [hbl] at hpb
   have hul:us.length=k+1:=by rw [hRB.1,aW,aE,cZ]
   have hst:gC n l::(List.range (k+1)).map (oQ ps)=(gC n l::(List.range k).map (oQ ps))++[oQ ps k]:=by
    rw [bS,bB];rfl
   refine Rnd.mk hr3 hfit rfl fun w2 hw2=>?_
   rw [hr4,hr5]
   refine kL ?_
   refine W.i ?_
   refine xY.mk hr1 ?_
   refine SR.block ?_
   have hr:=hw2.subP (16*k) (16*k+m) m om om om
   rw [show 16*k+m-16*k=m by omega] at hr
   have hS1:=hS.isOne
   refine sL ?_
   refine kL ?_
   refine W.i ?_
   refine aL hpb ?_ (hpre:=fun w3 hs=>hr.ro (Hc:=[]) hs)
   rintro _ H5 ⟨x,rfl,h5⟩
   have h51:=h5.isOne
   obtain⟨a1,l1,c1,rfl,-⟩:=h5.form
   have hb2:bQ (fun i=>some (i*1,1)) (zs [.slice none 0 0] 1) [(0,.slice a1 l1 c1)]=some [.slice a1 l1 c1]:=rfl
   refine W.i ?_
   refine sL ?_
   refine sL ?_
   refine kL ?_
   refine W.i ?_
   refine aAo rfl (fun h=>by cases h) (fun _=>?_)
   refine aGv ?_
   refine kL ?_
   refine W.i fun b_=>?_
   refine W.ap (ys:=[.slice a1 l1 c1]) (mm:=1) hS (fun w2 hs=>(Sl.own 50 1 b_ (xs:=[.slice a1 l1 c1]) rfl).srcAt hs inferInstance) (fun v3 H3 h3=>?_) (hys:=rfl) (hbytes:=by rw [hul];simp <;> omega)
   have h31:=h3.isOne
   refine W.i ?_
   rw [dE]
   refine nJ.mkB ((D,.deferred (some []))::(b8,cl [v3] 94)::(c4,cl [.slice none 0 0] 94)::(c5,cl [.int .i64 0] 44)::(H3++(Hs++H5))) ?_
   rw [Loop.back hr1 hr2]
   refine .inl ⟨rfl,v3,us++[.slice a1 l1 c1],H3,Hs++H5,h3,?_,rfl⟩
   rw [hst]
   exact RB.snoc (hRB.mono fun x hx=>bA _ hx) ((RdH.of h5).mono fun x hx=>aV _ hx)
  ·rintro v H' ⟨rfl,(⟨k,hk1,hk2,wv,us,Hq,Hs,hS,hRB,rfl⟩|h)⟩
   ·have hkn:k=Gm.up p 16:=by unfold Gm.up;omega
    subst hkn
    exact⟨rec,wv,us,Hq,Hs,hr1,hr2,hS,hRB,rfl⟩
   ·exact h.elim
 case hk=>
  rintro D lp v H' ⟨r,wv,us,Hq,Hs,hr1,hr2,hS,hRB,rfl⟩
  refine⟨r,_,.refl _,by rw [hr1];decide,?_⟩
  rw [hr2]
  refine oD.onB ?_
  show SX (RF none) _ ⟨44,[],w,mk1 D⟩ _ _ _ _
  refine aIw (Q:=xZ prog { n:=44,K:=[],w0:=w,ds:=mk1 D } D Tryz.f34 (fun v H=>∃ bv us Hb Hs,v=.tuple #[bv,.int .i64 0]∧Sl 50 1 bv us Hb∧RB Hs us (vA p n l ps)∧H=Hb++Hs)) ?_ (xZ.toEnd rfl)
  have hS1:=hS.isOne
  refine W.k ?_
  rw [dE,dE]
  refine xZ.mk ?_
  refine Fin.to ((c4,cl [wv] 94)::(c5,cl [.int .i64 0] 44)::(Hq++Hs)) ?_
  exact F.ss (Hq++Hs) ⟨wv,us,Hq,Hs,rfl,hS,hRB,rfl⟩
end
end Go.Proofs.YtnigolgkkjidiaaGreat
