/- Which pages may be: the document's. -/
import Derived.Test.YtnigolgkkjidiaaGreatPr11
import Derived.Test.YtnigolgkkjidiaaGreatPr8
set_option linter.unusedVariables false
set_option linter.unusedSimpArgs false
set_option linter.unusedSectionVars false
set_option maxHeartbeats 4000000
namespace Go.Proofs.YtnigolgkkjidiaaGreat
open Go Go.Proofs.Tryz
section
attribute [local irreducible] SW SL SQ SH SA SS Pu Fin bZ aT
theorem aLK(c:Int):Tri prog 217 [.int .i64 c] [] (fun _=>True) (fun v H=>v=.int .i64 (oA c)∧H=[]):=by
 refine Tri.mk func217 rfl ntmps217 rfl fun w hw=>?_
 rcases (show c=0∨c=1∨c=2∨c=3∨c=4∨c=5∨c=6∨c=7∨(¬ c=0∧¬ c=1∧¬ c=2∧¬ c=3∧¬ c=4∧¬ c=5∧¬ c=6∧¬ c=7) by omega) with rfl|rfl|rfl|rfl|rfl|rfl|rfl|rfl|⟨k0,k1,k2,k3,k4,k5,k6,k7⟩
 ·rw [show oA 0=8 from rfl]
  refine W.k ?_
  exact F.n
 ·rw [show oA 1=16 from rfl]
  refine W.k ?_
  exact F.n
 ·rw [show oA 2=24 from rfl]
  refine W.k ?_
  exact F.n
 ·rw [show oA 3=32 from rfl]
  refine W.k ?_
  exact F.n
 ·rw [show oA 4=48 from rfl]
  refine W.k ?_
  exact F.n
 ·rw [show oA 5=64 from rfl]
  refine W.k ?_
  exact F.n
 ·rw [show oA 6=96 from rfl]
  refine W.k ?_
  exact F.n
 ·rw [show oA 7=120 from rfl]
  refine W.k ?_
  exact F.n
 ·rw [show oA c=0 by unfold oA;rw [if_neg om]]
  refine W.k ?_
  exact F.n
theorem aJ3(n:Int):Tri prog 218 [.int .i64 n] [] (fun _=>True) (fun v H=>v=.tuple #[.int .i64 (iS n),.bool (decide (120<n∧n≤4096))]∧H=[]):=by
 refine Tri.mk func218 rfl ntmps218 rfl fun w hw=>?_
 by_cases h1:n<121
 ·rw [show iS n=0 by unfold iS;rw [if_pos (.inl om)],decide_eq_false om]
  refine W.k ?_
  exact F.m
 ·by_cases h2:4096<n
  ·rw [show iS n=0 by unfold iS;rw [if_pos (.inr h2)],decide_eq_false om]
   refine W.k ?_
   exact F.m
  ·rw [decide_eq_true om]
   refine W.j ?_
   refine SW.block ?_
   refine W.j ?_
   refine bV [0] [] (fun p:Nat=>[(4,.int .i64 (p:Int))]) (fun _=>[]) (fun p=>17-p) (fun p=>1≤p∧p≤16∧256*((p:Int)-1)<n) 1 ⟨by decide,by decide,by omega⟩ ?_
   rintro p ⟨hp1,hp2,hp3⟩
   by_cases h:256*(p:Int)<n
   ·refine W.k ?_
    refine aT.mk (p+1) ?_
    exact⟨by omega,by omega,by omega⟩
   ·rw [show iS n=(p:Int) by unfold iS;rw [if_neg om];omega]
    refine W.k ?_
    exact F.m
theorem aGD{p:Pg}(h:p.kind≠0):b0 p=false:=decide_eq_false fun e=>h (by rw [e])
theorem aGE{p:Pg}(h:p.kind≠1):b1 p=false:=decide_eq_false fun e=>h (by rw [e.1])
theorem aGF{p:Pg}(h:p.kind≠2):b2 p=false:=decide_eq_false fun e=>h (by rw [e.2.2.1])
theorem aGG{p:Pg}(h:p.kind≠3):b3 p=false:=decide_eq_false fun e=>h (by rw [e])
theorem aOA{p:Pg}(h:p.kind=0):fJ p=b0 p:=by unfold fJ;rw [aGE om,aGF om,aGG om];simp
theorem aOB{p:Pg}(h:p.kind=1):fJ p=b1 p:=by unfold fJ;rw [aGD om,aGF om,aGG om];simp
theorem aJn{p:Pg}(h:p.kind=2):fJ p=b2 p:=by unfold fJ;rw [aGD om,aGE om,aGG om];simp
theorem aMb{p:Pg}(h:p.kind=3):fJ p=b3 p:=by unfold fJ;rw [aGD om,aGE om,aGF om];simp
theorem aOC{p:Pg}(h0:p.kind≠0)(h1:p.kind≠1)(h2:p.kind≠2)(h3:p.kind≠3):fJ p=false:=by unfold fJ;rw [aGD h0,aGE h1,aGF h2,aGG h3];rfl
end
def chk:Int→List Pg→Bool
 | w,[]=>decide (w≤0)
 | w,p::r=>if decide (0<w)≠decide (p=.pl 3) then false else if 0<w then chk (w-1) r else if p.kind=2 then chk (p.run-1) r else chk w r
def goM:Nat→List Pg→Bool
 | _,[]=>true
 | 0,_=>true
 | f+1,p::r=>fJ p&&decide (p.kind≠3)&&(decide ((if p.kind=2 then p.run else 1)≤((r.length+1:Nat):Int))&&((r.take ((if p.kind=2 then p.run else 1).toNat-1)).all (fun q=>fJ q&&decide (q.kind=3))&&goM f (r.drop ((if p.kind=2 then p.run else 1).toNat-1))))
theorem aCt{p:Pg}(h:fJ p=true):p.kind=3↔p=.pl 3:=by
 refine⟨fun h3=>?_,fun h3=>by rw [h3]⟩
 rw [aMb h3] at h
 exact of_decide_eq_true h
theorem aEe{p:Pg}(h:fJ p=true)(h2:p.kind=2):1≤p.run:=by
 rw [aJn h2] at h
 obtain⟨h1,h3,h4,-,-⟩:=of_decide_eq_true h
 have:p.run=iS p.size:=by rw [h4]
 rw [this]
 unfold iS
 rw [if_neg om]
 omega
theorem aGJ:∀ (j:Nat) (r:List Pg),chk (j:Int) r=(decide (j≤r.length)&&((r.take j).all (fun q=>decide (q=.pl 3))&&chk 0 (r.drop j)))
 | 0,r=>by simp
 | j+1,[]=>by
  rw [show chk ((j+1:Nat):Int) []=decide (((j+1:Nat):Int)≤0) from rfl,decide_eq_false om]
  simp
 | j+1,p::r=>by
  have ih:=aGJ j r
  rw [chk,decide_eq_true (show (0:Int)<((j+1:Nat):Int) by omega)]
  by_cases h:p=.pl 3
  ·rw [if_neg (by rw [decide_eq_true h];simp),if_pos om,show ((j+1:Nat):Int)-1=(j:Int) by omega,ih]
   simp [h]
  ·rw [if_pos (by rw [decide_eq_false h];simp)]
   simp [h]
theorem aDN:∀ (f:Nat) (ps:List Pg),ps.length≤f→(ps.all fJ&&chk 0 ps)=goM f ps
 | _,[],_=>by cases ‹Nat› <;> rfl
 | 0,p::r,h=>absurd h (by simp)
 | f+1,p::r,h=>by
  rw [aW] at h
  cases hm:fJ p with
  | false=>simp [goM,hm]
  | true=>
   by_cases h3:p.kind=3
   ·have hp:=(aCt hm).1 h3
    rw [chk,if_pos (by rw [decide_eq_true hp];simp)]
    simp [goM,h3]
   ·have hp:¬ p=.pl 3:=fun h=>h3 ((aCt hm).2 h)
    obtain⟨j,hj,hc⟩:∃ j:Nat,(if p.kind=2 then p.run else 1)=((j+1:Nat):Int)∧chk 0 (p::r)=chk (j:Int) r:=by
     have hc0:chk 0 (p::r)=if p.kind=2 then chk (p.run-1) r else chk 0 r:=by rw [chk,if_neg (by rw [decide_eq_false hp];simp),if_neg (show ¬ (0:Int)<0 by decide)]
     rw [hc0]
     by_cases h2:p.kind=2
     ·have:=aEe hm h2
      refine⟨(p.run-1).toNat,by rw [if_pos h2];omega,?_⟩
      rw [if_pos h2,show ((p.run-1).toNat:Int)=p.run-1 by omega]
     ·exact⟨0,by rw [if_neg h2];rfl,by rw [if_neg h2];rfl⟩
    have ih:=aDN f (r.drop j) (by rw [aK];omega)
    rw [goM,hj,hc,aGJ,hm,show ((j+1:Nat):Int).toNat-1=j by omega,← ih]
    have ha:r.all fJ=((r.take j).all fJ&&(r.drop j).all fJ):=by rw [← gR,bY]
    have hb:∀ l:List Pg,l.all (fun q=>fJ q&&decide (q.kind=3))=(l.all fJ&&l.all (fun q=>decide (q=.pl 3))):=by
     intro l
     induction l with
     | nil=>rfl
     | cons q l ih=>
      rw [lX,lX,lX,ih]
      cases hq:fJ q with
      | false=>simp
      | true=>rw [show decide (q.kind=3)=decide (q=.pl 3) from decide_eq_decide.2 (aCt hq)];cases decide (q=.pl 3) <;> simp
    rw [lX,hm,ha,hb,decide_eq_true (show p.kind≠3 from h3)]
    rw [show decide (((j+1:Nat):Int)≤((r.length+1:Nat):Int))=decide (j≤r.length) from decide_eq_decide.2 om]
    cases decide (j≤r.length) <;> cases (r.take j).all fJ <;> cases (r.drop j).all fJ <;> cases (r.take j).all (fun q=>decide (q=.pl 3)) <;> simp
section
attribute [local irreducible] SW SL SQ SH SA SS Pu Fin bZ aT
def vH(ps:List Pg):Bool:=decide (ps.length≤64)&&(ps.all fJ&&chk 0 ps)
theorem aJ7{p:Pg}(h:fJ p=true)(h2:p.kind=2):p.run≤16:=by
 rw [aJn h2] at h
 obtain⟨h1,h3,h4,-,-⟩:=of_decide_eq_true h
 have:p.run=iS p.size:=by rw [h4]
 rw [this]
 unfold iS
 rw [if_neg om]
 omega
theorem aJN(ps:List Pg)(hn:ps.length≤1000000)(v:Value):Tri prog 157 [v] [] (fun w=>Rd [] w 5 v (dK ps)) (fun r H=>r=.int .i64 (if vH ps=true then 0 else 4)∧H=[]):=by
 have hcf:=fun v=>aBk (g:=154) (fs:=[]) (cs:=[]) (Hc:=[]) (β:=fun p=>!fJ p) ps (fun p hp=>aIF p) hn v
 refine Tri.mk func157 rfl ntmps157 rfl fun w hw=>?_
 have hw2:=hw
 have hL:∀ y∈ps.map pgC,y.length=5:=fun y hy=>by
  obtain⟨x,hx,rfl⟩:=bG.1 hy
  exact dW x
 obtain⟨a,cap,rfl,hcap,hgt⟩:=hw.rows dc hL
 rw [aE] at hcap ⊢
 by_cases h64:64<ps.length
 ·have ho:vH ps=false:=by unfold vH;rw [decide_eq_false om];rfl
  rw [ho]
  refine W.k ?_
  exact F.n
 cases hany:ps.any (fun p=>!fJ p) with
 | true=>
  rw [hany] at hcf
  have ho:vH ps=false:=by
   unfold vH
   have:ps.all fJ=false:=by
    obtain⟨x,hx,hb⟩:=List.any_eq_true.1 hany
    exact mE.2 ⟨x,hx,by simpa using hb⟩
   rw [this];simp
  rw [ho]
  refine W.k ?_
  refine W.cw (hcf _) ?_ (hpre:=fun w2 hs=>by rw [aE] at hw2;exact hw2.ro (Hc:=[]) hs)
  exact F.n
 | false=>
  rw [hany] at hcf
  have hall:∀ p∈ps,fJ p=true:=fun p hp=>by
   have:=List.any_eq_false.1 hany p hp
   simpa using this
  have ho:vH ps=chk 0 ps:=by
   unfold vH
   rw [decide_eq_true om,fH.2 hall];rfl
  rw [ho]
  refine W.k ?_
  refine W.cq (hcf _) ?_ (hpre:=fun w2 hs=>by rw [aE] at hw2;exact hw2.ro (Hc:=[]) hs)
  refine W.j ?_
  refine SW.block ?_
  refine W.j ?_
  refine bV [13,14] [] (fun x:Nat×Int=>[(3,.int .i64 x.2),(15,.int .i64 (x.1:Int))]) (fun _=>[]) (fun x=>ps.length-x.1) (fun x=>x.1≤ps.length∧0≤x.2∧x.2≤16∧chk 0 ps=chk x.2 (ps.drop x.1)) (0,0) ⟨Nat.zero_le _,by decide,by decide,rfl⟩ ?_
  rintro⟨i,t⟩ ⟨hi,ht0,ht1,hck⟩
  dsimp only at hi ht0 ht1 hck ⊢
  by_cases hin:i<ps.length
  ·obtain⟨p,hp⟩:∃ p,ps[i]?=some p:=⟨_,aA hin⟩
   have hpm:=hall p (aP hp)
   have hdr:ps.drop i=p::ps.drop (i+1):=by
    rw [bM hin]
    rw [aA hin] at hp
    rw [lW hp]
   rw [hdr,chk] at hck
   obtain⟨pb,po,lv,T,fz,rfl,hb,hk,hv⟩:=hgt i (pgC p) (by rw [aH,hp];rfl)
   have htl:=aKj p
   have hpl:=dW p
   have hk0:(pgC p)[0]?=some (.int .i64 p.kind):=rfl
   have hk2:(pgC p)[2]?=some (.int .i64 p.run):=rfl
   have hpo:OC (pgC p):=inferInstance
   generalize pgC p=Z at *
   by_cases h3:p=.pl 3
   ·rw [decide_eq_true h3] at htl hck
    by_cases hw0:0<t
    ·rw [if_neg (by rw [decide_eq_true hw0];simp),if_pos hw0] at hck
     refine W.k fun b_=>?_
     refine W.cw htl ?_
     refine aT.mk (i+1,t-1) ?_
     exact⟨hin,by dsimp only;omega,by dsimp only;omega,hck⟩
    ·rw [if_pos (by rw [decide_eq_false hw0];simp)] at hck
     rw [hck]
     refine W.k fun b_=>?_
     refine W.cw htl ?_
     exact F.n
   ·rw [decide_eq_false h3] at htl hck
    by_cases hw0:0<t
    ·rw [if_pos (by rw [decide_eq_true hw0];simp)] at hck
     rw [hck]
     refine W.k fun b_=>?_
     refine W.cw htl ?_
     exact F.n
    ·rw [if_neg (by rw [decide_eq_false hw0];simp),if_neg hw0] at hck
     have ht:t=0:=om
     subst ht
     by_cases h2:p.kind=2
     ·have r1:=aEe hpm h2
      have r2:=aJ7 hpm h2
      rw [if_pos h2] at hck
      refine W.k fun b_=>?_
      refine W.cw htl ?_
      refine aT.mk (i+1,p.run-1) ?_
      exact⟨hin,by dsimp only;omega,by dsimp only;omega,hck⟩
     ·rw [if_neg h2] at hck
      refine W.k fun b_=>?_
      refine W.cw htl ?_
      refine aT.mk (i+1,0) ?_
      exact⟨hin,by dsimp only;omega,by dsimp only;omega,hck⟩
  ·have:i=ps.length:=om
   subst this
   rw [mV] at hck
   rw [hck]
   by_cases hw0:0<t
   ·rw [show chk t []=false from decide_eq_false om]
    refine W.k ?_
    exact F.n
   ·rw [show chk t []=true from decide_eq_true om]
    refine W.k ?_
    exact F.n
end
section
attribute [local irreducible] SW SL SQ SH SA SS Pu Fin bZ aT SX SJ
theorem aFd(p:Pg)(hser:0≤p.ser∧p.ser<18446744073709551616):Tri prog 155 [.agg (pgC p).toArray] [] (fun _=>True) (fun v H=>Sl 5 1 v (cbs (pgB p)) H):=by
 refine Tri.mk func155 rfl ntmps155 rfl fun w hw=>?_
 have hpl:=dW p
 have hp1:=rJ 2 (u64 p.run) om om
 have hp2:=rJ 4 (u64 p.size) om om
 have hp3:=rJ 8 (u64 p.ser) om om
 unfold eK at hp3
 rw [oO hser] at hp3
 have hfl:[[i8 p.kind,i8 p.cls],leN 2 (u64 p.run),leN 4 (u64 p.size),leN 8 (u64 p.ser)].flatten=pgB p:=by
  simp only [dG,iZ,aJ];rfl
 have hbl:(pgB p).length=16:=aBl p
 have hbs:bQ (fun i=>some (i*1,1)) (zs [Value.int .u8 0] 2) [(0,.int .u8 ((i8 p.kind).toNat:Int)),(1,.int .u8 ((i8 p.cls).toNat:Int))]=some (cbs [i8 p.kind,i8 p.cls]):=rfl
 have e0:(pgC p)[0]?=some (.int .i64 p.kind):=rfl
 have e1:(pgC p)[1]?=some (.int .i64 p.cls):=rfl
 have e2:(pgC p)[2]?=some (.int .i64 p.run):=rfl
 have e3:(pgC p)[3]?=some (.int .i64 p.size):=rfl
 have e4:(pgC p)[4]?=some (.int .u64 p.ser):=rfl
 have hpo:OC (pgC p):=inferInstance
 rw [← hfl] at hbl
 have k2:(leN 2 (u64 p.run)).length=2:=cJ ..
 have k4:(leN 4 (u64 p.size)).length=4:=cJ ..
 have k8:(leN 8 (u64 p.ser)).length=8:=cJ ..
 generalize leN 2 (u64 p.run)=L2 at *
 generalize leN 4 (u64 p.size)=L4 at *
 generalize leN 8 (u64 p.ser)=L8 at *
 generalize pgC p=Z at *
 refine W.k fun b_=>?_
 (refine SW.l [] [0,1,2,3,4,5,7,8,9,11,12,13,15,16] ?_;skip )
 repeat' (first
  | refine fX 6 10 ?_ ?_ rfl rfl (hok:=by decide +kernel)|refine fX 6 14 ?_ ?_ rfl rfl (hok:=by decide +kernel)|refine fX 6 17 ?_ ?_ rfl rfl (hok:=by decide +kernel)
  | refine kB 6 ?_ rfl (by decide +kernel)|refine kB 10 ?_ rfl (by decide +kernel)|refine kB 14 ?_ rfl (by decide +kernel)|refine kB 17 ?_ rfl (by decide +kernel)
  | (refine jO (fun b1=>?_) (hr:=hbs);refine cU ?_)
  | (refine dV hp1 rfl ?_;rintro _ _ ⟨b2,rfl,rfl⟩;refine cU ?_)
  | (refine dV hp2 rfl ?_;rintro _ _ ⟨b3,rfl,rfl⟩;refine cU ?_)
  | (refine dV hp3 rfl ?_;rintro _ _ ⟨b4,rfl,rfl⟩;refine cU ?_))
 all_goals
  refine aX 18 ?_
  refine jO (fun b5=>?_) (hr:=bs4 ..)
  (refine bO [] ?_;refine aX 19 ?_)
  refine aL (sU _ [[i8 p.kind,i8 p.cls],L2,L4,L8] (by rw [hbl];decide) (by simp only [aW,dA];omega)) ?_ (hpre:=fun w2 hs=>RdS.at (T:=50) (fz:=(0,0)) (Hc:=[]) hs rfl (Nat.le_refl _) rfl (uK rfl (Rd.my (Hc:=[]) (T:=5) b1 _ hs rfl) (Rd.my (Hc:=[]) (T:=5) b2 _ hs k2) (Rd.my (Hc:=[]) (T:=5) b3 _ hs k4) (Rd.my (Hc:=[]) (T:=5) b4 _ hs k8)))
  rw [hfl]
  intro v6 H6 h6
  have h61:=h6.isOne
  (refine SL.l [20,21] ?_)
  refine W.k ?_
  refine Fin.to H6 ?_
  exact F.f1 h6
abbrev rH(ps:List Pg):List UInt8:=(ps.map pgB).flatten
theorem wF(ps:List Pg):(rH ps).length=16*ps.length:=by
 induction ps with
 | nil=>rfl
 | cons p r ih=>
  rw [show rH (p::r)=pgB p++rH r from rfl,aC,aBl,ih,aW];omega
theorem aDj(ps:List Pg)(p:Pg):rH (ps++[p])=rH ps++pgB p:=by
 rw [rH,bB,eW]
 simp only [dO,jB,dG,iZ,aJ]
theorem aJB(ps:List Pg)(hn:ps.length≤16)(hall:∀ p∈ps,fJ p=true)(v:Value):Tri prog 94 [v] [] (fun w=>Rd [] w 5 v (dK ps)) (fun r H=>∃ x,r=.tuple #[x,.int .i64 0]∧Sl 5 1 x (cbs (pad 256 (rH ps))) H):=by
 have hcf:=fun v=>aBk (g:=154) (fs:=[]) (cs:=[]) (Hc:=[]) (β:=fun p=>!fJ p) ps (fun p hp=>aIF p) om v
 have hany:ps.any (fun p=>!fJ p)=false:=List.any_eq_false.2 fun p hp=>by rw [hall p hp];decide
 rw [hany] at hcf
 refine Tri.mk func94 rfl ntmps94 rfl fun w hw=>?_
 have hw2:=hw
 have hL:∀ y∈ps.map pgC,y.length=5:=fun y hy=>by
  obtain⟨x,hx,rfl⟩:=bG.1 hy
  exact dW x
 obtain⟨a,cap,rfl,hcap,hgt⟩:=hw.rows dc hL
 rw [aE] at hcap ⊢
 refine W.k ?_
 refine W.cq (hcf _) ?_ (hpre:=fun w2 hs=>by rw [aE] at hw2;exact hw2.ro (Hc:=[]) hs)
 refine W.j ?_
 refine SW.block ?_
 refine W.j ?_
 refine bV [14,15] [] (fun x:Nat×Value×Hp=>[(4,x.2.1),(16,.int .i64 (x.1:Int))]) (fun x=>x.2.2) (fun x=>ps.length-x.1) (fun x=>x.1≤ps.length∧Sl 5 1 x.2.1 (cbs (rH (ps.take x.1))) x.2.2) (0,.slice none 0 0,[]) ⟨Nat.zero_le _,Sl.nil _ _⟩ ?_
 rintro⟨i,bv,Hb⟩ ⟨hi,hS⟩
 dsimp only at hi hS ⊢
 have hS1:=hS.isOne
 by_cases hin:i<ps.length
 ·obtain⟨p,hp⟩:∃ p,ps[i]?=some p:=⟨_,aA hin⟩
  have hst:ps.take (i+1)=ps.take i++[p]:=by rw [aO,hp];rfl
  obtain⟨pb,po,lv,T,fz,rfl,hb,hk,hv⟩:=hgt i (pgC p) (by rw [aH,hp];rfl)
  have hby:=aFd p (aF1 (hall p (aP hp))).2.2.2.2
  have hpl:=dW p
  have hpo:OC (pgC p):=inferInstance
  have hsl:=wF (ps.take i)
  rw [aD] at hsl
  have hpbl:=aBl p
  generalize pgC p=Z at *
  refine W.k fun b_=>?_
  refine aL hby ?_
  intro v6 H6 h6
  have h61:=h6.isOne
  obtain⟨a6,l6,c6,rfl,hl6⟩:=h6.form
  rw [aI,hpbl] at hl6
  have h16:l6=16:=om
  subst h16
  refine W.ap hS (ys:=cbs (pgB p)) (mm:=16) (fun w2 hs=>h6.srcAt hs inferInstance) (fun v3 H3 h3=>?_) (hys:=by rw [aI,hpbl]) (hbytes:=by rw [aI,aI,hsl,hpbl];omega)
  have h31:=h3.isOne
  rw [← gT,← aDj,← hst] at h3
  refine W.k ?_
  refine aT.mk (i+1,v3,H3) ?_
  exact⟨hin,h3⟩
 ·have:i=ps.length:=om
  subst this
  rw [bT] at hS
  have hsl:=wF ps
  generalize rH ps=Y at *
  refine W.k ?_
  refine aL (yA bv Y 256 dc dc om) ?_ (hpre:=fun w2 hs=>Rd.own (Hc:=[]) hS hs inferInstance)
  rintro _ _ ⟨b,rfl,rfl⟩
  refine W.k ?_
  refine Fin.to [(b,cl (cbs (pad 256 Y)) 5)] ?_
  exact F.f2 ⟨_,rfl,Sl.own _ _ _ (len:=256) (by rw [aI,sD])⟩
def aAg(p:Pg):Prop:=0≤p.ser∧p.ser<18446744073709551616
theorem aGb(ps:List Pg)(hn:ps.length≤1000)(hall:∀ p∈ps,aAg p)(v:Value):Tri prog 87 [v] [] (fun w=>Rd [] w 5 v (dK ps)) (fun r H=>Sl 5 1 r (cbs (pad 256 (rH ps))) H):=by
 refine Tri.mk func87 rfl ntmps87 rfl fun w hw=>?_
 have hL:∀ y∈ps.map pgC,y.length=5:=fun y hy=>by
  obtain⟨x,hx,rfl⟩:=bG.1 hy
  exact dW x
 obtain⟨a,cap,rfl,hcap,hgt⟩:=hw.rows dc hL
 rw [aE] at hcap ⊢
 refine W.j ?_
 refine SW.block ?_
 refine W.j ?_
 refine bV [6,7] [] (fun x:Nat×Value×Hp=>[(3,x.2.1),(8,.int .i64 (x.1:Int))]) (fun x=>x.2.2) (fun x=>ps.length-x.1) (fun x=>x.1≤ps.length∧Sl 5 1 x.2.1 (cbs (rH (ps.take x.1))) x.2.2) (0,.slice none 0 0,[]) ⟨Nat.zero_le _,Sl.nil _ _⟩ ?_
 rintro⟨i,bv,Hb⟩ ⟨hi,hS⟩
 dsimp only at hi hS ⊢
 have hS1:=hS.isOne
 by_cases hin:i<ps.length
 ·obtain⟨p,hp⟩:∃ p,ps[i]?=some p:=⟨_,aA hin⟩
  have hst:ps.take (i+1)=ps.take i++[p]:=by rw [aO,hp];rfl
  obtain⟨pb,po,lv,T,fz,rfl,hb,hk,hv⟩:=hgt i (pgC p) (by rw [aH,hp];rfl)
  have hser:=hall p (aP hp)
  have hp1:=pA 2 (u64 p.run) om
  have hp2:=pA 4 (u64 p.size) om
  have hp3:=pA 8 (u64 p.ser) om
  unfold eK at hp3
  rw [oO hser] at hp3
  have hpl:=dW p
  have hbs:bQ (fun i=>some (i*1,1)) (zs [Value.int .u8 0] 2) [(0,.int .u8 ((i8 p.kind).toNat:Int)),(1,.int .u8 ((i8 p.cls).toNat:Int))]=some (cbs [i8 p.kind,i8 p.cls]):=rfl
  have e0:(pgC p)[0]?=some (.int .i64 p.kind):=rfl
  have e1:(pgC p)[1]?=some (.int .i64 p.cls):=rfl
  have e2:(pgC p)[2]?=some (.int .i64 p.run):=rfl
  have e3:(pgC p)[3]?=some (.int .i64 p.size):=rfl
  have e4:(pgC p)[4]?=some (.int .u64 p.ser):=rfl
  have hpo:OC (pgC p):=inferInstance
  have hsl:=wF (ps.take i)
  rw [aD] at hsl
  have hX:rH (ps.take (i+1))=rH (ps.take i)++[i8 p.kind,i8 p.cls]++leN 2 (u64 p.run)++leN 4 (u64 p.size)++leN 8 (u64 p.ser):=by
   rw [hst,aDj,pgB];simp only [bE]
  have k2:(leN 2 (u64 p.run)).length=2:=cJ ..
  have k4:(leN 4 (u64 p.size)).length=4:=cJ ..
  have k8:(leN 8 (u64 p.ser)).length=8:=cJ ..
  generalize leN 2 (u64 p.run)=L2 at *
  generalize leN 4 (u64 p.size)=L4 at *
  generalize leN 8 (u64 p.ser)=L8 at *
  generalize pgC p=Z at *
  generalize rH (ps.take i)=Y at *
  refine W.k fun _ b_=>?_
  refine W.ap hS (ys:=cbs [i8 p.kind,i8 p.cls]) (mm:=2) (fun w2 hs=>(Sl.own 5 1 b_ (len:=2) (xs:=cbs [i8 p.kind,i8 p.cls]) rfl).srcAt hs inferInstance) (fun v3 H3 h3=>?_) (hys:=rfl) (hbytes:=by rw [aI,aI,hsl];simp only [aW,dA];omega)
  rw [← gT] at h3
  have h31:=h3.isOne
  have l3:(Y++[i8 p.kind,i8 p.cls]).length=16*min i ps.length+2:=by rw [aC,hsl];rfl
  generalize Y++[i8 p.kind,i8 p.cls]=Y3 at *
  refine W.k ?_
  refine aL hp1 ?_
  intro q4 Hq4 hq4
  have hq41:=hq4.isOne
  obtain⟨a4,l4,c4,rfl,hl4⟩:=hq4.form
  rw [aI,k2] at hl4
  have g4:l4=2:=om
  subst g4
  refine W.k ?_
  refine W.ap h3 (ys:=cbs L2) (mm:=2) (fun w2 hs=>hq4.srcAt hs inferInstance) (fun v4 H4 h4=>?_) (hys:=by rw [aI,k2]) (hbytes:=by rw [aI,aI,l3,k2];omega)
  rw [← gT] at h4
  have h41:=h4.isOne
  have l4:(Y3++L2).length=16*min i ps.length+4:=by rw [aC,l3,k2]
  generalize Y3++L2=Y4 at *
  refine W.k ?_
  refine aL hp2 ?_
  intro q5 Hq5 hq5
  have hq51:=hq5.isOne
  obtain⟨a5,l5,c5,rfl,hl5⟩:=hq5.form
  rw [aI,k4] at hl5
  have g5:l5=4:=om
  subst g5
  refine W.k ?_
  refine W.ap h4 (ys:=cbs L4) (mm:=4) (fun w2 hs=>hq5.srcAt hs inferInstance) (fun v5 H5 h5=>?_) (hys:=by rw [aI,k4]) (hbytes:=by rw [aI,aI,l4,k4];omega)
  rw [← gT] at h5
  have h51:=h5.isOne
  have l5:(Y4++L4).length=16*min i ps.length+8:=by rw [aC,l4,k4]
  generalize Y4++L4=Y5 at *
  refine W.k ?_
  refine aL hp3 ?_
  intro q6 Hq6 hq6
  have hq61:=hq6.isOne
  obtain⟨a6,l6,c6,rfl,hl6⟩:=hq6.form
  rw [aI,k8] at hl6
  have g6:l6=8:=om
  subst g6
  refine W.k ?_
  refine W.ap h5 (ys:=cbs L8) (mm:=8) (fun w2 hs=>hq6.srcAt hs inferInstance) (fun v6 H6 h6=>?_) (hys:=by rw [aI,k8]) (hbytes:=by rw [aI,aI,l5,k8];omega)
  rw [← gT] at h6
  have h61:=h6.isOne
  have l6:(Y5++L8).length=16*min i ps.length+16:=by rw [aC,l5,k8]
  generalize Y5++L8=Y6 at *
  refine W.k ?_
  refine aT.mk (i+1,v6,H6) ?_
  exact⟨hin,hX▸h6⟩
 ·have:i=ps.length:=om
  subst this
  rw [bT] at hS
  have hsl:=wF ps
  generalize rH ps=Y at *
  refine W.k ?_
  refine aL (aD8 bv Y 256 dc) ?_ (hpre:=fun w2 hs=>Rd.own (Hc:=[]) hS hs inferInstance)
  intro v6 H6 h6
  have h61:=h6.isOne
  refine W.k ?_
  refine Fin.to H6 ?_
  exact F.f1 h6
end
section
attribute [local irreducible] SW SL SQ SH SA SS Pu Fin bZ aT
theorem aGd(p:Pg):Tri prog 162 [.agg (pgC p).toArray] [] (fun _=>True) (fun v H=>v=.bool (fJ p)∧H=[]):=by
 refine Tri.mk func162 rfl ntmps162 rfl fun w hw=>?_
 have hpl:=dW p
 have e0:(pgC p)[0]?=some (.int .i64 p.kind):=rfl
 have e1:(pgC p)[1]?=some (.int .i64 p.cls):=rfl
 have e2:(pgC p)[2]?=some (.int .i64 p.run):=rfl
 have e3:(pgC p)[3]?=some (.int .i64 p.size):=rfl
 have e4:(pgC p)[4]?=some (.int .u64 p.ser):=rfl
 have hpo:OC (pgC p):=inferInstance
 have hq:=gB p
 by_cases k0:p.kind=0
 ·have hb:bQ (fun i=>[(0,1),(1,1),(2,1),(3,1),(4,1)][i]?) ([.int .i64 0]++[.int .i64 0]++[.int .i64 0]++[.int .i64 0]++[.int .u64 0]) [(0,.int .i64 p.kind)]=some (pgC (.pl p.kind)):=rfl
  have hq2:=gB (.pl p.kind)
  rw [aOA k0,show b0 p=decide (p=.pl p.kind) by unfold b0;rw [k0]]
  by_cases h:p=.pl p.kind
  ·rw [decide_eq_true h]
   have he:=congrArg pgC h
   clear h
   generalize pgC (.pl p.kind)=Y at *
   generalize pgC p=X at *
   refine W.k fun b_=>?_
   refine bJ (lS rfl rfl rfl hq hq2 he) rfl rfl ?_
   refine W.k ?_
   exact F.n
  ·rw [decide_eq_false h]
   have he:pgC p≠pgC (.pl p.kind):=fun hh=>h (oK hh)
   clear h
   generalize pgC (.pl p.kind)=Y at *
   generalize pgC p=X at *
   refine W.k fun b_=>?_
   refine bJ (nC rfl rfl rfl hq hq2 he) rfl rfl ?_
   refine W.k ?_
   exact F.n
 by_cases k3:p.kind=3
 ·have hb:bQ (fun i=>[(0,1),(1,1),(2,1),(3,1),(4,1)][i]?) ([.int .i64 0]++[.int .i64 0]++[.int .i64 0]++[.int .i64 0]++[.int .u64 0]) [(0,.int .i64 p.kind)]=some (pgC (.pl p.kind)):=rfl
  have hq2:=gB (.pl p.kind)
  rw [aMb k3,show b3 p=decide (p=.pl p.kind) by unfold b3;rw [k3]]
  by_cases h:p=.pl p.kind
  ·rw [decide_eq_true h]
   have he:=congrArg pgC h
   clear h
   generalize pgC (.pl p.kind)=Y at *
   generalize pgC p=X at *
   refine W.k fun b_=>?_
   refine bJ (lS rfl rfl rfl hq hq2 he) rfl rfl ?_
   refine W.k ?_
   exact F.n
  ·rw [decide_eq_false h]
   have he:pgC p≠pgC (.pl p.kind):=fun hh=>h (oK hh)
   clear h
   generalize pgC (.pl p.kind)=Y at *
   generalize pgC p=X at *
   refine W.k fun b_=>?_
   refine bJ (nC rfl rfl rfl hq hq2 he) rfl rfl ?_
   refine W.k ?_
   exact F.n
 by_cases k1:p.kind=1
 ·have hb:bQ (fun i=>[(0,1),(1,1),(2,1),(3,1),(4,1)][i]?) ([.int .i64 0]++[.int .i64 0]++[.int .i64 0]++[.int .i64 0]++[.int .u64 0]) [(0,.int .i64 1),(1,.int .i64 p.cls)]=some (pgC ⟨1,p.cls,0,0,0⟩):=rfl
  have hq2:=gB ⟨1,p.cls,0,0,0⟩
  have hc:=aLK p.cls
  rw [aOB k1]
  unfold b1
  by_cases h:p=⟨1,p.cls,0,0,0⟩
  ·have he:=congrArg pgC h
   by_cases h2:0<oA p.cls
   ·rw [decide_eq_true ⟨h,h2⟩]
    clear h
    generalize pgC ⟨1,p.cls,0,0,0⟩=Y at *
    generalize pgC p=X at *
    refine W.k fun b_=>?_
    refine bJ (lS rfl rfl rfl hq hq2 he) rfl rfl ?_
    refine W.k ?_
    refine W.cw hc ?_
    exact F.n
   ·rw [decide_eq_false fun hh=>h2 hh.2]
    clear h
    generalize pgC ⟨1,p.cls,0,0,0⟩=Y at *
    generalize pgC p=X at *
    refine W.k fun b_=>?_
    refine bJ (lS rfl rfl rfl hq hq2 he) rfl rfl ?_
    refine W.k ?_
    refine W.cw hc ?_
    exact F.n
  ·rw [decide_eq_false fun hh=>h hh.1]
   have he:pgC p≠pgC ⟨1,p.cls,0,0,0⟩:=fun hh=>h (oK hh)
   clear h
   generalize pgC ⟨1,p.cls,0,0,0⟩=Y at *
   generalize pgC p=X at *
   refine W.k fun b_=>?_
   refine bJ (nC rfl rfl rfl hq hq2 he) rfl rfl ?_
   refine W.k ?_
   exact F.n
 by_cases k2:p.kind=2
 ·have hc:=aJ3 p.size
  rw [aJn k2,show b2 p=decide (120<p.size∧p.size≤4096∧p.run=iS p.size∧p.cls=0∧0<p.ser∧p.ser<281474976710656) by
   unfold b2
   refine decide_eq_decide.2 ⟨fun⟨h1,h2,h3,h4,h5⟩=>⟨h1,h2,by rw [h3],by rw [h3],h4,by omega⟩,fun⟨h1,h2,h3,h4,h5,h6⟩=>⟨h1,h2,?_,h5,by omega⟩⟩
   obtain⟨a,b,c,d,e⟩:=p
   simp only at k2 h3 h4 ⊢
   rw [k2,h3,h4]]
  generalize iS p.size=N at *
  generalize pgC p=X at *
  by_cases h1:120<p.size∧p.size≤4096
  ·rw [decide_eq_true h1] at hc
   by_cases h3:p.run=N
   ·by_cases h4:p.cls=0
    ·by_cases h5:0<p.ser
     ·by_cases h6:p.ser<281474976710656
      ·rw [decide_eq_true ⟨h1.1,h1.2,h3,h4,h5,h6⟩]
       refine W.k fun b_=>?_
       refine W.cw hc ?_
       exact F.n
      ·rw [decide_eq_false fun h=>h6 h.2.2.2.2.2]
       refine W.k fun b_=>?_
       refine W.cw hc ?_
       exact F.n
     ·rw [decide_eq_false fun h=>h5 h.2.2.2.2.1]
      refine W.k fun b_=>?_
      refine W.cw hc ?_
      exact F.n
    ·rw [decide_eq_false fun h=>h4 h.2.2.2.1]
     refine W.k fun b_=>?_
     refine W.cw hc ?_
     exact F.n
   ·rw [decide_eq_false fun h=>h3 h.2.2.1]
    refine W.k fun b_=>?_
    refine W.cw hc ?_
    exact F.n
  ·rw [decide_eq_false h1] at hc
   rw [decide_eq_false fun h=>h1 ⟨h.1,h.2.1⟩]
   refine W.k fun b_=>?_
   refine W.cw hc ?_
   exact F.n
 ·rw [aOC k0 k1 k2 k3]
  generalize pgC p=X at *
  refine W.k fun b_=>?_
  exact F.n
def okG(ps:List Pg):Bool:=ps.all fJ&&chk 0 ps
def aFa(q:Pg):Bool:=fJ q&&decide (q.kind=3)
def aFo(p:Pg):Int:=if p.kind=2 then p.run else 1
theorem aJv(p:Pg)(r:List Pg):okG (p::r)=(fJ p&&decide (p.kind≠3)&&(decide (aFo p≤((r.length+1:Nat):Int))&&((r.take ((aFo p).toNat-1)).all aFa&&okG (r.drop ((aFo p).toNat-1))))):=by
 unfold okG
 rw [aDN (r.length+1) (p::r) (by simp),aDN r.length (r.drop ((aFo p).toNat-1)) (by simp)]
 rfl
theorem aDF{lv Z:List Value}{m n i:Nat}{v:Value}(h:(lv.drop m).take n=Z)(hz:Z[i]?=some v)(hi:i<n):lv[m+i]?=some v:=by
 rw [← hz,← h,bI,if_pos hi,bD]
theorem aNI(ps:List Pg)(hn:ps.length≤1000000)(v:Value):Tri prog 98 [v] [] (fun w=>Rd [] w 5 v (dK ps)) (fun r H=>r=.bool (vH ps)∧H=[]):=by
 refine Tri.mk func98 rfl ntmps98 rfl fun w hw=>?_
 have hL:∀ y∈ps.map pgC,y.length=5:=fun y hy=>by
  obtain⟨x,hx,rfl⟩:=bG.1 hy
  exact dW x
 obtain⟨a,cap,rfl,hcap,hgt⟩:=hw.rows dc hL
 rw [aE] at hcap ⊢
 by_cases h64:64<ps.length
 ·have ho:vH ps=false:=by unfold vH;rw [decide_eq_false om];rfl
  rw [ho]
  refine W.k ?_
  exact F.n
 have ho:vH ps=okG ps:=by unfold vH okG;rw [decide_eq_true om];rfl
 rw [ho]
 refine W.j ?_
 refine SW.block ?_
 refine W.j ?_
 refine bV [0] [] (fun k:Nat=>[(3,.int .i64 (k:Int))]) (fun _=>[]) (fun k=>ps.length-k) (fun k=>k≤ps.length∧okG ps=okG (ps.drop k)) 0 ⟨Nat.zero_le _,rfl⟩ ?_
 rintro k ⟨hk,hok⟩
 by_cases hin:k<ps.length
 ·obtain⟨p,hp⟩:∃ p,ps[k]?=some p:=⟨_,aA hin⟩
  have hdr:ps.drop k=p::ps.drop (k+1):=by
   rw [bM hin]
   rw [aA hin] at hp
   rw [lW hp]
  rw [hdr,aJv,aK] at hok
  obtain⟨pb,po,lv,T,fz,rfl,hb,hk5,hv⟩:=hgt k (pgC p) (by rw [aH,hp];rfl)
  have hone:=aGd p
  have hpl:=dW p
  have hk0:(pgC p)[0]?=some (.int .i64 p.kind):=rfl
  have hk2:(pgC p)[2]?=some (.int .i64 p.run):=rfl
  have hpo:OC (pgC p):=inferInstance
  have hl0:lv[po+k*5]?=some (.int .i64 p.kind):=aDF (i:=0) hv hk0 dc
  have hl2:lv[po+k*5+2]?=some (.int .i64 p.run):=aDF (i:=2) hv hk2 dc
  cases hm:fJ p with
  | false=>
   rw [hm] at hone hok
   rw [show okG ps=false by rw [hok];rfl]
   generalize pgC p=Z at *
   refine W.k ?_
   refine W.cw hone ?_
   exact F.n
  | true=>
   rw [hm] at hone hok
   by_cases h3:p.kind=3
   ·rw [show okG ps=false by rw [hok,decide_eq_false (by rw [h3];decide)];rfl]
    generalize pgC p=Z at *
    refine W.k ?_
    refine W.cw hone ?_
    exact F.n
   rw [decide_eq_true h3,dZ,dZ] at hok
   generalize pgC p=Z at *
   obtain⟨j,hj,hj16⟩:∃ j:Nat,aFo p=((j+1:Nat):Int)∧j≤16:=by
    unfold aFo
    by_cases h2:p.kind=2
    ·have:=aEe hm h2
     have:=aJ7 hm h2
     rw [if_pos h2]
     exact⟨(p.run-1).toNat,by omega,by omega⟩
    ·exact⟨0,by rw [if_neg h2];rfl,by decide⟩
   rw [hj,show ((j+1:Nat):Int).toNat-1=j by omega,bR] at hok
   refine W.k ?_
   refine W.cq hone ?_
   refine W.j ?_
   refine bJ (tO rfl rfl rfl rfl) rfl rfl ?_
   refine W.j ?_
   refine cN [0,3] [] (fun _:Unit=>[(4,.int .i64 ((j+1:Nat):Int))]) (fun _=>[]) (fun _=>True) ?_ ?_
   ·by_cases h2:p.kind=2
    ·rw [aFo,if_pos h2] at hj
     rw [hj] at hl2
     rw [decide_eq_true (show rD .eql p.kind 2 from h2)]
     refine W.k ?_
     refine bZ.mk () ?_
     trivial
    ·rw [aFo,if_neg h2] at hj
     have:j=0:=om
     subst this
     rw [decide_eq_false (show ¬ rD .eql p.kind 2 from h2)]
     refine W.k ?_
     refine bZ.mk () ?_
     trivial
   rintro _ -
   clear hone hk0 hk2 hl0 hl2 hv hb hk5 hpo hpl
   by_cases hle:j≤ps.length-(k+1)
   ·rw [decide_eq_true om,dZ] at hok
    have hle':k+(j+1)≤ps.length:=om
    have hnl:¬ ((j+1:Nat):Int)>(ps.length:Int)-(k:Int):=om
    refine W.j ?_
    refine SW.block ?_
    refine W.j ?_
    refine bV [0,3,4] [] (fun i:Nat=>[(5,.int .i64 (i:Int))]) (fun _=>[]) (fun i=>ps.length-i) (fun i=>k<i∧i≤k+(j+1)∧((ps.drop (k+1)).take j).all aFa=((ps.drop i).take (k+(j+1)-i)).all aFa) (k+1) ⟨by omega,by omega,by rw [show k+(j+1)-(k+1)=j by omega]⟩ ?_
    rintro i ⟨hi1,hi2,hall⟩
    by_cases hii:i<k+(j+1)
    ·obtain⟨q,hq⟩:∃ q,ps[i]?=some q:=⟨_,aA om⟩
     have hdi:ps.drop i=q::ps.drop (i+1):=by
      rw [bM om]
      rw [aA om] at hq
      rw [lW hq]
     rw [hdi,show k+(j+1)-i=(k+(j+1)-(i+1))+1 by omega,jN,lX] at hall
     obtain⟨qb,qo,lv,T,fz,hqe,hb,hk5,hv⟩:=hgt i (pgC q) (by rw [aH,hq];rfl)
     cases hqe
     have hone:=aGd q
     have hpl:=dW q
     have hk0:(pgC q)[0]?=some (.int .i64 q.kind):=rfl
     have hpo:OC (pgC q):=inferInstance
     have hl0:lv[po+i*5]?=some (.int .i64 q.kind):=aDF (i:=0) hv hk0 dc
     cases hm2:fJ q with
     | false=>
      rw [hm2] at hone
      rw [show okG ps=false by rw [hok,hall,aFa,hm2];rfl]
      generalize pgC q=Z at *
      refine W.k ?_
      refine W.cw hone ?_
      exact F.n
     | true=>
      rw [hm2] at hone
      by_cases hq3:q.kind=3
      ·rw [show aFa q=true by rw [aFa,hm2,decide_eq_true hq3];rfl,dZ] at hall
       generalize pgC q=Z at *
       refine W.k ?_
       refine W.cw hone ?_
       refine aT.mk (i+1) ?_
       exact⟨by omega,by omega,hall⟩
      ·rw [show okG ps=false by rw [hok,hall,aFa,hm2,decide_eq_false hq3];rfl]
       generalize pgC q=Z at *
       refine W.k ?_
       refine W.cw hone ?_
       exact F.n
    ·have:i=k+(j+1):=om
     subst this
     rw [dM,cQ] at hall
     rw [hall,show ([]:List Pg).all aFa=true from rfl,dZ] at hok
     refine W.k ?_
     refine aT.mk (k+(j+1)) ?_
     refine⟨hle',?_⟩
     rw [hok,show k+1+j=k+(j+1) by omega]
   ·rw [decide_eq_false om,eH] at hok
    rw [hok]
    refine W.k ?_
    exact F.n
 ·have:k=ps.length:=om
  subst this
  rw [mV] at hok
  rw [hok,show okG []=true from rfl]
  refine W.k ?_
  exact F.n
end
section
attribute [local irreducible] SW SL SQ SH SA SS Pu Fin bZ aT SX SJ
def fQ(bs:List UInt8):List Pg:=(List.range 16).map fun k=>aAH ((bs.drop (16*k)).take 16)
theorem qX(bs:List UInt8):(fQ bs).length=16:=by unfold fQ;rw [aE,cZ]
theorem aAI(bs:List UInt8){k:Nat}(hk:k<16):(fQ bs)[k]?=some (aAH ((bs.drop (16*k)).take 16)):=by
 unfold fQ;rw [aH,dY hk];rfl
theorem zV(ps:List Pg)(p:Pg):dK (ps++[p])=dK ps++pgC p:=by
 rw [dK,bB,eW]
 simp only [dO,jB,dG,iZ,aJ]
theorem gM(ps:List Pg):(dK ps).length=ps.length*5:=by
 rw [eD (n:=5) fun x hx=>by obtain⟨y,-,rfl⟩:=bG.1 hx;exact dW y,aE]
theorem aBQ{b:List UInt8}(h:b.length≤4):eP b<4294967296:=by
 have h1:=tD (b.take 8)
 have h2:256^(b.take 8).length≤256^4:=cV dc (by rw [aD];omega)
 unfold eP
 omega
theorem wO(bs:List UInt8)(k i m:Nat)(h:i+m≤16):(((bs.drop k).take 16).drop i).take m=(bs.drop (k+i)).take m:=by
 rw [jX,bR,fS,dB om]
theorem aLw(bs:List UInt8)(k:Nat)(c0 c1:UInt8)(h0:bs[k]?=some c0)(h1:bs[k+1]?=some c1):aAH ((bs.drop k).take 16)=⟨(c0.toNat:Nat),(c1.toNat:Nat),(eP ((bs.drop (k+2)).take 2):Nat),(eP ((bs.drop (k+4)).take 4):Nat),(eP ((bs.drop (k+8)).take 8):Nat)⟩:=by
 have e:∀ (i:Nat) (c:UInt8),bs[i]?=some c→(bs.drop i).take 1=[c]:=fun i c h=>by
  obtain⟨hi,he⟩:=aG.1 h
  rw [bM hi,he];rfl
 unfold aAH
 have e0:=wO bs k 0 1 dc
 rw [bH] at e0
 rw [e0,wO bs k 1 1 dc,wO bs k 2 2 dc,wO bs k 4 4 dc,wO bs k 8 8 dc,jP,e k c0 h0,e (k+1) c1 h1,vW,vW]
theorem aGe(bs:List UInt8)(h256:bs.length=256)(v:Value):Tri prog 89 [v] [] (fun w=>Rd [] w 1 v (cbs bs)) (fun r H=>∃ x,r=.tuple #[x,.bool ((fQ bs).all fJ)]∧Sl 177 5 x (dK (if (fQ bs).all fJ=true then fQ bs else [])) H):=by
 refine Tri.mk func89 rfl ntmps89 rfl fun w hw=>?_
 have hw0:=hw
 obtain⟨a,la,cap,rfl,hl1,hc1,hr1⟩:=hw.get
 rw [aI,Nat.mul_one,h256] at hl1
 subst hl1
 obtain⟨b,o,l,T,fz,rfl,hb,hkK,hy⟩:=hr1 dc
 have hwo:One (Value.slice (some ⟨b,o,none⟩) 256 cap):=⟨rfl⟩
 have hpl:=qX bs
 refine W.j ?_
 refine SW.block ?_
 refine W.j ?_
 refine bV [0] [] (fun x:Nat×Value×Hp=>[(4,x.2.1),(5,.int .i64 ((16*x.1:Nat):Int))]) (fun x=>x.2.2) (fun x=>16-x.1) (fun x=>x.1≤16∧Sl 177 5 x.2.1 (dK ((fQ bs).take x.1)) x.2.2∧((fQ bs).take x.1).all fJ=true) (0,.slice none 0 0,[]) ⟨Nat.zero_le _,Sl.nil _ _,rfl⟩ ?_
 rintro⟨j,bv,Hb⟩ ⟨hj,hS,hall⟩
 dsimp only at hj hS hall ⊢
 have hS1:=hS.isOne
 by_cases hin:j<16
 ·have hpe:=aAI bs hin
  have hst:(fQ bs).take (j+1)=(fQ bs).take j++[aAH ((bs.drop (16*j)).take 16)]:=by rw [aO,hpe];rfl
  have hk16:((16*j:Nat):Int)+16=((16*(j+1):Nat):Int):=om
  have hlt:(fQ bs).length=16:=hpl
  generalize hk:16*j=k at *
  have hk2:k+16≤256:=om
  obtain⟨c0,hc0⟩:∃ c,bs[k]?=some c:=⟨_,aA om⟩
  obtain⟨c1,hc1'⟩:∃ c,bs[k+1]?=some c:=⟨_,aA om⟩
  have g0:l[o+k]?=some (.int .u8 (c0.toNat:Int)):=sO hy hc0
  have g1:l[o+(k+1)]?=some (.int .u8 (c1.toNat:Int)):=sO hy hc1'
  have b0:=c0.toNat_lt
  have b1:=c1.toNat_lt
  rw [aLw bs k c0 c1 hc0 hc1'] at hpe hst
  have s2:=hw0.sub (k+2) (k+4) (cap-(k+2)) om om om
  have s3:=hw0.sub (k+4) (k+8) (cap-(k+4)) om om om
  have s4:=hw0.sub (k+8) (k+16) (cap-(k+8)) om om om
  rw [show (bs.drop (k+2)).take (k+4-(k+2))=(bs.drop (k+2)).take 2 by congr 1;omega] at s2
  rw [show (bs.drop (k+4)).take (k+8-(k+4))=(bs.drop (k+4)).take 4 by congr 1;omega] at s3
  rw [show (bs.drop (k+8)).take (k+16-(k+8))=(bs.drop (k+8)).take 8 by congr 1;omega] at s4
  have t2:=uO (.slice (some ⟨b,o+(k+2),none⟩) (k+4-(k+2)) (cap-(k+2))) ((bs.drop (k+2)).take 2) (by rw [aD];omega)
  have t3:=uO (.slice (some ⟨b,o+(k+4),none⟩) (k+8-(k+4)) (cap-(k+4))) ((bs.drop (k+4)).take 4) (by rw [aD];omega)
  have t4:=uO (.slice (some ⟨b,o+(k+8),none⟩) (k+16-(k+8)) (cap-(k+8))) ((bs.drop (k+8)).take 8) (by rw [aD];omega)
  have v2:=aBP (b:=(bs.drop (k+2)).take 2) (by rw [aD];omega)
  have v3:=aBQ (b:=(bs.drop (k+4)).take 4) (by rw [aD];omega)
  generalize (bs.drop (k+2)).take 2=B2 at *
  generalize (bs.drop (k+4)).take 4=B3 at *
  generalize (bs.drop (k+8)).take 8=B4 at *
  generalize hN2:eP B2=n2 at *
  generalize hN3:eP B3=n3 at *
  generalize hN4:eP B4=n4 at *
  generalize hN:c0.toNat=n0 at *
  generalize hN1:c1.toNat=n1 at *
  have i0:Cv .i64 ((n0:Nat):Int) ((n0:Nat):Int):=⟨w64 om⟩
  have i1:Cv .i64 ((n1:Nat):Int) ((n1:Nat):Int):=⟨w64 om⟩
  have i2:Cv .i64 ((n2:Nat):Int) ((n2:Nat):Int):=⟨w64 om⟩
  have i3:Cv .i64 ((n3:Nat):Int) ((n3:Nat):Int):=⟨w64 om⟩
  have hbp:bQ (fun i=>[(0,1),(1,1),(2,1),(3,1),(4,1)][i]?) ([.int .i64 0]++[.int .i64 0]++[.int .i64 0]++[.int .i64 0]++[.int .u64 0]) [(0,.int .i64 (n0:Nat)),(1,.int .i64 (n1:Nat)),(2,.int .i64 (n2:Nat)),(3,.int .i64 (n3:Nat)),(4,.int .u64 (n4:Nat))]=some (pgC ⟨(n0:Nat),(n1:Nat),(n2:Nat),(n3:Nat),(n4:Nat)⟩):=rfl
  have hpc:=dW ⟨(n0:Nat),(n1:Nat),(n2:Nat),(n3:Nat),(n4:Nat)⟩
  have hone:=aGd ⟨(n0:Nat),(n1:Nat),(n2:Nat),(n3:Nat),(n4:Nat)⟩
  have hpo:OC (pgC ⟨(n0:Nat),(n1:Nat),(n2:Nat),(n3:Nat),(n4:Nat)⟩):=inferInstance
  have hX:dK ((fQ bs).take (j+1))=dK ((fQ bs).take j)++pgC ⟨(n0:Nat),(n1:Nat),(n2:Nat),(n3:Nat),(n4:Nat)⟩:=by rw [hst,zV]
  have hb5:bQ (fun i=>some (i*5,5)) (zs [.int .i64 0,.int .i64 0,.int .i64 0,.int .i64 0,.int .u64 0] 1) [(0,.agg (pgC ⟨(n0:Nat),(n1:Nat),(n2:Nat),(n3:Nat),(n4:Nat)⟩).toArray)]=some (pgC ⟨(n0:Nat),(n1:Nat),(n2:Nat),(n3:Nat),(n4:Nat)⟩):=rfl
  have hfl:(dK ((fQ bs).take j)).length≤80:=by rw [gM,aD];omega
  refine W.k ?_
  refine cN [0,4,5] [] (fun y:Nat=>[(6,.pointer (some ⟨y,0,none⟩))]) (fun y=>[(y,cl (pgC ⟨(n0:Nat),(n1:Nat),(n2:Nat),(n3:Nat),(n4:Nat)⟩) 177)]) (fun _=>True) ?_ ?_
  rotate_left
  ·rintro b9 -
   clear hbp s2 s3 s4 t2 t3 t4
   rw [aA om] at hpe
   have hpm:=dR (l:=fQ bs) (n:=j) om
   rw [lW hpe] at hpm
   generalize (⟨(n0:Nat),(n1:Nat),(n2:Nat),(n3:Nat),(n4:Nat)⟩:Pg)=p at *
   generalize pgC p=Z at *
   cases hm:fJ p with
   | false=>
    rw [hm] at hone
    rw [show (fQ bs).all fJ=false from mE.2 ⟨p,hpm,by rw [hm];decide⟩,if_neg dc]
    refine W.k ?_
    refine W.cw hone ?_
    refine Fin.to [] ?_
    exact F.f2 ⟨_,rfl,Sl.nil _ _⟩
   | true=>
    rw [hm] at hone
    refine W.k ?_
    refine W.cw hone ?_;intro b_
    refine W.ap (ys:=Z) (mm:=1) hS (fun w2 hs=>(Sl.own 177 5 b_ (xs:=Z) (len:=1) hpc).srcAt hs inferInstance) (fun v3 H3 h3=>?_) (hys:=hpc) (hbytes:=by rw [hpc];omega)
    have h31:=h3.isOne
    rw [← hX] at h3
    refine W.k ?_
    rw [hk16]
    refine aT.mk (j+1,v3,H3) ?_
    exact⟨hin,h3,by rw [hst,gR,hall];simp [hm]⟩
  (refine SW.l [] [0,1,2,3,4,5,6,7,8,9,10,11,12,13,14,15] ?_;refine dL 16 rfl (yP rfl rfl rfl rfl om om) ?_;refine SG.l [19,20,21,22,23] ?_;refine dL 24 rfl (yP rfl rfl rfl rfl om om) ?_;refine SG.l [27,28,29,30,31] ?_;refine dL 32 rfl (yP rfl rfl rfl rfl om om) ?_;skip )
  repeat' (first
   | refine fX 17 35 ?_ ?_ rfl rfl (hok:=by decide +kernel)|refine fX 25 35 ?_ ?_ rfl rfl (hok:=by decide +kernel)|refine fX 33 35 ?_ ?_ rfl rfl (hok:=by decide +kernel)
   | refine kB 17 ?_ rfl (by decide +kernel)|refine kB 25 ?_ rfl (by decide +kernel)|refine kB 33 ?_ rfl (by decide +kernel)|refine kB 35 ?_ rfl (by decide +kernel)
   | refine dL 18 rfl (aJF rfl rfl) ?_ (by decide +kernel)|refine dL 26 rfl (aJF rfl rfl) ?_ (by decide +kernel)|refine dL 34 rfl (mH rfl rfl hbp) ?_ (by decide +kernel)
   | (refine dV t2 rfl ?_ (hpre:=fun w2 hs=>s2.ro (Hc:=[]) hs);rintro _ _ ⟨rfl,rfl⟩;refine cU ?_)
   | (refine dV t3 rfl ?_ (hpre:=fun w2 hs=>s3.ro (Hc:=[]) hs);rintro _ _ ⟨rfl,rfl⟩;refine cU ?_)
   | (refine dV t4 rfl ?_ (hpre:=fun w2 hs=>s4.ro (Hc:=[]) hs);rintro _ _ ⟨rfl,rfl⟩;refine cU ?_)
   | (refine W.al fun b9=>?_;refine cU ?_))
  all_goals
   refine aX 36 ?_
   refine W.k ?_
   refine eI ?_
   exact bZ.mk _ trivial
 ·have:j=16:=om
  subst this
  rw [aB om] at hS hall
  rw [hall,if_pos rfl]
  refine W.k ?_
  refine Fin.to Hb ?_
  exact F.f2 ⟨_,rfl,hS⟩
end
section
attribute [local irreducible] SW SL SQ SH SA SS Pu Fin bZ aT
theorem aFl:gC 0 z16=List.replicate 256 0:=by decide +kernel
def hE(n:Int)(l:List Int):Int:=if (n=0∧l=z16)∨rOk n l=true then 0 else 1
theorem aBR{n:Int}{l:List Int}(hl:l.length=16)(hu:∀ h∈l,isU h)(hn:isU n):Tri prog 92 [.agg (bP n l).toArray] [] (fun _=>True) (fun v H=>∃ x,v=.tuple #[x,.int .i64 (hE n l)]∧Sl 5 1 x (cbs (if hE n l=0 then gC n l else [])) H):=by
 refine Tri.mk func92 rfl ntmps92 rfl fun w hw=>?_
 have f1:(bP n l).length=17:=by rw [bU,hl]
 have o1:OC (bP n l):=inferInstance
 have g0:(bP n l)[0]?=some (.int .u64 n):=rfl
 have t1:((bP n l).drop 1).take 16=l.map fun h=>(.int .u64 h:Value):=by
  show (l.map fun h=>(.int .u64 h:Value)).take 16=_
  rw [aB (by rw [aE,hl];omega)]
 have hll:(l.map fun h=>(.int .u64 h:Value)).length=16:=by rw [aE,hl]
 have hb0:bQ (fun i=>[(0,1),(1,16)][i]?) ([.int .u64 0]++List.replicate 16 (.int .u64 0)) []=some (bP 0 z16):=rfl
 have q1:=wK n l hl
 have q2:=wK 0 z16 rfl
 have hR:=aI6 hl hu hn.1
 have l0:(bP 0 z16).length=17:=rfl
 have o0:OC (bP 0 z16):=inferInstance
 have hinj:=@xF n 0 l z16
 have hnil:∀ w2,Rd [] w2 1 (.slice none 0 0) (cbs []):=fun w2=>Rd.nil [] w2 1
 by_cases h0:n=0∧l=z16
 ·have he:bP n l=bP 0 z16:=by rw [h0.1,h0.2]
  rw [show hE n l=0 from if_pos (.inl h0),if_pos rfl,h0.1,h0.2]
  rw [h0.1,h0.2] at q1
  have hpz:pad 256 ([]:List UInt8)=gC 0 z16:=by rw [aFl];decide +kernel
  have hB0:=aCh 0 z16
  clear hinj he
  generalize gC 0 z16=B at *
  refine W.k fun b_=>?_
  refine bJ (lS rfl rfl rfl q1 q2 rfl) rfl rfl ?_
  refine W.k ?_
  refine aL (yA (.slice none 0 0) [] 256 dc dc dc) ?_ (hpre:=fun w2 _=>hnil w2)
  rintro _ _ ⟨b,rfl,rfl⟩
  rw [hpz]
  refine W.k ?_
  refine Fin.to [(b,cl (cbs B) 5)] ?_
  exact F.f2 ⟨_,rfl,Sl.own _ _ _ (len:=256) (by rw [aI,hB0])⟩
 have hne:bP n l≠bP 0 z16:=fun h=>h0 (hinj h)
 cases hr:rOk n l with
 | false=>
  rw [show hE n l=1 from if_neg (by rw [hr];simp [h0]),if_neg dc]
  rw [hr] at hR
  generalize bP n l=Z at *
  generalize bP 0 z16=Z0 at *
  refine W.k fun b_=>?_
  refine bJ (nC rfl rfl rfl q1 q2 hne) rfl rfl ?_
  refine W.k ?_
  refine W.cw hR ?_
  refine Fin.to [] ?_
  exact F.f2 ⟨_,rfl,Sl.nil _ _⟩
 | true=>
  rw [show hE n l=0 from if_pos (.inr hr),if_pos rfl]
  rw [hr] at hR
  have hp0:=rJ 8 (u64 n) om om
  unfold eK at hp0
  rw [oO hn] at hp0
  have h00:kW n (l.take 0)=leN 8 (u64 n):=by rw [kW,cQ];simp
  rw [← h00] at hp0
  have hB:gC n l=pad 256 (kW n l):=rfl
  have hhl:(kW n l).length≤256:=by rw [qP];omega
  generalize bP n l=Z at *
  generalize bP 0 z16=Z0 at *
  refine W.k fun b_=>?_
  refine bJ (nC rfl rfl rfl q1 q2 hne) rfl rfl ?_
  refine W.k ?_
  refine W.cq hR ?_
  refine W.j ?_
  refine aL hp0 ?_
  rintro _ _ ⟨b1,rfl,rfl⟩
  refine W.j ?_
  refine SW.block ?_
  refine W.j ?_
  refine bN [18] (fun x:Nat×Value×Hp=>[(4,x.2.1),(19,.int .i64 (x.1:Int))]) (fun x=>x.2.2) (fun x=>16-x.1) (fun x=>x.1≤16∧Sl 5 1 x.2.1 (cbs (kW n (l.take x.1))) x.2.2) (0,.slice (some ⟨b1,0,none⟩) 8 8,[(b1,cl (cbs (kW n (l.take 0))) 5)]) ⟨Nat.zero_le _,Sl.own _ _ _ (len:=8) (xs:=cbs (kW n (l.take 0))) (by rw [aI,qP];rfl)⟩ ?_
  rintro⟨i,bv,Hb⟩ ⟨hi,hS⟩
  dsimp only at hi hS ⊢
  have hS1:=hS.isOne
  by_cases hin:i<16
  ·obtain⟨h,hh⟩:∃ h,l[i]?=some h:=⟨_,aA om⟩
   have hidx:(l.map fun h=>(.int .u64 h:Value))[i]?=some (.int .u64 h):=by rw [aH,hh];rfl
   have huh:=hu h (aP hh)
   have hp1:=rJ 8 (u64 h) om om
   unfold eK at hp1
   rw [oO huh] at hp1
   have hst:kW n (l.take (i+1))=kW n (l.take i)++leN 8 (u64 h):=by
    rw [kW,kW,aO,hh,show (some h).toList=[h] from rfl,aEZ,bE]
   have hsl:=qP n (l.take i)
   rw [aD] at hsl
   have k8:(leN 8 (u64 h)).length=8:=cJ ..
   generalize (l.map fun h=>(.int .u64 h:Value))=Y at *
   generalize leN 8 (u64 h)=L8 at *
   generalize kW n (l.take i)=B at *
   refine W.k ?_
   refine aL hp1 ?_
   rintro _ _ ⟨b2,rfl,rfl⟩
   refine W.k ?_
   refine W.ap hS (ys:=cbs L8) (mm:=8) (fun w2 hs=>(Sl.own 5 1 b2 (len:=8) (xs:=cbs L8) (by rw [aI,k8])).srcAt hs inferInstance) (fun v3 H3 h3=>?_) (hys:=by rw [aI,k8]) (hbytes:=by rw [aI,aI,hsl,k8];omega)
   have h31:=h3.isOne
   rw [← gT,← hst] at h3
   refine W.k ?_
   refine aT.mk (i+1,v3,H3) ?_
   exact⟨hin,h3⟩
  ·have h16:i=16:=om
   subst h16
   rw [aB om] at hS
   rw [hB]
   generalize kW n l=B at *
   refine W.k ?_
   refine aL (yA bv B 256 dc dc hhl) ?_ (hpre:=fun w2 hs=>Rd.own (Hc:=[]) hS hs inferInstance)
   rintro _ _ ⟨b,rfl,rfl⟩
   refine W.k ?_
   refine Fin.to [(b,cl (cbs (pad 256 B)) 5)] ?_
   exact F.f2 ⟨_,rfl,Sl.own _ _ _ (len:=256) (by rw [aI,sD])⟩
theorem yS(n:Int)(k:List Int)(i:Nat)(h:Int):(bP n k).set (1+i) (.int .u64 h)=bP n (k.set i h):=by
 unfold bP
 rw [qJ,nM,gF]
theorem aI3(bs:List UInt8)(h256:bs.length=256)(v:Value):Tri prog 77 [v] [] (fun w=>Rd [] w 1 v (cbs bs)) (fun r H=>r=(match vZ bs with|none=>.tuple #[.agg (bP 0 z16).toArray,.int .i64 4]|some x=>.tuple #[.agg (bP x.1 x.2).toArray,.int .i64 0])∧H=[]):=by
 have hz:=aL0 bs om
 rw [h256] at hz
 refine Tri.mk func77 rfl ntmps77 rfl fun w hw=>?_
 have hw2:=hw
 obtain⟨a,len,cap,rfl,hl,hc,hr⟩:=hw.get
 rw [aI,Nat.mul_one,h256] at hl
 subst hl
 by_cases h0:bs=List.replicate 256 0
 ·have hbd:bQ (fun i=>[(0,1),(1,16)][i]?) ([.int .u64 0]++List.replicate 16 (.int .u64 0)) [(0,.int .u64 1)]=some (bP 1 z16):=rfl
  have hrl:(bP 1 z16).length=17:=rfl
  have hro:OC (bP 1 z16):=inferInstance
  rw [show vZ bs=some (1,z16) from if_pos h0]
  have hz:=hz (.slice a 256 cap)
  rw [decide_eq_true h0] at hz
  dsimp only
  refine W.k fun b_=>?_
  refine W.cw hz ?_ (hpre:=fun w2 hs=>hw2.ro (Hc:=[]) hs)
  exact F.ct [] (bP 1 z16) ⟨rfl,rfl⟩
 have hz:=hz (.slice a 256 cap)
 rw [decide_eq_false h0] at hz
 have hbd:∀ x:Int,bQ (fun i=>[(0,1),(1,16)][i]?) ([.int .u64 0]++List.replicate 16 (.int .u64 0)) [(0,.int .u64 x)]=some (bP x z16):=fun _=>rfl
 have hbn:=hbd (nOf bs)
 have hrl:(bP (nOf bs) z16).length=17:=rfl
 have hro:OC (bP (nOf bs) z16):=inferInstance
 refine W.k fun b_=>?_
 refine W.cw hz ?_ (hpre:=fun w2 hs=>hw2.ro (Hc:=[]) hs)
 refine aL (aKy _ bs om) ?_ (hpre:=fun w3 hs=>hw2.ro (Hc:=[]) hs)
 rintro _ H0r ⟨rp,rfl,hR0⟩
 refine W.k ?_
 refine dH H0r rfl rfl rfl rfl rfl rfl (vM hR0 8 dc dc om om) (fun _ _=>trivial) ?_
 rintro _ H1r ⟨rfl,hR1⟩
 rw [show ((eP (bs.take 8):Nat):Int)=nOf bs from rfl]
 refine W.j fun b_=>?_
 refine SW.block ?_
 refine W.j ?_
 refine bN [0,2,4,5] (fun x:Nat×List Int×Hp=>[(23,.int .i64 (x.1:Int))]) (fun x=>(b_,cl (bP (nOf bs) x.2.1) 88)::x.2.2) (fun x=>16-x.1) (fun x=>x.1≤16∧x.2.1.length=16∧x.2.1.take x.1=(lOf bs).take x.1∧aDt rp (bs.drop (8+8*x.1)) x.2.2) (0,z16,H1r) ⟨Nat.zero_le _,rfl,rfl,hR1⟩ ?_
 rintro⟨i,k,Hr⟩ ⟨hi,hk,hkl,hR⟩
 dsimp only at hi hk hkl hR ⊢
 have fk:(bP (nOf bs) k).length=17:=by rw [bU,hk]
 have ok:OC (bP (nOf bs) k):=inferInstance
 by_cases hin:i<16
 ·have hset:=yS (nOf bs) k i (lAt bs i)
  have hlt:1+i<(bP (nOf bs) k).length:=by rw [fk];omega
  refine W.k ?_
  refine dH Hr rfl rfl rfl rfl rfl rfl (vM hR 8 dc dc (by rw [aK];omega) (by rw [aK];omega)) (fun _ _=>trivial) ?_
  rintro _ H2r ⟨rfl,hR2⟩
  rw [show ((eP ((bs.drop (8+8*i)).take 8):Nat):Int)=lAt bs i from rfl]
  rw [bR,show 8+8*i+8=8+8*(i+1) by omega] at hR2
  refine W.k ?_
  rw [hset]
  refine aT.mk (i+1,k.set i (lAt bs i),H2r) ?_
  refine⟨hin,by dsimp only;rw [cP];exact hk,?_,hR2⟩
  dsimp only
  rw [aO,aO,aDL bs hin,iG om,nF (Nat.le_refl _),hkl]
 ·have h16:i=16:=om
  subst h16
  have hke:k=lOf bs:=by
   rw [← aB (l:=k) (i:=16) om,← aB (l:=lOf bs) (i:=16) (by rw [rZ];omega)];exact hkl
  subst hke
  have hB:=aBR (rZ bs) (aGT bs) (aGZ bs)
  have hr0:(bP 0 z16).length=17:=rfl
  have ho0:OC (bP 0 z16):=inferInstance
  have hb0:bQ (fun i=>[(0,1),(1,16)][i]?) ([.int .u64 0]++List.replicate 16 (.int .u64 0)) []=some (bP 0 z16):=rfl
  have hz2:(nOf bs=0∧lOf bs=z16)→gC (nOf bs) (lOf bs)≠bs:=fun hh he=>h0 (by rw [← he,hh.1,hh.2,aFl])
  have hP:vZ bs=if rOk (nOf bs) (lOf bs)=true∧gC (nOf bs) (lOf bs)=bs then some (nOf bs,lOf bs) else none:=if_neg h0
  have hEd:hE (nOf bs) (lOf bs)=if (nOf bs=0∧lOf bs=z16)∨rOk (nOf bs) (lOf bs)=true then 0 else 1:=rfl
  have hone:(bP (nOf bs) (lOf bs)).length=17:=fk
  generalize hZ:bP (nOf bs) (lOf bs)=Z at *
  generalize hZ0:bP 0 z16=Z0 at *
  by_cases hg:(nOf bs=0∧lOf bs=z16)∨rOk (nOf bs) (lOf bs)=true
  ·rw [if_pos hg] at hEd
   rw [hEd,if_pos rfl] at hB
   refine W.k ?_
   refine aL hB ?_
   rintro _ HB ⟨x,rfl,hx⟩
   have hx1:=hx.isOne
   by_cases he:bs=gC (nOf bs) (lOf bs)
   ·have hok:rOk (nOf bs) (lOf bs)=true:=hg.resolve_left fun hh=>hz2 hh he.symm
    rw [if_pos ⟨hok,he.symm⟩] at hP
    refine W.k ?_
    refine W.cq (rU (.slice a 256 cap) x bs (gC (nOf bs) (lOf bs))) ?_ (hpre:=fun w3 hs=>⟨hw2.ro (Hc:=[]) hs,Rd.own (Hc:=[]) hx hs inferInstance⟩)
    rw [decide_eq_true he]
    refine W.k ?_
    exact F.ct [] Z ⟨by rw [hP,← hZ],rfl⟩
   ·rw [if_neg (fun hh=>he hh.2.symm)] at hP
    refine W.k ?_
    refine W.cq (rU (.slice a 256 cap) x bs (gC (nOf bs) (lOf bs))) ?_ (hpre:=fun w3 hs=>⟨hw2.ro (Hc:=[]) hs,Rd.own (Hc:=[]) hx hs inferInstance⟩)
    rw [decide_eq_false he]
    refine W.k ?_
    exact F.ct [] Z0 ⟨by rw [hP,← hZ0],rfl⟩
  ·rw [if_neg hg] at hEd
   rw [hEd,if_neg dc] at hB
   rw [if_neg (fun hh=>hg (.inr hh.1))] at hP
   refine W.k ?_
   refine aL hB ?_
   rintro _ HB ⟨x,rfl,hx⟩
   have hx1:=hx.isOne
   refine W.k ?_
   exact F.ct [] Z0 ⟨by rw [hP,← hZ0],rfl⟩
end
end Go.Proofs.YtnigolgkkjidiaaGreat
