/- A block's pages: the program's. -/
import Derived.Test.YtnigolgkkjidiaaGreatPr11
import Derived.Test.YtnigolgkkjidiaaGreatPr12
set_option linter.unusedVariables false
set_option linter.unusedSimpArgs false
set_option linter.unusedSectionVars false
set_option maxHeartbeats 4000000
namespace Go.Proofs.YtnigolgkkjidiaaGreat
open Go Go.Proofs.Tryz
section
attribute [local irreducible] SW SL SQ SH SA SS Pu Fin bZ aT SX SJ
theorem oD.retB{P:Program}{C:Ctx}{D id:Nat}{ρ:Fr}{H1:Hp}{Z:Exit→Act→World→Prop}{Y0:Act→World→Prop}(h:∀ a w,jS (mk1 D++C.ds) C.n ρ a→St C.K C.w0 H1 w→Z .ret a w):oD P C D ρ (Exit.inBlock id (Exit.then Y0 Z)) H1 (some .ret):=fun a w hf hs=>wpIn_ret (h a w hf hs)
theorem nJ.rtB{P:Program}{K:Fr→Hp→Prop}{R:Value→Hp→Prop}{l id:Nat}{ρ:Fr}{H H2 s:Hp}{r:Loop}(H1:Hp) [hp:Out H l (.loop r) H2] [hp2:fI H2 H1 s](h:R (.bool false) ((l,.loop { r with state:=.done,pending:=some .ret })::H1)):thn K (blk id (nJ P l R)) .ret ρ H:=⟨r,H1,s,hp.perm.trans (hp2.perm.cons _),h⟩
theorem aJC(xs:List UInt8)(h256:xs.length=256)(b o cap:Nat):Tri prog 78 [.slice (some ⟨b,o,none⟩) 256 cap] [] (fun w=>Rd [] w 1 (.slice (some ⟨b,o,none⟩) 256 cap) (cbs xs)) (fun r H=>∃ v,r=.tuple #[v,.int .i64 (if (fQ xs).all fJ=true then 0 else 4)]∧Sl 185 5 v (dK (if (fQ xs).all fJ=true then fQ xs else [])) H):=by
 refine Tri.mkX func78 rfl ntmps78 rfl fun w hw=>?_
 have hwo:One (Value.slice (some ⟨b,o,none⟩) 256 cap):=⟨rfl⟩
 refine lQ (Fin.toEnd rfl) ?_
 refine W.k fun _ b_=>?_
 refine lQ (Fin.toEnd rfl) ?_
 refine W.k ?_
 refine lQ (Fin.toEnd rfl) ?_
 refine W.k fun b_=>?_
 refine aDy ?_
 refine lQ (Q0:=fun _ _ _=>False) (fun e a w ⟨_,_,_,_,h⟩=>h.elim) ?_
 refine W.k ?_
 rename_i b2 b3
 obtain⟨b4,hb4⟩:∃ b4,b4=b_:=⟨_,rfl⟩
 subst hb4
 refine aL (aIN (n:=16) dc) ?_
 rintro _ _ ⟨bs,bn,rfl,rfl⟩
 refine iC ?_
 refine SX.block ?_
 refine aIv [2,3,4,12] ?_
 refine aIx [(bs,cl [.slice (some ⟨b,o,none⟩) 256 cap] 50),(bn,cl [.int .i64 (16:Nat)] 3),(b4,cl [.slice none 0 0] 89),(b2,cl [.slice none 0 0] 89),(b3,cl [.int .i64 0] 44)] ?_
 have hw':∀ D l o' w',St [] w ((l,o')::(D,.deferred (some []))::[(bs,cl [.slice (some ⟨b,o,none⟩) 256 cap] 50),(bn,cl [.int .i64 (16:Nat)] 3),(b4,cl [.slice none 0 0] 89),(b2,cl [.slice none 0 0] 89),(b3,cl [.int .i64 0] 44)]) w'→Rd [bs,bn,l,D,b4,b2,b3] w' 1 (.slice (some ⟨b,o,none⟩) 256 cap) (cbs xs):=fun D l o' w' hs=>
  hw.ro (Hc:=[(bs,cl [.slice (some ⟨b,o,none⟩) 256 cap] 50),(bn,cl [.int .i64 (16:Nat)] 3),(l,o'),(D,.deferred (some [])),(b4,cl [.slice none 0 0] 89),(b2,cl [.slice none 0 0] 89),(b3,cl [.int .i64 0] 44)]) hs
 refine aBz (caps:=[.pointer (some ⟨bs,0,none⟩),.pointer (some ⟨bn,0,none⟩)]) (Pre:=fun D l w'=>Rd [bs,bn,l,D,b4,b2,b3] w' 1 (.slice (some ⟨b,o,none⟩) 256 cap) (cbs xs))
  (RR:=fun D l v H'=>(∃ r wv Hs,r.state=.ready∧r.pending=none∧(fQ xs).all fJ=true∧Sl 185 5 wv (dK (fQ xs)) Hs∧H'=(l,.loop r)::(D,.deferred (some []))::(b4,cl [wv] 89)::(b2,cl [.slice none 0 0] 89)::(b3,cl [.int .i64 0] 44)::Hs)∨((fQ xs).all fJ=false∧∃ r Hs,r.state=.done∧r.pending=some .ret∧H'=(l,.loop r)::(D,.deferred (some []))::(b2,cl [.slice none 0 0] 89)::(b3,cl [.int .i64 4] 44)::Hs)) rfl ?ht hw' ?hk
 case ht=>
  intro D l rec hr1 hr2 hr3 hr4 hr5 hfit
  refine Tri.perm' (Hd:=(bs,cl [.slice (some ⟨b,o,none⟩) 256 cap] 50)::(bn,cl [.int .i64 (16:Nat)] 3)::[(l,.loop rec),(D,.deferred (some [])),(b4,cl [.slice none 0 0] 89),(b2,cl [.slice none 0 0] 89),(b3,cl [.int .i64 0] 44)])
   ((aHz (n:=16) xs dc dc om (fun k Hk=>∃ wv Hs,Sl 185 5 wv (dK ((fQ xs).take k)) Hs∧((fQ xs).take k).all fJ=true∧Hk=(l,.loop rec)::(D,.deferred (some []))::(b4,cl [wv] 89)::(b2,cl [.slice none 0 0] 89)::(b3,cl [.int .i64 0] 44)::Hs) (fun Hx=>((fQ xs).all fJ=false)∧∃ r Hs,r.state=.done∧r.pending=some .ret∧Hx=(l,.loop r)::(D,.deferred (some []))::(b2,cl [.slice none 0 0] 89)::(b3,cl [.int .i64 4] 44)::Hs) _ ⟨_,[],Sl.nil _ _,rfl,rfl⟩ ?_).mono ?_)
  ·rintro k Hk hk ⟨wv,Hs,hS,hall,rfl⟩
   have hmin:min 16 (256-16*k)=16:=om
   rw [hmin]
   refine Rnd.mk hr3 hfit rfl fun w2 hw2=>?_
   rw [hr4,hr5]
   refine kL ?_
   refine W.i ?_
   refine xY.mk hr1 ?_
   refine SR.block ?_
   have hr:=hw2.sub (16*k) (16*k+16) 16 om om om
   rw [show 16*k+16-16*k=16 by omega] at hr
   have hpe:=aAI xs (show k<16 by omega)
   have hst:(fQ xs).take (k+1)=(fQ xs).take k++[aAH ((xs.drop (16*k)).take 16)]:=by rw [aO,hpe];rfl
   have he:((xs.drop (16*k)).take 16).length=16:=by rw [aD,aK];omega
   generalize (xs.drop (16*k)).take 16=e at *
   have hBe:=aND e he
   have q1:=aBQ (b:=e.take 1) (by rw [aD];omega)
   have q2:=aBQ (b:=(e.drop 1).take 1) (by rw [aD];omega)
   have q3:=aBQ (b:=(e.drop 2).take 2) (by rw [aD];omega)
   have q4:=aBQ (b:=(e.drop 4).take 4) (by rw [aD];omega)
   have hS1:=hS.isOne
   have hbp:bQ (fun i=>[(0,1),(1,1),(2,1),(3,1),(4,1)][i]?) ([.int .i64 0]++[.int .i64 0]++[.int .i64 0]++[.int .i64 0]++[.int .u64 0]) [(0,.int .i64 (eP (e.take 1):Nat)),(1,.int .i64 (eP ((e.drop 1).take 1):Nat)),(2,.int .i64 (eP ((e.drop 2).take 2):Nat)),(3,.int .i64 (eP ((e.drop 4).take 4):Nat)),(4,.int .u64 (eP ((e.drop 8).take 8):Nat))]=some (pgC (aAH e)):=rfl
   obtain⟨p,hp⟩:∃ p,aAH e=p:=⟨_,rfl⟩
   rw [hp] at hbp hst hpe hBe
   have hpl:=dW p
   have hpo:OC (pgC p):=inferInstance
   have hbad:=aIF p
   have hpm:=aP hpe
   refine sL ?_
   refine kL ?_
   refine W.i ?_
   refine aL (aKy _ e om) ?_ (hpre:=fun w3 hs=>hr.ro (Hc:=[]) hs)
   rintro _ H0r ⟨rp,rfl,hR0⟩
   refine W.i ?_
   refine sL ?_
   refine kL ?_
   refine W.i ?_
   refine dH H0r rfl rfl rfl rfl rfl rfl (vM hR0 1 dc dc om om) (fun _ _=>trivial) ?_
   rintro _ H1r ⟨rfl,hR1⟩
   have i1:Cv .i64 ((eP (e.take 1):Nat):Int) ((eP (e.take 1):Nat):Int):=⟨w64 om⟩
   refine W.i ?_
   refine dH H1r rfl rfl rfl rfl rfl rfl (vM hR1 1 dc dc (by rw [aK];omega) (by rw [aK];omega)) (fun _ _=>trivial) ?_
   rintro _ H2r ⟨rfl,hR2⟩
   rw [bR,show 1+1=2 from rfl] at hR2
   have i2:Cv .i64 ((eP ((e.drop 1).take 1):Nat):Int) ((eP ((e.drop 1).take 1):Nat):Int):=⟨w64 om⟩
   refine W.i ?_
   refine dH H2r rfl rfl rfl rfl rfl rfl (vM hR2 2 dc dc (by rw [aK];omega) (by rw [aK];omega)) (fun _ _=>trivial) ?_
   rintro _ H3r ⟨rfl,hR3⟩
   rw [bR,show 2+2=4 from rfl] at hR3
   have i3:Cv .i64 ((eP ((e.drop 2).take 2):Nat):Int) ((eP ((e.drop 2).take 2):Nat):Int):=⟨w64 om⟩
   refine W.i ?_
   refine dH H3r rfl rfl rfl rfl rfl rfl (vM hR3 4 dc dc (by rw [aK];omega) (by rw [aK];omega)) (fun _ _=>trivial) ?_
   rintro _ H4r ⟨rfl,hR4⟩
   rw [bR,show 4+4=8 from rfl] at hR4
   have i4:Cv .i64 ((eP ((e.drop 4).take 4):Nat):Int) ((eP ((e.drop 4).take 4):Nat):Int):=⟨w64 om⟩
   refine W.i ?_
   refine dH H4r rfl rfl rfl rfl rfl rfl (vM hR4 8 dc dc (by rw [aK];omega) (by rw [aK];omega)) (fun _ _=>trivial) ?_
   rintro _ H5r ⟨rfl,hR5⟩
   cases hm:fJ p with
   | false=>
    have hno:(fQ xs).all fJ=false:=mE.2 ⟨p,hpm,by rw [hm];decide⟩
    rw [hm] at hbad
    generalize pgC p=Z at *
    refine W.i fun b_=>?_
    refine sL ?_
    refine sL ?_
    refine kL ?_
    refine W.i ?_
    refine W.cq hbad ?_
    refine W.i ?_
    refine aAo rfl (fun _=>?_) (fun h=>by cases h)
    refine sL ?_
    refine kL ?_
    refine W.i ?_
    refine aMA ?_
    rw [dE,dE]
    refine nJ.rtB ((D,.deferred (some []))::(b2,cl [.slice none 0 0] 89)::(b3,cl [.int .i64 4] 44)::Hs) ?_
    exact .inr ⟨rfl,hno,_,Hs,rfl,rfl,rfl⟩
   | true=>
    have hby:=aFd p (aF1 hm).2.2.2.2
    have hX:dK ((fQ xs).take (k+1))=dK ((fQ xs).take k)++pgC p:=by rw [hst,zV]
    have hall2:((fQ xs).take (k+1)).all fJ=true:=by rw [hst,gR,hall];simp [hm]
    have hb5:bQ (fun i=>some (i*5,5)) (zs [.int .i64 0,.int .i64 0,.int .i64 0,.int .i64 0,.int .u64 0] 1) [(0,.agg (pgC p).toArray)]=some (pgC p):=rfl
    have hfl:(dK ((fQ xs).take k)).length≤80:=by rw [gM,aD];omega
    rw [hm] at hbad
    generalize pgC p=Z at *
    refine W.i fun b_=>?_
    refine sL ?_
    refine sL ?_
    refine kL ?_
    refine W.i ?_
    refine W.cq hbad ?_
    refine W.i ?_
    refine aL hby ?_
    intro v5 H5 h5
    have h51:=h5.isOne
    refine W.i ?_
    refine W.cq (rU v5 (.slice (some ⟨b,o+16*k,none⟩) 16 16) (pgB p) e) ?_ (hpre:=fun w3 hs=>⟨Rd.own (Hc:=[]) h5 hs inferInstance,hr.ro (Hc:=[]) hs⟩)
    rw [hBe,decide_eq_true rfl]
    refine W.i ?_
    refine aAo rfl (fun h=>by cases h) (fun _=>?_)
    refine aGv ?_
    refine kL ?_
    refine W.i fun b_=>?_
    refine W.ap (ys:=Z) (mm:=1) hS (fun w2 hs=>(Sl.own 185 5 b_ (xs:=Z) (len:=1) hpl).srcAt hs inferInstance) (fun v3 H3 h3=>?_) (hys:=hpl) (hbytes:=by rw [hpl];omega)
    have h31:=h3.isOne
    rw [← hX] at h3
    refine W.i ?_
    rw [dE]
    refine nJ.mkB ((D,.deferred (some []))::(b4,cl [v3] 89)::(b2,cl [.slice none 0 0] 89)::(b3,cl [.int .i64 0] 44)::H3) ?_
    rw [Loop.back hr1 hr2]
    exact .inl ⟨rfl,v3,H3,h3,hall2,rfl⟩
  ·rintro v H' ⟨rfl,(⟨k,hk1,hk2,wv,Hs,hS,hall,rfl⟩|⟨hn,r,Hs,hx1,hx2,rfl⟩)⟩
   ·have hkn:k=16:=om
    subst hkn
    rw [aB (by rw [qX];omega)] at hS hall
    exact .inl ⟨rec,wv,Hs,hr1,hr2,hall,hS,rfl⟩
   ·exact .inr ⟨hn,r,Hs,hx1,hx2,rfl⟩
 case hk=>
  rintro D l v H' (⟨r,wv,Hs,hr1,hr2,hall,hS,rfl⟩|⟨hn,r,Hs,hr1,hr2,rfl⟩)
  ·refine⟨r,_,.refl _,by rw [hr1];decide,?_⟩
   rw [hr2]
   refine oD.onB ?_
   rw [hall,if_pos rfl,if_pos rfl]
   show SX (RF none) _ ⟨46,[],w,mk1 D⟩ _ _ _ _
   refine aIw (Q:=xZ prog { n:=46,K:=[],w0:=w,ds:=mk1 D } D Tryz.f78 (fun r H=>∃ v,r=.tuple #[v,.int .i64 0]∧Sl 185 5 v (dK (fQ xs)) H)) ?_ (xZ.toEnd rfl)
   have hS1:=hS.isOne
   refine W.k ?_
   rw [dE,dE]
   refine xZ.mk ?_
   refine Fin.to ((b2,cl [wv] 89)::(b3,cl [.int .i64 0] 44)::Hs) ?_
   exact F.ss Hs ⟨wv,rfl,hS⟩
  ·refine⟨r,_,.refl _,by rw [hr1];decide,?_⟩
   rw [hr2,hn,if_neg dc,if_neg dc]
   refine oD.retB fun a w5 hf5 hs5=>?_
   refine xZ.toEnd (C:={ n:=46,K:=[],w0:=w,ds:=mk1 D }) (D:=D) rfl .ret a w5 ⟨_,_,hf5,hs5,?_⟩
   refine xZ.mk ?_
   refine Fin.to ((b2,cl [.slice none 0 0] 89)::(b3,cl [.int .i64 4] 44)::[]) ?_
   exact F.ss [] ⟨.slice none 0 0,rfl,Sl.nil _ _⟩
end
end Go.Proofs.YtnigolgkkjidiaaGreat
