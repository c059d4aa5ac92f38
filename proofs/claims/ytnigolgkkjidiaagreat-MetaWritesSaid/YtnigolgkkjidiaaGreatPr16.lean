/- The document's geometries; a sealer, made. -/
import Derived.Test.YtnigolgkkjidiaaGreatPr13
import Derived.Test.YtnigolgkkjidiaaGreatPr15
import Derived.Test.YtnigolgkkjidiaaGreatPr14
import Derived.Test.YtnigolgkkjidiaaGreatPr11
import Derived.Test.YtnigolgkkjidiaaGreatPr12
set_option linter.unusedVariables false
set_option linter.unusedSimpArgs false
set_option linter.unusedSectionVars false
set_option maxHeartbeats 1000000
namespace Go.Proofs.YtnigolgkkjidiaaGreat
open Go Go.Proofs.Tryz
section
attribute [local irreducible] SW SL SQ SH SA SS Pu Fin bZ aT
theorem Gm.total_le2{p t:Nat}(h:Gm.Ok p t):Gm.total p t≤98:=by
 obtain⟨_,h2,_,h4⟩:=h
 unfold Gm.total Gm.leaves Gm.epochs Gm.sealed Gm.up
 omega
theorem oM{p t:Nat}(h:Gm.Ok p t):Tri prog 27 [iX p t] [] (fun _=>True) (fun v H=>v=.bool true∧H=[]):=by
 obtain⟨h1,h2,h3,h4⟩:=h
 refine Tri.mk func27 rfl ntmps27 rfl fun w hw=>?_
 refine W.k fun b_=>?_
 exact F.n
theorem aFk{p t:Nat}(h:Gm.Ok p t):Tri prog 86 [iX p t] [] (fun _=>True) (fun v H=>v=.int .i64 (Gm.up p 16:Nat)∧H=[]):=by
 obtain⟨h1,h2,h3,h4⟩:=h
 refine Tri.mk func86 rfl ntmps86 rfl fun w hw=>?_
 have e:Gm.up p 16=(p+15)/16:=rfl
 rw [e]
 refine W.j fun b_=>?_
 refine SW.cut [] [] (fun _:Unit=>[(3,.int .i64 ((p+15)/16:Nat))]) (fun _=>[]) (fun _=>True) ?_ ?_
 ·refine W.k ?_
  refine bN [1] (fun n:Nat=>[(3,.int .i64 (n:Int))]) (fun _=>[(b_,cl (uL p t) 23)]) (fun n=>64-n) (fun n=>n≤(p+15)/16) 0 (Nat.zero_le _) ?_
  intro n hn
  by_cases hl:16*n<p
  ·refine W.k ?_
   refine aT.mk (n+1) ?_ (hM:=?_)
   ·omega
   ·omega
  ·have:n=(p+15)/16:=om
   subst this
   refine W.k ?_
   refine bZ.mk () ?_
   trivial
 rintro _ -
 refine W.k ?_
 exact F.n
theorem rO{p t:Nat}(h:Gm.Ok p t):Tri prog 101 [iX p t] [] (fun _=>True) (fun v H=>v=.int .i64 (Gm.sealed p:Nat)∧H=[]):=by
 refine Tri.mk func101 rfl ntmps101 rfl fun w hw=>?_
 have hc:=aFk h
 have hu:=Gm.up_le p 16 dc
 obtain⟨h1,h2,h3,h4⟩:=h
 rw [show ((Gm.sealed p:Nat):Int)=1+((Gm.up p 16:Nat):Int)+(p:Int) by unfold Gm.sealed;omega]
 generalize Gm.up p 16=u at *
 refine W.k fun b_=>?_
 (refine SW.l [] [0,3,4] ?_;refine aX 1 ?_)
 refine W.cq hc ?_
 (refine SL.l [2,5,6,7] ?_)
 refine W.k ?_
 exact F.n
theorem yR{p t:Nat}(h:Gm.Ok p t):Tri prog 100 [iX p t] [] (fun _=>True) (fun v H=>v=.int .i64 (Gm.epochs p:Nat)∧H=[]):=by
 refine Tri.mk func100 rfl ntmps100 rfl fun w hw=>?_
 have hc:=rO h
 have hs:=Gm.sealed_le h
 have e:Gm.epochs p=(Gm.sealed p+31)/32:=rfl
 rw [e]
 generalize Gm.sealed p=s at *
 refine W.j fun b_=>?_
 refine SW.cut [] [] (fun _:Unit=>[(3,.int .i64 ((s+31)/32:Nat))]) (fun _=>[]) (fun _=>True) ?_ ?_
 ·refine W.k ?_
  refine bN [1] (fun n:Nat=>[(3,.int .i64 (n:Int))]) (fun _=>[(b_,cl (uL p t) 23)]) (fun n=>129-n) (fun n=>n≤(s+31)/32) 0 (Nat.zero_le _) ?_
  intro n hn
  by_cases hl:32*n<s
  ·refine W.k ?_
   refine W.cw hc ?_
   refine aT.mk (n+1) ?_ (hM:=?_)
   ·omega
   ·omega
  ·have:n=(s+31)/32:=om
   subst this
   refine W.k ?_
   refine W.cw hc ?_
   refine bZ.mk () ?_
   trivial
 rintro _ -
 refine W.k ?_
 exact F.n
def pc(x:Nat×Nat):List Value:=[.int .i64 (x.1:Int),.int .i64 (x.2:Int)]
def pcs(l:List (Nat×Nat)):List Value:=l.flatMap pc
theorem pD(l:List (Nat×Nat)):(pcs l).length=l.length*2:=by
 unfold pcs
 induction l with
 | nil=>rfl
 | cons x r ih=>rw [fK,aC,ih];simp [pc];omega
theorem aB5(l:List (Nat×Nat))(x:Nat×Nat):pcs l++pc x=pcs (l++[x]):=by unfold pcs;simp
instance pcO(x:Nat×Nat):OC (pc x):=by unfold pc;infer_instance
def Gm.row(kind n:Nat):List (Nat×Nat):=(List.range n).map fun k=>(kind,k)
theorem Gm.row_succ(kind n:Nat):Gm.row kind (n+1)=Gm.row kind n++[(kind,n)]:=by unfold Gm.row;rw [bS,bB];rfl
theorem Gm.row_len(kind n:Nat):(Gm.row kind n).length=n:=by unfold Gm.row;simp
def Gm.all(p t:Nat):List (Nat×Nat):=[(1,0)]++Gm.row 2 (Gm.epochs p)++Gm.row 3 (Gm.sealed p)++Gm.row 4 (t+1)
theorem Gm.all_len(p t:Nat):(Gm.all p t).length=Gm.total p t:=by
 unfold Gm.all Gm.total Gm.leaves
 simp only [aC,Gm.row_len,gO]
 omega
theorem aAa{p t:Nat}(h:Gm.Ok p t):Tri prog 40 [iX p t] [] (fun _=>True) (fun v H=>∃ Hs,Sl 209 2 v (pcs (Gm.all p t)) Hs∧H=Hs):=by
 refine Tri.mk func40 rfl ntmps40 rfl fun w hw=>?_
 have hm:=oM h
 have hep:=yR h
 have hse:=rO h
 have hsl:=Gm.sealed_le h
 have hel:=Gm.epochs_le h
 have ht:t≤24:=h.2.2.2
 have hall:Gm.all p t=[(1,0)]++Gm.row 2 (Gm.epochs p)++Gm.row 3 (Gm.sealed p)++Gm.row 4 (t+1):=rfl
 rw [hall]
 generalize Gm.epochs p=e at *
 generalize Gm.sealed p=s at *
 have hb1:∀ a b:Int,bQ (fun i=>[(0,1),(1,1)][i]?) [.int .i64 0,.int .i64 0] [(0,.int .i64 a),(1,.int .i64 b)]=some [.int .i64 a,.int .i64 b]:=fun a b=>rfl
 have hb0:bQ (fun i=>[(0,1),(1,1)][i]?) [.int .i64 0,.int .i64 0] [(0,.int .i64 1)]=some (pc (1,0)):=rfl
 have hs0:bQ (fun i=>some (i*2,2)) (zs [.int .i64 0,.int .i64 0] 1) [(0,.agg (pc (1,0)).toArray)]=some (pc (1,0)):=rfl
 refine W.k fun b_=>?_
 refine W.cq hm ?_
 refine W.j fun b_=>?_
 rename_i bg
 have hA:Sl 209 2 (.slice (some ⟨b_,0,none⟩) 1 1) (pcs ([(1,0)]++Gm.row 2 0)) [(b_,cl (pc (1,0)) 209)]:=Sl.own 209 2 b_ (len:=1) (xs:=pc (1,0)) rfl
 generalize b_=bs at *
 refine cN [1] ((bg,cl (uL p t) 23)::[(bs,cl (pc (1,0)) 209)]) (fun x:Value×Hp=>[(3,x.1)]) (fun x=>(bg,cl (uL p t) 23)::x.2) (fun x=>Sl 209 2 x.1 (pcs ([(1,0)]++Gm.row 2 e)) x.2) ?_ ?_
 ·refine W.k ?_
  refine bN [1] (fun x:Nat×Value×Hp=>[(3,x.2.1),(4,.int .i64 (x.1:Int))]) (fun x=>(bg,cl (uL p t) 23)::x.2.2) (fun x=>e-x.1) (fun x=>x.1≤e∧Sl 209 2 x.2.1 (pcs ([(1,0)]++Gm.row 2 x.1)) x.2.2) (0,.slice (some ⟨bs,0,none⟩) 1 1,[(bs,cl (pc (1,0)) 209)]) ⟨Nat.zero_le _,hA⟩ ?_
  rintro⟨k,v2,H2⟩ ⟨hk,hS⟩
  dsimp only at hk hS ⊢
  have hS1:=hS.isOne
  have hlen:([(1,0)]++Gm.row 2 k).length≤1000:=by simp only [aC,Gm.row_len,gO];omega
  have hbk:=hb1 2 (k:Int)
  have hbs:bQ (fun i=>some (i*2,2)) (zs [.int .i64 0,.int .i64 0] 1) [(0,.agg [.int .i64 (2:Int),.int .i64 (k:Int)].toArray)]=some (pc (2,k)):=rfl
  by_cases h:k<e
  ·refine W.k ?_
   refine W.cw hep ?_;intro b_
   refine W.ap (ys:=pc (2,k)) (mm:=1) hS (fun w2 hs=>(Sl.own 209 2 b_ (xs:=pc (2,k)) rfl).srcAt hs inferInstance) (fun v3 H3 h3=>?_) (hys:=rfl) (hbytes:=by rw [pD];simp only [pc,aW,dA];omega)
   have h31:=h3.isOne
   rw [aB5,bE,← Gm.row_succ] at h3
   refine W.k ?_
   refine aT.mk (k+1,v3,H3) ?_
   exact⟨h,h3⟩
  ·have hk2:k=e:=om
   rw [hk2] at hS
   refine W.k ?_
   refine W.cw hep ?_
   refine bZ.mk (v2,H2) ?_
   exact hS
 rintro⟨v2,H2⟩ hS
 dsimp only at hS ⊢
 have hS2:=hS.isOne
 refine W.j ?_
 refine cN [1] ((bg,cl (uL p t) 23)::H2) (fun x:Value×Hp=>[(3,x.1)]) (fun x=>(bg,cl (uL p t) 23)::x.2) (fun x=>Sl 209 2 x.1 (pcs ([(1,0)]++Gm.row 2 e++Gm.row 3 s)) x.2) ?_ ?_
 ·refine W.k ?_
  refine bN [1] (fun x:Nat×Value×Hp=>[(3,x.2.1),(5,.int .i64 (x.1:Int))]) (fun x=>(bg,cl (uL p t) 23)::x.2.2) (fun x=>s-x.1) (fun x=>x.1≤s∧Sl 209 2 x.2.1 (pcs ([(1,0)]++Gm.row 2 e++Gm.row 3 x.1)) x.2.2) (0,v2,H2) ⟨Nat.zero_le _,by simpa [Gm.row] using hS⟩ ?_
  rintro⟨k,v2,H2⟩ ⟨hk,hS⟩
  dsimp only at hk hS ⊢
  have hS1:=hS.isOne
  have hlen:([(1,0)]++Gm.row 2 e++Gm.row 3 k).length≤1000:=by simp only [aC,Gm.row_len,gO];omega
  have hbk:=hb1 3 (k:Int)
  have hbs:bQ (fun i=>some (i*2,2)) (zs [.int .i64 0,.int .i64 0] 1) [(0,.agg [.int .i64 (3:Int),.int .i64 (k:Int)].toArray)]=some (pc (3,k)):=rfl
  by_cases h:k<s
  ·refine W.k ?_
   refine W.cw hse ?_;intro b_
   refine W.ap (ys:=pc (3,k)) (mm:=1) hS (fun w2 hs=>(Sl.own 209 2 b_ (xs:=pc (3,k)) rfl).srcAt hs inferInstance) (fun v3 H3 h3=>?_) (hys:=rfl) (hbytes:=by rw [pD];simp only [pc,aW,dA];omega)
   have h31:=h3.isOne
   rw [aB5,bE,← Gm.row_succ] at h3
   refine W.k ?_
   refine aT.mk (k+1,v3,H3) ?_
   exact⟨h,h3⟩
  ·have hk2:k=s:=om
   rw [hk2] at hS
   refine W.k ?_
   refine W.cw hse ?_
   refine bZ.mk (v2,H2) ?_
   exact hS
 rintro⟨v3,H3⟩ hS
 dsimp only at hS ⊢
 have hS3:=hS.isOne
 refine W.j ?_
 refine cN [1] ((bg,cl (uL p t) 23)::H3) (fun x:Value×Hp=>[(3,x.1)]) (fun x=>(bg,cl (uL p t) 23)::x.2) (fun x=>Sl 209 2 x.1 (pcs ([(1,0)]++Gm.row 2 e++Gm.row 3 s++Gm.row 4 (t+1))) x.2) ?_ ?_
 ·refine W.k ?_
  refine bN [1] (fun x:Nat×Value×Hp=>[(3,x.2.1),(6,.int .i64 (x.1:Int))]) (fun x=>(bg,cl (uL p t) 23)::x.2.2) (fun x=>(t+1)-x.1) (fun x=>x.1≤(t+1)∧Sl 209 2 x.2.1 (pcs ([(1,0)]++Gm.row 2 e++Gm.row 3 s++Gm.row 4 x.1)) x.2.2) (0,v3,H3) ⟨Nat.zero_le _,by simpa [Gm.row] using hS⟩ ?_
  rintro⟨k,v2,H2⟩ ⟨hk,hS⟩
  dsimp only at hk hS ⊢
  have hS1:=hS.isOne
  have hlen:([(1,0)]++Gm.row 2 e++Gm.row 3 s++Gm.row 4 k).length≤1000:=by simp only [aC,Gm.row_len,gO];omega
  have hbk:=hb1 4 (k:Int)
  have hbs:bQ (fun i=>some (i*2,2)) (zs [.int .i64 0,.int .i64 0] 1) [(0,.agg [.int .i64 (4:Int),.int .i64 (k:Int)].toArray)]=some (pc (4,k)):=rfl
  by_cases h:k<(t+1)
  ·refine W.k fun b_=>?_
   refine W.ap (ys:=pc (4,k)) (mm:=1) hS (fun w2 hs=>(Sl.own 209 2 b_ (xs:=pc (4,k)) rfl).srcAt hs inferInstance) (fun v3 H3 h3=>?_) (hys:=rfl) (hbytes:=by rw [pD];simp only [pc,aW,dA];omega)
   have h31:=h3.isOne
   rw [aB5,bE,← Gm.row_succ] at h3
   refine W.k ?_
   refine aT.mk (k+1,v3,H3) ?_
   exact⟨h,h3⟩
  ·have hk2:k=(t+1):=om
   rw [hk2] at hS
   refine W.k ?_
   refine bZ.mk (v2,H2) ?_
   exact hS
 rintro⟨v4,H4⟩ hS
 dsimp only at hS ⊢
 have hS4:=hS.isOne
 refine W.k ?_
 refine Fin.to H4 ?_
 exact F.f1 ⟨H4,hS,rfl⟩
abbrev geV(P T:Int):Value:=.agg #[.int .i64 P,.int .i64 T]
def GoK(P T:Int):Prop:=1≤P∧P≤64∧4≤T∧T≤24
theorem yJ{P T:Int}(h:¬ GoK P T):Tri prog 75 [geV P T] [] (fun _=>True) (fun v H=>v=.int .i64 1∧H=[]):=by
 unfold GoK at h
 refine Tri.mk func75 rfl ntmps75 rfl fun w hw=>?_
 by_cases h1:P<1
 ·refine W.k fun b_=>?_
  exact F.n
 by_cases h2:64<P
 ·refine W.k fun b_=>?_
  exact F.n
 by_cases h3:T<4
 ·refine W.k fun b_=>?_
  exact F.n
 have h4:24<T:=om
 refine W.k fun b_=>?_
 exact F.n
theorem tU{P T:Int}(h:¬ GoK P T):Tri prog 27 [geV P T] [] (fun _=>True) (fun v H=>v=.bool false∧H=[]):=by
 unfold GoK at h
 refine Tri.mk func27 rfl ntmps27 rfl fun w hw=>?_
 by_cases h1:P<1
 ·refine W.k fun b_=>?_
  exact F.n
 by_cases h2:64<P
 ·refine W.k fun b_=>?_
  exact F.n
 by_cases h3:T<4
 ·refine W.k fun b_=>?_
  exact F.n
 have h4:24<T:=om
 refine W.k fun b_=>?_
 exact F.n
theorem aDI{p t:Nat}(h:Gm.Ok p t):Tri prog 76 [iX p t] [] (fun _=>True) (fun v H=>v=.int .i64 (Gm.up p 16:Nat)∧H=[]):=by
 have h1:Tri prog 147 [iX p t] [] (fun _=>True) (fun v H=>v=.int .i64 (Gm.up p 16:Nat)∧H=[]):=by
  obtain⟨g1,g2,g3,g4⟩:=h
  refine Tri.mk func147 rfl ntmps147 rfl fun w hw=>?_
  refine W.k fun b_=>?_
  refine W.cw (aI2 p 16 dc om dc) ?_
  exact F.n
 refine Tri.mk func76 rfl ntmps76 rfl fun w hw=>?_
 have hc:=tE h h1
 refine W.k fun b_=>?_
 refine W.cw hc ?_
 exact F.n
def aCC(p:Nat)(n:Int)(ps:List Pg):Bool:=decide (ps.length=p)&&(decide (0<n)&&(vH ps&&!ps.any (tI n)))
theorem aBY{p:Nat}{n:Int}{l:List Int}{ps:List Pg}:lI p n l ps=(aCC p n ps&&rOk n l):=by
 unfold lI aCC
 cases h:rOk n l with
 | true=>
  have:=aHd h
  rw [decide_eq_true (show 0<n by omega)]
  cases decide (ps.length=p) <;> simp
 | false=>simp
theorem eU(n:Int)(l:List Int)(hl:l.length=16)(pv:Value):(bF n l pv).length=18:=by rw [aC,bU,hl];rfl
theorem pM(n:Int)(l:List Int)(hl:l.length=16)(pv:Value):(bF n l pv)[17]?=some pv:=by rw [aS (by rw [bU,hl];omega),bU,hl];rfl
theorem aBg(n:Int)(l:List Int)(hl:l.length=16)(pv:Value):((bF n l pv).drop 0).take 17=bP n l:=by rw [bH,aQ (by rw [bU,hl];omega),aB (by rw [bU,hl];omega)]
theorem aBX(n:Int)(l:List Int)(hl:l.length=16)(p q:Value):(bF n l p).set 17 q=bF n l q:=by
 show (bP n l++[p]).set 17 q=bP n l++[q]
 rw [bX _ _ (by rw [bU,hl];omega),bU,hl];rfl
theorem aDO{p t:Nat}(hg:Gm.Ok p t){n:Int}{l:List Int}(hl:l.length=16)(ps:List Pg)(hps:ps.length≤1000000)(pv:Value):Tri prog 80 [.agg (bF n l pv).toArray,iX p t] [] (fun w=>Rd [] w 5 pv (dK ps)) (fun v H=>v=.bool (aCC p n ps)∧H=[]):=by
 refine Tri.mk func80 rfl ntmps80 rfl fun w hw=>?_
 have hw2:=hw
 obtain⟨a,len,cap,rfl,hl5,hc,hr⟩:=hw.get
 have hln:len=ps.length:=by rw [gM] at hl5;omega
 subst hln
 have hml:=eU n l hl (.slice a ps.length cap)
 have hmo:OC (bF n l (.slice a ps.length cap)):=inferInstance
 have h0:(bF n l (.slice a ps.length cap))[0]?=some (.int .u64 n):=rfl
 have h17:=pM n l hl (.slice a ps.length cap)
 have hlate:=fun m v=>aBk (g:=156) (fs:=[]) (cs:=[ptv m]) (Hc:=[(m,cl (bF n l (.slice a ps.length cap)) 91)]) (β:=tI n) ps (fun p hp=>aNf (pv:=.slice a ps.length cap) (T:=91) p hl) hps v
 have hck:=aJN ps hps (.slice a ps.length cap)
 generalize hZ:bF n l (.slice a ps.length cap)=Z at *
 unfold aCC
 by_cases hlen:ps.length=p
 ·rw [decide_eq_true hlen,dZ]
  by_cases hn:0<n
  ·rw [decide_eq_true hn,dZ]
   cases hok:vH ps with
   | false=>
    rw [hok,if_neg dc] at hck
    refine W.k fun _ b_=>?_
    rename_i m
    refine W.cw (iW hg) ?_
    refine W.cw hck ?_ (hpre:=fun w2 hs=>hw2.ro (Hc:=[]) hs)
    exact F.n
   | true=>
    rw [hok,if_pos rfl] at hck
    cases hany:ps.any (tI n) with
    | false=>
     rw [hany] at hlate
     refine W.k fun _ b_=>?_
     rename_i m
     refine W.cw (iW hg) ?_
     refine W.cw hck ?_ (hpre:=fun w2 hs=>hw2.ro (Hc:=[]) hs)
     refine W.cw (hlate m _) ?_ (hpre:=fun w2 hs=>hw2.ro (Hc:=[(m,cl Z 91)]) hs)
     exact F.n
    | true=>
     rw [hany] at hlate
     refine W.k fun _ b_=>?_
     rename_i m
     refine W.cw (iW hg) ?_
     refine W.cw hck ?_ (hpre:=fun w2 hs=>hw2.ro (Hc:=[]) hs)
     refine W.cw (hlate m _) ?_ (hpre:=fun w2 hs=>hw2.ro (Hc:=[(m,cl Z 91)]) hs)
     exact F.n
  ·rw [decide_eq_false hn,eH]
   refine W.k fun _ b_=>?_
   refine W.cw (iW hg) ?_
   exact F.n
 ·rw [decide_eq_false hlen,eH]
  refine W.k fun _ b_=>?_
  refine W.cw (iW hg) ?_
  exact F.n
theorem aJk{P T:Int}(hg:¬ GoK P T){n:Int}{l:List Int}(hl:l.length=16)(pv:Value) [One pv]:Tri prog 80 [.agg (bF n l pv).toArray,geV P T] [] (fun _=>True) (fun v H=>v=.bool false∧H=[]):=by
 refine Tri.mk func80 rfl ntmps80 rfl fun w hw=>?_
 have hml:=eU n l hl pv
 have hmo:OC (bF n l pv):=inferInstance
 generalize hZ:bF n l pv=Z at *
 refine W.k fun _ b_=>?_
 refine W.cw (yJ hg) ?_
 exact F.n
theorem zs5(n:Nat):zs [.int .i64 0,.int .i64 0,.int .i64 0,.int .i64 0,.int .u64 0] n=dK (zpg n):=by
 unfold zs
 rw [dK,dX];rfl
theorem aGW{p t:Nat}(hg:Gm.Ok p t):Tri prog 37 [iX p t] [] (fun _=>True) (fun v H=>∃ pv,v=.agg (bF 1 z16 pv).toArray∧Sl 185 5 pv (dK (zpg p)) H):=by
 refine Tri.mk func37 rfl ntmps37 rfl fun w hw=>?_
 obtain⟨g1,g2,g3,g4⟩:=id hg
 have hb1:bQ (fun i=>[(0,1),(1,16)][i]?) ([.int .u64 0]++List.replicate 16 (.int .u64 0)) [(0,.int .u64 1)]=some (bP 1 z16):=rfl
 have hb2:=fun b:Nat=>aEF 1 z16 rfl (some ⟨b,0,none⟩) p p
 refine W.k fun _ b_=>?_
 refine W.cw (iW hg) ?_;intro b_
 exact F.cH [(b_,cl (zs [.int .i64 0,.int .i64 0,.int .i64 0,.int .i64 0,.int .u64 0] p) 185)] (bF 1 z16 (.slice (some ⟨b_,0,none⟩) p p)) ⟨_,rfl,zs5 p▸Sl.own 185 5 b_ (len:=p) (xs:=dK (zpg p)) (by rw [gM,aM])⟩
theorem aJl{P T:Int}(hg:¬ GoK P T):Tri prog 37 [geV P T] [] (fun _=>True) (fun v H=>v=.agg (bF 0 z16 (.slice none 0 0)).toArray∧H=[]):=by
 refine Tri.mk func37 rfl ntmps37 rfl fun w hw=>?_
 have hb:bQ (fun i=>[(0,17),(17,1)][i]?) (List.replicate 17 (.int .u64 0)++[.slice none 0 0]) []=some (bF 0 z16 (.slice none 0 0)):=rfl
 have hl:(bF 0 z16 (.slice none 0 0)).length=18:=rfl
 refine W.k fun _ b_=>?_
 refine W.cw (yJ hg) ?_
 exact F.c0 (bF 0 z16 (.slice none 0 0)) ⟨rfl,rfl⟩
theorem aHc{p t:Nat}(hg:Gm.Ok p t):Tri prog 38 [iX p t] [] (fun _=>True) (fun v H=>∃ pv,v=.agg (bF 1 z16 pv).toArray∧Sl 177 5 pv (dK (zpg p)) H):=by
 refine Tri.mk func38 rfl ntmps38 rfl fun w hw=>?_
 obtain⟨g1,g2,g3,g4⟩:=id hg
 have hb1:bQ (fun i=>[(0,1),(1,16)][i]?) ([.int .u64 0]++List.replicate 16 (.int .u64 0)) [(0,.int .u64 1)]=some (bP 1 z16):=rfl
 have hb2:=fun b:Nat=>aEF 1 z16 rfl (some ⟨b,0,none⟩) p p
 refine W.k fun _ b_=>?_
 refine W.cw (oM hg) ?_;intro b_
 exact F.cH [(b_,cl (zs [.int .i64 0,.int .i64 0,.int .i64 0,.int .i64 0,.int .u64 0] p) 177)] (bF 1 z16 (.slice (some ⟨b_,0,none⟩) p p)) ⟨_,rfl,zs5 p▸Sl.own 177 5 b_ (len:=p) (xs:=dK (zpg p)) (by rw [gM,aM])⟩
theorem aJV{P T:Int}(hg:¬ GoK P T):Tri prog 38 [geV P T] [] (fun _=>True) (fun v H=>v=.agg (bF 0 z16 (.slice none 0 0)).toArray∧H=[]):=by
 refine Tri.mk func38 rfl ntmps38 rfl fun w hw=>?_
 have hb:bQ (fun i=>[(0,17),(17,1)][i]?) (List.replicate 17 (.int .u64 0)++[.slice none 0 0]) []=some (bF 0 z16 (.slice none 0 0)):=rfl
 have hl:(bF 0 z16 (.slice none 0 0)).length=18:=rfl
 refine W.k fun _ b_=>?_
 refine W.cw (tU hg) ?_
 exact F.c0 (bF 0 z16 (.slice none 0 0)) ⟨rfl,rfl⟩
theorem aH9(n:Int)(k:List Int)(i:Nat)(h:Int):(bP n k).set (1+i) (.int .u64 h)=bP n (k.set i h):=by
 unfold bP
 rw [qJ,nM,gF]
theorem aLc(n:Int)(l:List Int)(hl:l.length=16):Tri prog 95 [.agg (bP n l).toArray] [] (fun _=>True) (fun r H=>r=.agg (bP n l).toArray∧H=[]):=by
 refine Tri.mk func95 rfl ntmps95 rfl fun w hw=>?_
 have f1:(bP n l).length=17:=by rw [bU,hl]
 have o1:OC (bP n l):=inferInstance
 have g0:(bP n l)[0]?=some (.int .u64 n):=rfl
 have t1:((bP n l).drop 1).take 16=l.map fun h=>(.int .u64 h:Value):=by
  show (l.map fun h=>(.int .u64 h:Value)).take 16=_
  rw [aB (by rw [aE,hl];omega)]
 have hll:(l.map fun h=>(.int .u64 h:Value)).length=16:=by rw [aE,hl]
 have hb:bQ (fun i=>[(0,1),(1,16)][i]?) ([.int .u64 0]++List.replicate 16 (.int .u64 0)) [(0,.int .u64 n)]=some (bP n (List.replicate 16 0)):=rfl
 have f0:(bP n (List.replicate 16 0)).length=17:=rfl
 have o0:OC (bP n (List.replicate 16 0)):=inferInstance
 refine W.j fun _ _ b_=>?_
 rename_i bx r2
 refine SW.block ?_
 refine W.j ?_
 refine bV [2,3,10] [b_] (fun x:Nat×List Int=>[(11,.int .i64 x.1)]) (fun x=>[(b_,cl (bP n x.2) 88)]) (fun x=>16-x.1) (fun x=>x.1≤16∧x.2.length=16∧x.2.take x.1=l.take x.1) (0,List.replicate 16 0) ⟨by decide,rfl,rfl⟩ ?_
 rintro⟨i,k⟩ ⟨hi,hk,hkl⟩
 dsimp only at hi hk hkl ⊢
 have fk:(bP n k).length=17:=by rw [bU,hk]
 have ok:OC (bP n k):=inferInstance
 by_cases hin:i<16
 ·obtain⟨h,hh⟩:∃ h,l[i]?=some h:=⟨_,aA om⟩
  have hidx:(l.map fun h=>(.int .u64 h:Value))[i]?=some (.int .u64 h):=by rw [aH,hh];rfl
  have hset:=aH9 n k i h
  have hlt:1+i<(bP n k).length:=by rw [fk];omega
  refine W.k ?_
  rw [hset]
  refine aT.mk (i+1,k.set i h) ?_
  refine⟨hin,by dsimp only;rw [cP];exact hk,?_⟩
  dsimp only
  rw [aO,aO,hh,iG om,nF (Nat.le_refl _),hkl]
 ·have h16:i=16:=om
  subst h16
  have hke:k=l:=by
   rw [← aB (l:=k) (i:=16) om,← aB (l:=l) (i:=16) om];exact hkl
  subst hke
  refine W.k ?_
  exact F.c0 (bP n k) ⟨rfl,rfl⟩
theorem aHZ(ps:List Pg)(p:Pg):dK ps++pgC p=dK (ps++[p]):=by
 show _=((ps++[p]).map pgC).flatten
 rw [bB,eW]
 simp only [dO,jB,dG,iZ,aJ]
theorem rI(ps:List Pg):(dK ps).length=ps.length*5:=by
 rw [eD (n:=5) fun x hx=>by obtain⟨y,-,rfl⟩:=bG.1 hx;exact dW y,aE]
theorem aLm(ps:List Pg)(v:Value)(hn:ps.length≤1000000):Tri prog 96 [v] [] (fun w=>Rd [] w 5 v (dK ps)) (fun r H=>Sl 185 5 r (dK ps) H):=by
 refine Tri.mk func96 rfl ntmps96 rfl fun w hw=>?_
 have hL:∀ y∈ps.map pgC,y.length=5:=fun y hy=>by
  obtain⟨x,hx,rfl⟩:=bG.1 hy
  exact dW x
 obtain⟨a,cap,rfl,hcap,hgt⟩:=hw.rows dc hL
 rw [aE] at hcap ⊢
 refine W.j ?_
 refine SW.block ?_
 refine W.j ?_
 refine bN [6,7] (fun x:Nat×Value×Hp=>[(3,x.2.1),(8,.int .i64 x.1)]) (fun x=>x.2.2) (fun x=>ps.length-x.1) (fun x=>x.1≤ps.length∧Sl 185 5 x.2.1 (dK (ps.take x.1)) x.2.2) (0,.slice none 0 0,[]) ⟨Nat.zero_le _,by rw [cQ];exact Sl.nil _ _⟩ ?_
 rintro⟨i,sv,Hs⟩ ⟨hi,hS⟩
 dsimp only at hi hS ⊢
 have hS1:=hS.isOne
 by_cases hin:i<ps.length
 ·obtain⟨x,hx⟩:∃ x,ps[i]?=some x:=⟨_,aA hin⟩
  obtain⟨pb,po,lv,T,fz,rfl,hb,hk,hvv⟩:=hgt i (pgC x) (by rw [aH,hx];rfl)
  have hxl:=dW x
  have ht:dK (ps.take i)++pgC x=dK (ps.take (i+1)):=by rw [aHZ,aO,hx];rfl
  have c0:(pgC x)[0]?=some (.int .i64 x.kind):=rfl
  have c1:(pgC x)[1]?=some (.int .i64 x.cls):=rfl
  have c2:(pgC x)[2]?=some (.int .i64 x.run):=rfl
  have c3:(pgC x)[3]?=some (.int .i64 x.size):=rfl
  have c4:(pgC x)[4]?=some (.int .u64 x.ser):=rfl
  have hb1:bQ (fun i=>[(0,1),(1,1),(2,1),(3,1),(4,1)][i]?) ([.int .i64 0]++[.int .i64 0]++[.int .i64 0]++[.int .i64 0]++[.int .u64 0]) [(0,.int .i64 x.kind),(1,.int .i64 x.cls),(2,.int .i64 x.run),(3,.int .i64 x.size),(4,.int .u64 x.ser)]=some (pgC x):=rfl
  have hb5:bQ (fun i=>some (i*5,5)) (zs [.int .i64 0,.int .i64 0,.int .i64 0,.int .i64 0,.int .u64 0] 1) [(0,.agg (pgC x).toArray)]=some (pgC x):=rfl
  have hox:OC (pgC x):=inferInstance
  have hpl:=rI (ps.take i)
  rw [aD] at hpl
  generalize pgC x=X at *
  refine W.k fun _ b_=>?_
  refine W.ap (ys:=X) (mm:=1) hS (fun w2 hs=>(Sl.own 185 5 b_ (xs:=X) (by rw [hxl])).srcAt hs inferInstance) (fun v3 H3 h3=>?_) (hys:=by rw [hxl]) (hbytes:=by rw [hpl,hxl];omega)
  have h31:=h3.isOne
  rw [ht] at h3
  refine W.k ?_
  refine aT.mk (i+1,v3,H3) ?_
  exact⟨hin,h3⟩
 ·have hi2:i=ps.length:=om
  subst hi2
  rw [bT] at hS
  refine W.k ?_
  refine Fin.to Hs ?_
  exact F.f1 hS
theorem aLg(n:Int)(l:List Int)(hl:l.length=16)(ps:List Pg)(pv:Value)(hn:ps.length≤1000000):Tri prog 35 [.agg (bF n l pv).toArray] [] (fun w=>Rd [] w 5 pv (dK ps)) (fun r H=>∃ qv,r=.agg (bF n l qv).toArray∧Sl 185 5 qv (dK ps) H):=by
 refine Tri.mk func35 rfl ntmps35 rfl fun w hw=>?_
 have hv1:=hw.isOne
 have f1:(bF n l pv).length=18:=by rw [aC,bU,hl];rfl
 have o1:OC (bF n l pv):=inferInstance
 have t1:((bF n l pv).drop 0).take 17=bP n l:=by rw [bH,aQ (by rw [bU,hl];omega),aB (by rw [bU,hl];omega)]
 have g1:(bF n l pv)[17]?=some pv:=by rw [aS (by rw [bU,hl];omega),bU,hl];rfl
 have r1:(bP n l).length=17:=by rw [bU,hl]
 have hR:=aLc n l hl
 have hP:=aLm ps pv hn
 have f2:∀ qv,(bF n l qv).length=18:=fun qv=>by rw [aC,bU,hl];rfl
 have hb:=aEF n l hl
 refine W.k fun _ b_=>?_
 (refine SW.l [5,7] [0,1,3,4] ?_;refine aX 2 ?_)
 refine W.cq hR ?_
 (refine bO [] ?_;refine cB 5 ?_)
 refine aL hP ?_ (hpre:=fun w2 hs=>hw.ro (Hc:=[]) hs)
 intro qv Hq hq
 have hq1:=hq.isOne
 obtain⟨qa,ql,qc,rfl,-⟩:=hq.form
 have hbq:=hb qa ql qc
 have fq:=f2 (.slice qa ql qc)
 have oq:OC (bF n l (.slice qa ql qc)):=inferInstance
 (refine SL.l [6] ?_;refine cB 7 ?_;refine W.i ?_;refine eI ?_)
 refine W.k ?_
 exact F.cH Hq (bF n l (.slice qa ql qc)) ⟨_,rfl,hq⟩
end
end Go.Proofs.YtnigolgkkjidiaaGreat
