/- How many acts are done of a device. -/
import Derived.Test.YtdfclocfackkmaaGreatPm43
set_option linter.unusedVariables false
set_option linter.unusedSimpArgs false
set_option linter.unusedSectionVars false
set_option maxHeartbeats 8000000
namespace Go.Proofs.YtdfclocfackkmaaGreat
open Go Go.Proofs.Tryz
theorem aCn(q:LB)(C:Dv):(C.crash q).acts=C.acts:=by unfold Dv.crash;cases C.down <;> rfl
theorem aH7(C:Dv)(a:Int×Int×Int):(C.push a).acts.length<=C.acts.length+1:=by
 unfold Dv.push;split
 ·simp
 omega
theorem yR(C:Dv)(a:Int×Int×Int):(C.act a).acts.length<=C.acts.length+1:=by
 unfold Dv.act;split
 ·split
  ·rw [aCn];exact Nat.le_succ _
  exact aH7 { C with fuse:=C.fuse-1 } a
 exact aH7 C a
theorem aEd{C:Dv}(a:Int×Int×Int)(hf:C.fuse=0)(hl:C.acts.length+1<=16384):(C.act a).acts.length=C.acts.length+1/\(C.act a).fuse=0:=by unfold Dv.act;rw [if_neg (by rw [hf];decide)];unfold Dv.push;rw [if_pos oQ];exact⟨by simp,hf⟩
def DS.Le(f:DS)(n:Nat):Prop:=∀ C,(f C).2.acts.length<=C.acts.length+n
def DS.Cn(f:DS)(n:Nat):Prop:=∀ C,(f C).1=0->C.fuse=0->C.acts.length+n<=16384->(f C).2.acts.length=C.acts.length+n/\(f C).2.fuse=0
theorem DS.Le.and{f g:DS}{n m:Nat}(h:f.Le n)(h2:g.Le m):(f.and g).Le (n+m):=fun C=>by
 have h3:=h C
 by_cases h0:(f C).1=0
 ·rw [DS.and_eq (yJ h0)]
  have:=h2 (f C).2
  omega
 ·rw [DS.and_ne h0]
  omega
theorem DS.Cn.and{f g:DS}{n m:Nat}(h:f.Cn n)(h2:g.Cn m):(f.and g).Cn (n+m):=fun C he hf hl=>by
 by_cases h0:(f C).1=0
 ·rw [DS.and_eq (yJ h0)] at he |-
  obtain⟨h3,h4⟩:=h C h0 hf oQ
  obtain⟨h5,h6⟩:=h2 (f C).2 he h4 oQ
  exact⟨oQ,h6⟩
 ·rw [DS.and_ne h0] at he
  exact absurd he h0
theorem aPj(x:Nat)(bs:LB):(stS x bs).Le 1:=fun C=>by
 show (C.store x bs).acts.length<=_
 unfold Dv.store
 split
 ·split
  ·exact yR _ _
  ·exact yR _ _
 ·exact Nat.le_succ _
theorem aOg(x n:Nat):(flS x n).Le 1:=fun C=>by
 show (C.flush x n).acts.length<=_
 unfold Dv.flush
 split
 ·split
  ·exact yR _ _
  ·exact yR _ _
 ·exact Nat.le_succ _
theorem aEq:feS.Le 1:=fun C=>by
 show C.fence.acts.length<=_
 unfold Dv.fence
 split
 ·split
  ·exact yR _ _
  ·exact yR _ _
 ·exact Nat.le_succ _
theorem aGP{C:Dv}{i n:Int}(h:C.actR i n=0):C.rdy i n=0/\C.actE=0:=by
 unfold Dv.actR at h;split at h
 ·rename_i h0;exact⟨h0,h⟩
 rename_i h0;exact absurd h h0
theorem aPi(x:Nat)(bs:LB):(stS x bs).Cn 1:=fun C he hf hl=>by
 obtain⟨h1,h2⟩:=aGP (show C.actR x bs.length=0 from he)
 show (C.store x bs).acts.length=_/\(C.store x bs).fuse=0
 unfold Dv.store
 rw [if_pos h1,if_pos h2]
 exact aEd _ hf hl
theorem aOf(x n:Nat):(flS x n).Cn 1:=fun C he hf hl=>by
 obtain⟨h1,h2⟩:=aGP (show C.actR x n=0 from he)
 show (C.flush x n).acts.length=_/\(C.flush x n).fuse=0
 unfold Dv.flush
 rw [if_pos h1,if_pos h2]
 exact aEd _ hf hl
theorem aKg:feS.Cn 1:=fun C he hf hl=>by
 obtain⟨h1,h2⟩:=aGP (show C.actR 0 0=0 from he)
 show C.fence.acts.length=_/\C.fence.fuse=0
 unfold Dv.fence
 rw [if_pos h1,if_pos h2]
 exact aEd _ hf hl
theorem aIa(k:Nat)(b:LB):(fM k b).Le 2:=(aPj _ _).and (aOg _ _)
theorem aH9(k:Nat)(b:LB):(fM k b).Cn 2:=(aPi _ _).and (aOf _ _)
theorem aB0:∀ l:List (Nat×LB),(putL l).Le (2*l.length)
 | []=>fun C=>Nat.le_refl _
 | x::r=>by have:=(aIa x.1 x.2).and (aB0 r);rw [aW,show 2*(r.length+1)=2+2*r.length by omega];exact this
theorem aH8:∀ l:List (Nat×LB),(putL l).Cn (2*l.length)
 | []=>fun C _ hf _=>⟨rfl,hf⟩
 | x::r=>by have:=(aH9 x.1 x.2).and (aH8 r);rw [aW,show 2*(r.length+1)=2+2*r.length by omega];exact this
theorem aDW(k n:Nat):(fU k n).Le 3:=(aIa _ _).and aEq
theorem aJv(k n:Nat):(fU k n).Cn 3:=(aH9 _ _).and aKg
theorem aCZ(k:Nat)(l:LL):(gB k l).length=l.length:=by unfold gB;simp
theorem aD3(p t:Nat)(l:LL):(bX p t l).Le (2*l.length+1+3):=by have:=((aB0 (gB 0 l)).and aEq).and (aDW (Gm.leaves p) (1+t));rw [aCZ] at this;exact this
theorem aJy(p t:Nat)(l:LL):(bX p t l).Cn (2*l.length+1+3):=by have:=((aH8 (gB 0 l)).and aKg).and (aJv (Gm.leaves p) (1+t));rw [aCZ] at this;exact this
theorem aOb(C:Dv):C.doo.acts.length<=C.acts.length+1:=by
 unfold Dv.doo;split
 ·exact Nat.le_succ _
 exact yR _ _
theorem aB1(g:Rg)(y:Dv×Rg):(jX g y).2.1.acts.length<=y.1.acts.length+1:=by
 show (qK _ _ _).acts.length<=_;unfold qK;split
 ·exact Nat.le_succ _
 split
 ·exact Nat.le_succ _
 exact aOb _
theorem aMO{g:Rg}{y:Dv×Rg}(he:(jX g y).1=0)(hf:y.1.fuse=0)(hl:y.1.acts.length+1<=16384):(jX g y).2.1.acts.length=y.1.acts.length+1/\(jX g y).2.1.fuse=0:=by
 have he':qL y.1 y.2 g=0:=he;show (qK y.1 y.2 g).acts.length=_/\(qK y.1 y.2 g).fuse=0;unfold qL at he';unfold qK;split at he'
 ·cases he'
 rename_i h1;rw [if_neg h1];split at he'
 ·cases he'
 rename_i h2;rw [if_neg h2];unfold Dv.doo;rw [if_neg h1];exact aEd _ hf hl
theorem aMw(p t:Nat)(w:Bool)(B:LL)(x:Dv×Rg):(pK p t w B x).2.1.acts.length<=x.1.acts.length+(2*B.length+1+3)+1:=by
 have h:=aD3 p t B x.1;have hwt:(bX p t B).t x=((bX p t B x.1).1,(bX p t B x.1).2,x.2):=rfl;unfold pK;by_cases h0:(bX p t B x.1).1=0
 ·rw [TS.and_eq (y:=((bX p t B x.1).2,x.2)) (by rw [hwt,h0])];cases w with
  | false=>show (bX p t B x.1).2.acts.length<=_;omega
  | true=>
   rw [if_pos rfl]
   have:=aB1 { x.2 with c:=x.2.c+1 } ((bX p t B x.1).2,x.2)
   exact cZ this (by dsimp only;omega)
 rw [TS.and_ne (by rw [hwt];exact h0),hwt];dsimp only;omega
theorem aKE{p t:Nat}{w:Bool}{C:Dv}{r:Rg}(hB:(eW p t C r).2.length=Gm.leaves p)(he:(fF p t w (C,r)).1=0)(hf:C.fuse=0)(hl:C.acts.length+(2*Gm.leaves p+5)<=16384):(fF p t w (C,r)).2.1.acts.length=C.acts.length+(2*Gm.leaves p+1+3)+(if w=true then 1 else 0):=by
 by_cases h1:w=true/\r.c=18446744073709551615
 ·have:fF p t w (C,r)=(21,(C,r)):=by unfold fF;rw [if_pos h1]
  rw [this] at he;cases he
 by_cases h2:C.down=true
 ·have:fF p t w (C,r)=(8,(C,r)):=by unfold fF;rw [if_neg h1,if_pos h2]
  rw [this] at he;cases he
 by_cases h3:(eW p t C r).1=3
 ·have:fF p t w (C,r)=(20,(C,r)):=by unfold fF;rw [if_neg h1,if_neg h2,if_pos h3]
  rw [this] at he;cases he
 have ho:=pJ h1 (by simpa using h2) h3;rw [ho] at he |-;generalize (eW p t C r).2=B at *;have hc:=aJy p t B C;rw [hB] at hc;have hwt:(bX p t B).t (C,r)=((bX p t B C).1,(bX p t B C).2,r):=rfl;unfold pK at he |-;by_cases h0:(bX p t B C).1=0
 ·obtain⟨h5,h6⟩:=hc h0 hf oQ;rw [TS.and_eq (y:=((bX p t B C).2,r)) (by rw [hwt,h0])] at he |-;cases w with
  | false=>exact h5
  | true=>
   rw [if_pos rfl] at he |-
   rw [if_pos rfl]
   have:=aMO (g:={ r with c:=r.c+1 }) (y:=((bX p t B C).2,r)) he h6 (by dsimp only;omega)
   exact this.1.trans (by dsimp only;omega)
 rw [TS.and_ne (by rw [hwt];exact h0),hwt] at he;exact absurd he h0
theorem aMr(p:Nat)(c:UInt64)(l:List Ent):(pH p c l).Le (2*(1+l.length)+1):=by have h:=(aB0 (gB (Gm.leaves p) (uO c l))).and aEq;rw [aCZ,show (uO c l).length=1+l.length by unfold uO;rw [aW,aC];omega] at h;exact h
theorem aMq(p:Nat)(es:List UInt64)(l:List Ent):(uN p es l).Le (2*(l.length+(dA l).length)+1):=by have h:=(aB0 (aAk p es l)).and aEq;rw [show (aAk p es l).length=l.length+(dA l).length by unfold aAk;rw [aB,aC,aC]] at h;exact h
theorem aMe(p:Nat)(c:UInt64)(l:List Ent)(C:Dv)(r:Rg)(x:So):(kV p c l (C,r,x)).2.1.acts.length<=C.acts.length+(8*l.length+10):=by
 have ht:=oH l;generalize hes:eD c x.es l=es;generalize hlv:jE x.lv (oJ p es l)=lv;obtain⟨e,σ1,hz⟩:∃ e σ1,pH p c l C=(e,σ1):=⟨_,_,rfl⟩;have h1:=aMr p c l C;rw [hz] at h1;dsimp only at h1;by_cases h0:e=0
 ·subst h0;obtain⟨e2,σ2,r2,hg⟩:∃ e σ2 r2,jX ⟨(c.toNat:Int),fN lv⟩ (σ1,r)=(e,σ2,r2):=⟨_,_,_,rfl⟩;have h2:=aB1 ⟨(c.toNat:Int),fN lv⟩ (σ1,r);rw [hg] at h2;dsimp only at h2;have ha:((pH p c l).t.and (jX ⟨(c.toNat:Int),fN lv⟩)) (C,r)=(e2,σ2,r2):=by rw [TS.and_eq (aHr hz)];exact hg
  by_cases h3:e2=0
  ·subst h3;obtain⟨e4,σ4,hb⟩:∃ e σ4,((uN p es l).and (fU (Gm.leaves p) (1+l.length))) σ2=(e,σ4):=⟨_,_,rfl⟩;have h4:=((aMq p es l).and (aDW (Gm.leaves p) (1+l.length))) σ2;rw [hb] at h4;dsimp only at h4;rw [sZ hes hlv ha hb];show σ4.acts.length<=_;omega
  rw [vY hes hlv ha h3];show σ2.acts.length<=_;omega
 rw [aEp hz h0];show σ1.acts.length<=_;omega
theorem aN6{p t:Nat}{X:UInt64->Nat->LB->LB}(l:List Ent)(C:Dv)(r:Rg)(x:So):(cmS p t X l (C,r,x)).2.1.acts.length<=C.acts.length+(8*t+10):=by
 by_cases hno:nA p t r x l≠0\/l=[]
 ·obtain⟨e,he⟩:=aJ5 (C:=C) (X:=X) hno;rw [he];exact jP _ _
 have h0:nA p t r x l=0:=Decidable.not_not.1 fun hh=>hno (.inl hh);have hl:l≠[]:=fun hh=>hno (.inr hh);obtain⟨-,-,hm⟩:=aCE h0 hl;have ht:=(wH hm).1.2;rw [aEo h0 hl];have:=aMe p (UInt64.ofNat (r.c+1).toNat) (dT X (UInt64.ofNat (r.c+1).toNat) l) C r x;rw [mS] at this;omega
theorem aF0(p t:Nat)(C:Dv)(r:Rg):(eW p t C r).2.length=Gm.leaves p:=by
 have h2:=C.blks_len 0 (Gm.leaves p);unfold eW;generalize C.blks 0 (Gm.leaves p)=l at *;generalize C.blks (Gm.leaves p) (1+t)=logs;by_cases hf:lC p t r.root l=true
 ·rw [pF hf];exact h2
 cases hlr:uP p t r logs with
 | none=>rw [nQ hf hlr];exact h2
 | some x=>
  rw [qB hf hlr]
  split
  ·show (qH _ _ _ _).length=_
   rw [tS];exact h2
  ·exact h2
theorem aH1(p t:Nat)(w:Bool)(C:Dv)(r:Rg):(fF p t w (C,r)).2.1.acts.length<=C.acts.length+(2*Gm.leaves p+5):=by
 by_cases h1:w=true/\r.c=18446744073709551615
 ·have:fF p t w (C,r)=(21,(C,r)):=by unfold fF;rw [if_pos h1]
  rw [this];exact jP _ _
 by_cases h2:C.down=true
 ·have:fF p t w (C,r)=(8,(C,r)):=by unfold fF;rw [if_neg h1,if_pos h2]
  rw [this];exact jP _ _
 by_cases h3:(eW p t C r).1=3
 ·have:fF p t w (C,r)=(20,(C,r)):=by unfold fF;rw [if_neg h1,if_neg h2,if_pos h3]
  rw [this];exact jP _ _
 have hd:C.down=false:=by simpa using h2
 rw [pJ h1 hd h3];have:=aMw p t w (eW p t C r).2 (C,r);rw [aF0] at this;dsimp only at this;omega
theorem aKj{p t:Nat}{X:UInt64->Nat->LB->LB}(C:Dv)(r:Rg):(kJ p t X (C,r)).2.1.acts.length<=C.acts.length+(2*Gm.leaves p+6):=by
 by_cases h0:18446744073709551613<r.c
 ·have e1:kJ p t X (C,r)=(21,(C,r)):=by unfold kJ;rw [if_pos h0]
  rw [e1];exact jP _ _
 have e1:kJ p t X (C,r)=gA.and ((bX p t (iI p t X (UInt64.ofNat (r.c+2).toNat))).t.and (aDg (iI p t X (UInt64.ofNat (r.c+2).toNat)))) (C,r):=by unfold kJ;rw [if_neg h0]
 have hBl:=pE p t X (UInt64.ofNat (r.c+2).toNat);rw [e1];generalize iI p t X (UInt64.ofNat (r.c+2).toNat)=B at *;have hb:=aB1 { r with c:=r.c+1 } (C,r);obtain⟨e,σ1,r1,hbb⟩:∃ e σ1 r1,gA (C,r)=(e,σ1,r1):=⟨_,_,_,rfl⟩;rw [show jX { r with c:=r.c+1 } (C,r)=(e,σ1,r1) from hbb] at hb;dsimp only at hb;by_cases he:e=0
 ·subst he;rw [TS.and_eq hbb];have hw:=aD3 p t B σ1;have hwt:(bX p t B).t (σ1,r1)=((bX p t B σ1).1,(bX p t B σ1).2,r1):=rfl;by_cases h1:(bX p t B σ1).1=0
  ·rw [TS.and_eq (y:=((bX p t B σ1).2,r1)) (by rw [hwt,h1])];have:=aB1 ⟨r1.c+1,gE B⟩ ((bX p t B σ1).2,r1);exact cZ this (by dsimp only;omega)
  rw [TS.and_ne (by rw [hwt];exact h1),hwt];dsimp only;omega
 rw [TS.and_ne (by rw [hbb];exact he),hbb];dsimp only;omega
theorem aJV(p t:Nat)(X:UInt64->Nat->LB->LB)(A:Nat):Clo p t X (fun C _ _ _=>C.acts.length<=A) (fun C _ _ _=>C.acts.length<=A+(2*Gm.leaves p+8*t+10)) where
 no hq:=cZ hq oQ
 cm l hI hq:=cZ (aN6 (p:=p) (t:=t) (X:=X) l _ _ _) oQ
 rd k hI hq:=cZ hq oQ
 op w hI hq:=cZ (aH1 p t w _ _) oQ
 fm hI hq:=cZ (aKj _ _) oQ
 cr q hq:=by
  rename_i C r s o
  show (C.crash q).acts.length<=_
  rw [aCn]
  exact cZ hq oQ
 on hq:=cZ hq oQ
 ar n q hq:=cZ hq oQ
 ta a b hq:=by
  rename_i C r s o
  have:(C.tam a b).acts=C.acts:=by unfold Dv.tam;split <;> rfl
  show (C.tam a b).acts.length<=_
  rw [this]
  exact cZ hq oQ
section
attribute [local irreducible] SW SL SQ SH SA SS Pu Fin bS aN
theorem aHc{p t:Nat}{w:Bool}{C:Dv}{r:Rg}{x:So}(h:iL p t w C r=some x):(fF p t w (C,r)).1=0:=by
 unfold iL at h;split at h
 ·assumption
 cases h
theorem aLG{k:LB}{pp N:Nat}{C:Dv}{r:Rg}{sr:Sr}{D:Bk}{o:Option So}{H:Hp}(hP:P34 k pp N C r sr D o H)(hI:Inv 3 4 C r o)(hA:C.acts.length<=1000)(hF:C.fuse=0)(w:Bool):Tri prog 16 [ptv pp,.bool w] H NT (fun v H'=>v=.bool true/\∃ σ' r' β' o',P34 k pp N σ' r' sr β' o' H'/\Inv 3 4 σ' r' o'/\σ'.acts.length<=C.acts.length+19/\∀ x,o'=some x->σ'.acts.length=C.acts.length+(if w=true then 19 else 18)):=by refine (aEG aCL hP hI.len hI.r w).to ?_;rintro v H' ⟨rfl,h⟩;have hL7:Gm.leaves 3=7:=rfl;refine⟨H',[],by rw [aG],rfl,_,_,_,_,h,(hI.open w).1,by have:=aH1 3 4 w C r;omega,fun x hx=>?_⟩;rw [aKE (aF0 3 4 C r) (aHc hx) hF oQ,hL7];cases w <;> rfl
theorem aAo(k:LB)(hk:k.length=16)(a:Option Addr)(len cap:Nat)(ys:LV)(hml0:len<=maxLen)(wr:Bool):Tri prog 4 [.agg (cbs k).toArray,.slice a len cap,.bool wr] [] (fun w=>yB w a len cap ys) (fun v H=>v=.bool true):=by
 have hX:=aEe k hk;have hK:=wW k hk;have hK':=xR k hk;have hbg:=zY aCL k hk (cnt:=0) dQ dQ;have hstep:=fun (pp N:Nat) (C:Dv) (r:Rg) (sr:Sr) (D:Bk) (o:Option So) (H:Hp) (hN:N<=1000000) (hP:P34 k pp N C r sr D o H) (hI:Inv 3 4 C r o) (a:lU) us l hl ha=>aGM (pp:=pp) (N:=N) aCL hP hI hK hK' hN hX a us l hl ha;have hI0:Inv 3 4 (Dv.new (4*Gm.total 3 4:Nat)) (rg0 0) none:=⟨by have:=(aAp (4*Gm.total 3 4) dQ).len;omega,aBn dQ dQ,by simp⟩;have hA0:(Dv.new (4*Gm.total 3 4:Nat)).acts.length=0:=rfl;generalize Dv.new (4*Gm.total 3 4:Nat)=σ0 at *;generalize rg0 0=r0 at *;generalize Sr.new=sr0 at *;generalize Bk.new=β0 at *;have hif:=hI0.format (X:=dY (Aes.enc (Aes.sched k) 10));have hpf:=fun pp H hP=>aBf (pp:=pp) (H:=H) (o:=none) (N:=0) (sr:=sr0) (D:=β0) (C:=σ0) (r:=r0) aCL hP hI0.len hI0.r hK hK' oQ hX;have hi1:=hif.1;clear hif;have hA1:=aKj (p:=3) (t:=4) (X:=dY (Aes.enc (Aes.sched k) 10)) σ0 r0;generalize oP 3 σ0 r0 sr0=sr1 at *;generalize aA1 3 4 10 (Aes.sched k) σ0 r0 β0=β1 at *;generalize kJ 3 4 (dY (Aes.enc (Aes.sched k) 10)) (σ0,r0)=FF at *;obtain⟨e1,σ1,r1⟩:=FF;dsimp only at hpf hi1 hA1;have hL7:Gm.leaves 3=7:=rfl;have hclo:=aJV 3 4 (dY (Aes.enc (Aes.sched k) 10));cases wr;all_goals
  refine Tri.mt func4 ntmps4 fun w hw=>?_;obtain⟨hrd0,hops⟩:=hw;obtain⟨a',len',cap',he,hyl,hcap,hrd⟩:=hrd0.get;cases he;have hml:len<=9223372036854775807:=cZ hml0 dQ;have hk0:(cbs k).length=16:=by rw [aI];exact hk
  (refine W.k ?_;repeat intro b_);(refine SW.l [2] [1] ?_;refine aX 0 ?_);refine W.cq xS ?_;(refine bB [] ?_;refine bL 2 ?_);refine aF hbg ?_;rintro _ H1 ⟨pp,rfl,hP1⟩;clear hbg;(refine SL.l [3,4] ?_);(refine W.k ?_;repeat intro b_);refine aF (hpf pp H1 hP1) ?_;rintro _ H2 ⟨rfl,hP2⟩;clear hpf hP1 hI0;(refine W.j ?_;repeat intro b_);refine bP [] H2 (fun _:Hp=>[]) (fun y=>y) NT ?_ ?_
  ·(refine W.k ?_;repeat intro b_);refine bE [2,7,8,21,22] (fun y:PlS=>[(23,.int .i64 (y.i:Int))]) (fun y=>y.H) (fun y=>len-y.i) (fun y=>y.i<=len/\y.i<=6/\y.N=200+1000*y.i/\P34 k pp y.N y.C y.r y.sr y.D y.o y.H/\Inv 3 4 y.C y.r y.o/\y.C.acts.length<=20+75*y.i) ⟨0,200,σ1,r1,sr1,β1,none,H2⟩ ⟨Nat.zero_le _,Nat.zero_le _,rfl,hP2,hi1,by dsimp only;omega⟩ ?_;clear hP2 hi1 hA1 hA0;rintro⟨ii,N,C,r,sr,D,o,H⟩ ⟨hi,hi6,hN,hP,hI,hA⟩;dsimp only at hi hi6 hN hP hI hA |-;by_cases hil:ii<len
   ·obtain⟨ad,ho,hrow⟩:=hops ii hil;obtain⟨blk0,ob,lr,T,fz,rfl,hb,hbk,hys⟩:=hrd oQ;have hrow2:=(aEW hys hil).trans hrow;have hol:ad.c.length=9:=rfl;obtain⟨us,l,hA',hl⟩:=ho.k;have hoc:OC ad.c:=hA'.one;by_cases c6:6<=ii
    ·(refine W.k ?_;repeat intro b_);refine bS.mk H ?_;exact trivial
    have hst:=hstep pp N C r sr D o H oQ hP hI ad us l hl (by have:=ho.i;exact⟨this.1,this.2⟩);(refine W.k ?_;repeat intro b_);refine aF hst ?_ (hpre:=fun w2 hs=>hA'.ro (Hc:=H) hs);rintro _ H2 ⟨rfl,σ2,r2,sr2,β2,o2,hP2,hI2,hQ2⟩;have hA2:σ2.acts.length<=20+75*ii+(2*Gm.leaves 3+8*4+10):=hQ2 _ _ (hclo (20+75*ii)) hA;clear hP hI hA hQ2 hst;obtain⟨i,sv,rv,Hd,Hs,Hk,HD,HR,HS,HT,hD,hS,hB,hDR,hSR,hO,hOR,rfl⟩:=hP2;have os:=hO.one;have ot:=hOR.one;have h3:=aOx hD;have h4:=aK9 hDR;(refine W.k ?_;repeat intro b_);refine aF h3 ?_;rintro _ Hd3 ⟨rfl,hD3⟩;(refine W.k ?_;repeat intro b_);refine aF h4 ?_;rintro _ HD3 ⟨rfl,hDR3⟩;have hP3:P34 k pp (N+1000) σ2.on r2 sr2 β2 o2 (tF i 3 4 pp sv rv r2 Hd3 Hs Hk HD3 HR HS HT):=⟨i,sv,rv,Hd3,Hs,Hk,HD3,HR,HS,HT,hD3,hS,hB,hDR3,hSR,hO,hOR,rfl⟩;have hI3:Inv 3 4 σ2.on r2 o2:=hI2.dev rfl;have hA3:σ2.on.acts.length<=20+75*ii+56:=hA2;have hF3:σ2.on.fuse=0:=rfl;have h5:=aGQ hD3;clear h3 h4 hA2 hI2;generalize σ2.on=σ3 at *;(refine W.k ?_;repeat intro b_);refine aF h5 ?_;rintro va _ ⟨Ha,rfl,hSa⟩;obtain⟨aa,al,ac1,rfl,hal0⟩:=hSa.form;have hfl:(σ3.acts.flatMap ac).length=σ3.acts.length*3:=lX ac 3 _ (fun x _=>rfl);obtain rfl:al=σ3.acts.length:=by omega
    have hop:=fun w=>aLG hP3 hI3 oQ hF3 w;clear hSa h5 hfl hal0 hP3 hI3 hD hDR;(refine W.k ?_;repeat intro b_);refine aF (hop _) ?_;rintro _ H4 ⟨rfl,σ4,r4,β4,o4,hP4,hI4,hA4,hcn⟩;clear hop;obtain⟨i4,sv4,rv4,Hd4,Hs4,Hk4,HD4,HR4,HS4,HT4,hD4,hS4,hB4,hDR4,hSR4,hO4,hOR4,rfl⟩:=hP4;have hP5:P34 k pp (N+1000) σ4 r4 sr2 β4 o4 (tF i4 3 4 pp sv4 rv4 r4 Hd4 Hs4 Hk4 HD4 HR4 HS4 HT4):=⟨i4,sv4,rv4,Hd4,Hs4,Hk4,HD4,HR4,HS4,HT4,hD4,hS4,hB4,hDR4,hSR4,hO4,hOR4,rfl⟩;have os4:=hO4.one;have ot4:=hOR4.one;have h6:=aGQ hD4;cases o4 with
    | none=>
     obtain⟨rfl,rfl⟩:=hO4
     (refine W.k ?_;repeat intro b_)
     refine aN.mk ⟨ii+1,N+1000,σ4,r4,sr2,β4,none,tF i4 3 4 pp (.pointer none) rv4 r4 Hd4 Hs4 Hk4 HD4 HR4 [] HT4⟩ ?_
     exact⟨hil,by dsimp only;omega,by dsimp only;omega,hP5,hI4,by dsimp only;omega⟩
    | some x=>
     obtain⟨sp,rfl,hSt⟩:=hO4
     have hcx:=hcn x rfl
     first|rw [if_pos rfl] at hcx|rw [if_neg dQ] at hcx
     (refine W.k ?_;repeat intro b_)
     refine aF h6 ?_
     rintro vb _ ⟨Hb6,rfl,hSb⟩
     obtain⟨ba,bl,bc1,rfl,hbl0⟩:=hSb.form
     have hfl:(σ4.acts.flatMap ac).length=σ4.acts.length*3:=lX ac 3 _ (fun x _=>rfl)
     obtain rfl:bl=σ4.acts.length:=by omega
     clear hSb hfl hbl0
     rw [hcx]
     (refine W.k ?_;repeat intro b_)
     refine aN.mk ⟨ii+1,N+1000,σ4,r4,sr2,β4,some x,tF i4 3 4 pp (ptv sp) rv4 r4 Hd4 Hs4 Hk4 HD4 HR4 HS4 HT4⟩ ?_
     exact⟨hil,by dsimp only;omega,by dsimp only;omega,hP5,hI4,by dsimp only;omega⟩
   (refine W.k ?_;repeat intro b_);refine bS.mk H ?_;exact trivial
  rintro H3 -;(refine W.k ?_;repeat intro b_);refine W.cw aAU ?_;repeat intro b_
  refine Fin.to [] ?_;exact F.f1 rfl
end
end Go.Proofs.YtdfclocfackkmaaGreat
