/- Leaves that are set, in plain words: the sums above them, level by level. -/
import Derived.Test.YtdfclocfackkmaaGreatPm8
set_option linter.unusedVariables false
set_option linter.unusedSimpArgs false
set_option linter.unusedSectionVars false
namespace Go.Proofs.YtdfclocfackkmaaGreat
open Go
def aff(ks:List Nat)(d i:Nat):Prop:=∃ k∈ks,k/2^d=i
theorem aGR{ks:List Nat}{d i:Nat}(h:aff ks d i):aff ks (d+1) (i/2):=by obtain⟨k,hk,rfl⟩:=h;exact⟨k,hk,by rw [fE,gQ]⟩
theorem aJW{ks:List Nat}{d i:Nat}(h:aff ks d (2*i)):aff ks (d+1) i:=by have:=aGR h;rwa [show 2*i/2=i by omega] at this
theorem aLV{ks:List Nat}{d i:Nat}(h:aff ks d (2*i+1)):aff ks (d+1) i:=by have:=aGR h;rwa [show (2*i+1)/2=i by omega] at this
theorem aQm{ks:List Nat}{l w:LL}(hw:∀ i,i∉ks->w.getD i z32=l.getD i z32):∀ d i,¬ aff ks d i->atV w d i=atV l d i:=by
 intro d;induction d with
 | zero=>
  intro i h
  exact hw i fun hi=>h ⟨i,hi,by simp⟩
 | succ d ih=>
  intro i h
  unfold atV
  rw [ih (2*i) fun h2=>h (aJW h2),ih (2*i+1) fun h2=>h (aLV h2)]
abbrev Pl:=Nat×Nat
def plt(p q:Pl):Prop:=p.1<q.1\/(p.1=q.1/\p.2<q.2)
theorem aH5{p q:Pl}(h:¬ plt p q)(hn:p≠q):plt q p:=by
 unfold plt at *;rcases rY p.1 q.1 with h1|h1|h1
 ·omega
 ·rcases rY p.2 q.2 with h2|h2|h2
  ·omega
  ·exact absurd (Prod.ext h1 h2) hn
  omega
 omega
theorem aEN(p:Pl):¬ plt p p:=by unfold plt;omega
def upP(p:Pl):Pl:=(p.1+1,p.2/2)
theorem aKU(p:Pl):plt p (upP p):=by unfold plt upP;dsimp only;omega
def xY(cur:Nat->Nat->LB)(p:Pl)(x:LB):Nat->Nat->LB:=fun d i=>if d=p.1/\i=p.2 then x else cur d i
structure SI(ks:List Nat)(D:Nat)(w:LL)(Q:Pl->Prop)(last:Pl)(done:List Pl)(cur:Nat->Nat->LB):Prop where
 q:∀ p,Q p->1<=p.1/\aff ks p.1 p.2/\¬ plt p last
 nd:done.Nodup
 dn:∀ p∈done,(1<=p.1/\p.1<=D)/\aff ks p.1 p.2/\¬ plt last p
 all:∀ d i,1<=d->d<=D->aff ks d i->(d,i)∈done\/∃ p,Q p/\plt last p/\p.1<=d/\p.2/2^(d-p.1)=i
 leaf:∀ i,i<2^D->cur 0 i=atV w 0 i
 done_:∀ d i,(d,i)∈done->cur d i=atV w d i
 un:∀ d i,1<=d->d<=D->¬ aff ks d i->cur d i=atV w d i
section
variable {ks:List Nat}{D:Nat}{w:LL}{Q Q':Pl->Prop}{last p:Pl}{done:List Pl}{cur:Nat->Nat->LB}
theorem SI.skip(h:SI ks D w Q last done cur)(hp:p=last\/D<p.1)(h1:∀ q,Q' q->Q q)(h2:∀ q,Q q->q≠p->Q' q):SI ks D w Q' last done cur:=by
 refine⟨fun q hq=>h.q q (h1 q hq),h.nd,h.dn,fun d i hd hD ha=>?_,h.leaf,h.done_,h.un⟩;rcases h.all d i hd hD ha with h3|⟨q,hq,h4,h5,h6⟩
 ·exact .inl h3
 refine .inr ⟨q,h2 q hq (fun e=>?_),h4,h5,h6⟩;subst e;rcases hp with rfl|hp
 ·exact aEN _ h4
 omega
theorem SI.kids(h:SI ks D w Q last done cur)(hQ:Q p)(hmin:∀ q,Q q->¬ plt q p)(hn:p≠last)(hD:p.1<=D){c:Nat}(hc:c<2^(D-(p.1-1))):cur (p.1-1) c=atV w (p.1-1) c:=by
 obtain⟨h1,-,-⟩:=h.q p hQ;rcases fS (p.1-1) with h0|h0
 ·rw [h0] at hc |-;exact h.leaf c (by simpa using hc)
 by_cases ha:aff ks (p.1-1) c
 ·rcases h.all (p.1-1) c oQ oQ ha with h3|⟨q,hq,h4,h5,h6⟩
  ·exact h.done_ _ _ h3
  exact absurd (show plt q p by unfold plt;omega) (hmin q hq)
 exact h.un _ _ oQ oQ ha
theorem SI.proc(h:SI ks D w Q last done cur)(hQ:Q p)(hmin:∀ q,Q q->¬ plt q p)(hn:p≠last)(hD:p.1<=D)(hi:p.2<2^(D-p.1))(h1:∀ q,Q' q->Q q\/q=upP p)(h2:∀ q,Q q->q≠p->Q' q)(h3:Q' (upP p)):SI ks D w Q' p (done++[p]) (xY cur p (oE p.1 p.2 (cur (p.1-1) (2*p.2)) (cur (p.1-1) (2*p.2+1))))/\p∉done:=by
 obtain⟨g1,g2,g3⟩:=h.q p hQ;have hlp:plt last p:=aH5 g3 hn;have hnd:p∉done:=fun hm=>(h.dn p hm).2.2 hlp;have hpow:2^(D-(p.1-1))=2*2^(D-p.1):=by rw [show D-(p.1-1)=D-p.1+1 by omega,fE,lF]
 have k1:=h.kids hQ hmin hn hD (c:=2*p.2) oQ;have k2:=h.kids hQ hmin hn hD (c:=2*p.2+1) oQ;have hv:oE p.1 p.2 (cur (p.1-1) (2*p.2)) (cur (p.1-1) (2*p.2+1))=atV w p.1 p.2:=by rw [k1,k2];obtain⟨e,he⟩:∃ e,p.1=e+1:=⟨p.1-1,oQ⟩;rw [he];rfl
 rw [hv];refine⟨⟨fun q hq=>?_,?_,fun q hq=>?_,fun d i hd hdD ha=>?_,fun i hi=>?_,fun d i hm=>?_,fun d i hd hdD ha=>?_⟩,hnd⟩
 ·rcases h1 q hq with h4|rfl
  ·obtain⟨a1,a2,-⟩:=h.q q h4;exact⟨a1,a2,hmin q h4⟩
  refine⟨by unfold upP;dsimp only;omega,aGR g2,?_⟩;have:=aKU p;unfold plt upP at *;dsimp only at *;omega
 ·rw [fO];refine⟨h.nd,by simp,fun a ha b hb=>?_⟩;rw [bW] at hb;subst hb;exact fun e=>hnd (e▸ha)
 ·rcases bJ.1 hq with h4|h4
  ·obtain⟨a1,a2,a3⟩:=h.dn q h4;refine⟨a1,a2,?_⟩;unfold plt at *;omega
  rw [bW] at h4;subst h4;exact⟨⟨g1,hD⟩,g2,aEN _⟩
 ·rcases h.all d i hd hdD ha with h4|⟨q,hq,h5,h6,h7⟩
  ·exact .inl (aO _ h4)
  by_cases e:q=p
  ·subst e;by_cases e2:d=q.1
   ·subst e2;rw [dO,uA,Nat.div_one] at h7;subst h7;exact .inl (by simp)
   refine .inr ⟨upP q,h3,aKU q,by unfold upP;dsimp only;omega,?_⟩;unfold upP;dsimp only;rw [gQ,show 2*2^(d-(q.1+1))=2^(d-q.1) by rw [show d-q.1=d-(q.1+1)+1 by omega,fE,lF]];exact h7
  exact .inr ⟨q,h2 q hq e,aH5 (hmin q hq) e,h6,h7⟩
 ·unfold xY;rw [if_neg oQ];exact h.leaf i hi
 ·unfold xY;split
  ·rename_i hh;rw [hh.1,hh.2]
  rename_i hh;rcases bJ.1 hm with h4|h4
  ·exact h.done_ d i h4
  rw [bW] at h4;exact absurd ⟨by rw [<-h4],by rw [<-h4]⟩ hh
 unfold xY;split
 ·rename_i hh;rw [hh.1,hh.2]
 exact h.un d i hd hdD ha
theorem SI.fin(h:SI ks D w Q last done cur)(hQ:∀ p,¬ Q p):(∀ d i,d<=D->i<2^(D-d)->cur d i=atV w d i)/\∀ d i,(d,i)∈done↔(1<=d/\d<=D)/\aff ks d i:=by
 have key:∀ d i,1<=d->d<=D->aff ks d i->(d,i)∈done:=fun d i h1 h2 ha=>by
  rcases h.all d i h1 h2 ha with h3|⟨q,hq,-⟩
  ·exact h3
  exact absurd hq (hQ q)
 refine⟨fun d i hd hi=>?_,fun d i=>⟨fun hm=>?_,fun hm=>key d i hm.1.1 hm.1.2 hm.2⟩⟩
 ·rcases fS d with h0|h0
  ·subst h0;exact h.leaf i (by simpa using hi)
  by_cases ha:aff ks d i
  ·exact h.done_ d i (key d i h0 hd ha)
  exact h.un d i h0 hd ha
 obtain⟨a1,a2,-⟩:=h.dn (d,i) hm;exact⟨a1,a2⟩
end
theorem SI.start{ks:List Nat}{D:Nat}{l w:LL}(hw:∀ i,i∉ks->w.getD i z32=l.getD i z32){cur:Nat->Nat->LB}(h0:∀ i,i<2^D->cur 0 i=atV w 0 i)(h1:∀ d i,1<=d->d<=D->cur d i=atV l d i){Q:Pl->Prop}(hQ:∀ p,Q p↔∃ k∈ks,p=(1,k/2)):SI ks D w Q (0,0) [] cur:=by
 refine⟨fun p hp=>?_,nW,by simp,fun d i hd hD ha=>?_,h0,by simp,fun d i hd hD ha=>by rw [h1 d i hd hD,aQm hw d i ha]⟩
 ·obtain⟨k,hk,rfl⟩:=(hQ p).1 hp;exact⟨Nat.le_refl _,⟨k,hk,by simp⟩,by unfold plt;dsimp only;omega⟩
 obtain⟨k,hk,rfl⟩:=ha;refine .inr ⟨(1,k/2),(hQ _).2 ⟨k,hk,rfl⟩,by unfold plt;dsimp only;omega,hd,?_⟩;dsimp only;rw [gQ,show 2*2^(d-1)=2^d by rw [show 2^d=2^(d-1+1) by rw [show d-1+1=d by omega],fE,lF]]
def vL(s:List Nat)(x:Nat):List Nat:=if x∈s then s else s++[x]
def aDX(xs:List Nat):List Nat:=xs.foldl vL []
theorem aLk{s:List Nat}(h:s.Nodup)(x:Nat):(vL s x).Nodup:=by
 unfold vL;split
 ·exact h
 rename_i hx;rw [fO];exact⟨h,by simp,fun a ha b hb=>by rw [bW] at hb;subst hb;exact fun e=>hx (e▸ha)⟩
theorem aJw{s:List Nat}{x y:Nat}:y∈vL s x↔y∈s\/y=x:=by
 unfold vL;split
 ·rename_i hx;exact⟨.inl,fun h=>h.elim id fun e=>e▸hx⟩
 simp
theorem aDY(xs:List Nat):∀ s:List Nat,s.Nodup->(xs.foldl vL s).Nodup/\∀ y,y∈xs.foldl vL s↔y∈s\/y∈xs:=by
 induction xs with
 | nil=>intro s h;exact⟨h,by simp⟩
 | cons x xs ih=>
  intro s h
  obtain⟨h1,h2⟩:=ih (vL s x) (aLk h x)
  refine⟨h1,fun y=>?_⟩
  rw [fC,h2,aJw,cD,or_assoc]
theorem aLj(xs:List Nat):(aDX xs).Nodup:=(aDY xs [] nW).1
theorem aDZ(xs:List Nat)(y:Nat):y∈aDX xs↔y∈xs:=by have:=(aDY xs [] nW).2 y;simpa [aDX] using this
def aEY(ks:List Nat)(d:Nat):List Nat:=aDX (ks.map fun k=>k/2^d)
def rK(ks:List Nat):Nat->Nat
 | 0=>0
 | D+1=>rK ks D+(aEY ks (D+1)).length
def aFw(ks:List Nat):Nat->List Pl
 | 0=>[]
 | D+1=>aFw ks D++(aEY ks (D+1)).map fun i=>(D+1,i)
theorem aFx(ks:List Nat)(D:Nat):(aFw ks D).length=rK ks D:=by
 induction D with
 | zero=>rfl
 | succ D ih=>simp [aFw,rK,ih]
theorem aCg(ks:List Nat)(D:Nat)(p:Pl):p∈aFw ks D↔(1<=p.1/\p.1<=D)/\aff ks p.1 p.2:=by
 induction D with
 | zero=>simp [aFw];omega
 | succ D ih=>
  unfold aFw
  rw [bJ,ih]
  constructor
  ·rintro (⟨h1,h2⟩|h)
   ·exact⟨oQ,h2⟩
   ·obtain⟨i,hi,rfl⟩:=bM.1 h
    obtain⟨k,hk,rfl⟩:=bM.1 ((aDZ _ _).1 hi)
    exact⟨by dsimp only;omega,k,hk,rfl⟩
  ·rintro⟨h1,h2⟩
   by_cases e:p.1=D+1
   ·right
    obtain⟨k,hk,hke⟩:=h2
    refine bM.2 ⟨p.2,(aDZ _ _).2 (bM.2 ⟨k,hk,by rw [<-e];exact hke⟩),?_⟩
    rw [<-e]
   ·exact .inl ⟨oQ,h2⟩
theorem aLW(ks:List Nat)(D:Nat):(aFw ks D).Nodup:=by
 induction D with
 | zero=>exact nW
 | succ D ih=>
  unfold aFw
  rw [fO]
  refine⟨ih,?_,fun a ha b hb=>?_⟩
  ·have:=aLj (ks.map fun k=>k/2^(D+1))
   unfold aEY
   rw [List.nodup_iff_pairwise_ne] at this |-
   rw [List.pairwise_map]
   exact this.imp fun h e=>h (by simpa using e)
  ·obtain⟨i,-,rfl⟩:=bM.1 hb
   have:=(aCg ks D a).1 ha
   intro e
   rw [e] at this
   dsimp only at this
   omega
theorem aF9{J:Type} [BEq J] [LawfulBEq J]:∀ {l m:List J},l.Nodup->(∀ x∈l,x∈m)->l.length<=m.length:=by
 intro l;induction l with
 | nil=>intro m _ _;simp
 | cons a t ih=>
  intro m hn hs
  rw [kE] at hn
  have ha:=hs a (gZ ..)
  have:=ih (m:=m.erase a) hn.2 fun x hx=>by
   refine (List.mem_erase_of_ne ?_).2 (hs x (cV _ hx))
   rintro rfl
   exact hn.1 hx
  rw [List.length_erase_of_mem ha] at this
  have:=nV ha
  rw [aW]
  omega
theorem SI.le{ks:List Nat}{D:Nat}{w:LL}{Q:Pl->Prop}{last:Pl}{done:List Pl}{cur:Nat->Nat->LB}(h:SI ks D w Q last done cur):done.length<=rK ks D:=by rw [<-aFx];exact aF9 h.nd fun p hp=>(aCg ks D p).2 ⟨(h.dn p hp).1,(h.dn p hp).2.1⟩
theorem SI.count{ks:List Nat}{D:Nat}{w:LL}{Q:Pl->Prop}{last:Pl}{done:List Pl}{cur:Nat->Nat->LB}(h:SI ks D w Q last done cur)(hQ:∀ p,¬ Q p):done.length=rK ks D:=by refine Nat.le_antisymm h.le ?_;rw [<-aFx];exact aF9 (aLW ks D) fun p hp=>((h.fin hQ).2 p.1 p.2).2 ((aCg ks D p).1 hp)
end Go.Proofs.YtdfclocfackkmaaGreat
