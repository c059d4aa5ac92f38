/- A store that is opened: the program's. -/
import Derived.Test.YtnhnpjokpelkbaaGreatPp33
import Derived.Test.YtnhnpjokpelkbaaGreatPp30
set_option linter.unusedVariables false
set_option linter.unusedSimpArgs false
set_option linter.unusedSectionVars false
set_option maxHeartbeats 1000000
namespace Go.Proofs.YtnhnpjokpelkbaaGreat
open Go Go.Proofs.Tryz
section
attribute [local irreducible] SW SL SQ SH SA SS Pu Fin bT aQ
theorem aJn{J:Nat→Hp→Prop}{E:Int→Hp→Prop}{v:Value}{Hs:Hp}(fs:List Value)(hS:Sl 51 1 v fs Hs)(hn:fs.length≤1000)(hfs:∀ i v,fs[i]?=some v→tK prog v (J i) (J (i+1)) E){H0:Hp}(h0:J 0 H0) :
  Tri prog 181 [v] (Hs++H0) (fun _=>True)
  (fun r H=>∃ H',H=Hs++H'∧((r=.int .i64 0∧J fs.length H')∨∃ e:Int,e≠0∧r=.int .i64 e∧E e H')):=by
 have hv1:=hS.isOne
 rcases hS with ⟨rfl,rfl,rfl⟩|⟨sb,len,cap,junk,rfl,hxl,hj,hlc,rfl⟩
 ·refine Tri.mk func181 rfl ntmps181 rfl fun w hw=>?_
  refine W.k ?_
  refine bF [6,7] (fun k:Nat=>[(8,.int .i64 (k:Int))]) (fun _=>[]) (fun k=>0-k) (fun k=>k=0) 0 rfl ?_
  rintro k rfl
  refine W.k ?_
  refine Fin.to ([]++H0) ?_
  exact F.f1 ⟨H0,rfl,.inl ⟨rfl,h0⟩⟩
 obtain rfl:len=fs.length:=by omega
 refine Tri.mk func181 rfl ntmps181 rfl fun w hw=>?_
 refine W.k ?_
 refine bF [6,7] (fun x:Nat×Hp=>[(8,.int .i64 (x.1:Int))]) (fun x=>(sb,cl (fs++junk) 51)::x.2) (fun x=>fs.length-x.1) (fun x=>x.1≤fs.length∧J x.1 x.2) (0,H0) ⟨Nat.zero_le _,h0⟩ ?_
 rintro⟨k,Hk⟩ ⟨hk,hJ⟩
 dsimp only at hk hJ ⊢
 by_cases h:k<fs.length
 ·have hv:=aA h
  obtain⟨f,us,cs,hfv,iF,hT⟩:=hfs k _ hv
  have hv2:(fs++junk)[k]?=some fs[k]:=by rw [aL h];exact hv
  rw [hfv] at hv2
  clear hfv hv
  have hT2:=hT Hk hJ
  refine W.k ?_
  refine dV Hk rfl rfl rfl rfl rfl rfl hT2 (fun _ _=>trivial) ?_
  rintro _ H2 (⟨rfl,hJ2⟩|⟨e,he,rfl,hE⟩)
  ·refine W.k ?_
   refine aQ.mk (k+1,H2) ?_
   exact⟨h,hJ2⟩
  ·refine W.k ?_
   refine Fin.to ([(sb,cl (fs++junk) 51)]++H2) ?_
   exact F.f1 ⟨H2,rfl,.inr ⟨e,he,rfl,hE⟩⟩
 ·have:k=fs.length:=oQ
  subst this
  refine W.k ?_
  refine Fin.to ([(sb,cl (fs++junk) 51)]++Hk) ?_
  exact F.f1 ⟨Hk,rfl,.inl ⟨rfl,hJ⟩⟩
theorem aFd(es:List UInt64)(h1:1≤es.length)(hn:es.length≤1000000)(v:Value):Tri prog 54 [v] [] (fun w=>Rd [] w 1 v (uv es)) (fun o H=>Sl 33 1 o (uv es) H):=by
 refine Tri.mk func54 rfl ntmps54 rfl fun w hw=>?_
 have hw2:=hw
 obtain⟨a,la,ca,rfl,hl1,hc1,hr1⟩:=hw.get
 rw [Nat.mul_one,eR] at hl1
 subst hl1
 obtain⟨b,o,l,T,fz,rfl,-⟩:=hr1 oQ
 refine W.k fun b_=>?_
 refine W.ap (ys:=uv es) (mm:=es.length) (Sl.own 33 1 b_ (len:=0) (xs:=[]) rfl) (fun w2 hs=>hw2.srcAt hs) (fun v1 H1 hv1=>?_) (hys:=by rw [eR,Nat.mul_one]) (hbytes:=by rw [eR];simp;omega)
 have h11:=hv1.isOne
 rw [List.nil_append] at hv1
 refine W.k ?_
 refine Fin.to H1 ?_
 exact F.f1 hv1
theorem aHT{d tr s bk p t:Nat}(h:Gm.Ok p t){σ:Dv}{Hd Ht:Hp}(hD:fD d σ Hd)(hlen:σ.len=256*Gm.total p t)(es:List UInt64)(hes:es.length=Gm.sealed p)(ev:Value){l:List (List UInt8)}{tp:Nat}(hT:rR tp bk l Ht)(hl:l.length=Gm.leaves p)(h32:D32 l)(wr:Bool) :
  Tri prog 12 [yD d tr s bk p t,ev,ptv tp,.bool wr] (Hd++Ht) (fun w=>Rd ((Hd++Ht).map Prod.fst) w 1 ev (uv es))
  (fun v H=>∃ sp Hn,v=.tuple #[ptv sp,.int .i64 0]∧qS sp d tr s bk p t ⟨es,l,wr,0⟩ Hn∧H=Hn++(Hd++Ht)):=by
 refine Tri.mk func12 rfl ntmps12 rfl fun w hw=>?_
 have hw2:=hw
 obtain⟨a,la,ca,rfl,hl1,hc1,-⟩:=hw.get
 rw [Nat.mul_one,eR] at hl1
 subst hl1
 have hY:One (Value.slice a es.length ca):=⟨rfl⟩
 have hck:=qG h
 have hln:=aCm hD
 have htt:=aFs h
 have htl:=Gm.total_le2 h
 have hse:=uX h
 have hsl:=Gm.sealed_le h
 have hs1:1≤Gm.sealed p:=by unfold Gm.sealed;omega
 have hlv:=aDp h
 have hll:=Gm.leaves_le h
 have hlp:1≤Gm.leaves p:=by unfold Gm.leaves;omega
 have hby:=tP (k:=Gm.total p t) oQ
 have htn:=aOG hT
 have hcp:=aI1 hT h32 oQ oQ
 have hcu:=aFd es oQ oQ (.slice a es.length ca)
 rw [hlen] at hln
 rw [hl] at htn
 rw [← hes] at hse
 generalize Gm.total p t=m at *
 generalize Gm.leaves p=n at *
 refine W.k fun b_=>?_
 (refine SW.l [] [0,1] ?_;refine bA 2 ?_)
 refine W.cq hck ?_
 (refine SL.l [3,4,5,6,8,9] ?_;(first|refine dB 7 rfl ?_;(first|refine dB 10 rfl ?_;(first|refine dB 11 rfl ?_;refine SG.l [12,13,14,15] ?_|refine bA 11 ?_)|refine bA 10 ?_)|refine bA 7 ?_))
 refine aF hln ?_
 rintro _ Hd ⟨rfl,rfl⟩
 (refine bC [] ?_;(first|refine dB 10 rfl ?_;(first|refine dB 11 rfl ?_;refine SG.l [12,13,14,15] ?_|refine bA 11 ?_)|refine bA 10 ?_))
 refine W.cq htt ?_
 (refine bC [] ?_;(first|refine dB 11 rfl ?_;refine SG.l [12,13,14,15] ?_|refine bA 11 ?_))
 refine W.cq hby ?_
 (refine SL.l [12,13,14,15] ?_)
 refine W.k ?_
 (refine SW.l [] [0,1,2,3] ?_;refine bA 4 ?_)
 refine W.cq hse ?_
 (refine SL.l [5,6,7,9,10] ?_;(first|refine dB 8 rfl ?_;(first|refine dB 11 rfl ?_;refine SG.l [12,13,14,15] ?_|refine bA 11 ?_)|refine bA 8 ?_))
 refine aF htn ?_
 rintro _ Ht ⟨rfl,rfl⟩
 (refine bC [] ?_;(first|refine dB 11 rfl ?_;refine SG.l [12,13,14,15] ?_|refine bA 11 ?_))
 refine W.cq hlv ?_
 (refine SL.l [12,13,14,15] ?_)
 refine W.k ?_
 (refine SW.l [] [0,1,3,5] ?_;refine bA 2 ?_)
 refine aF hcu ?_ (hpre:=fun w2 hs=>hw2.ro (Hc:=[]) hs)
 intro v1 H1 h1
 have h11:=h1.isOne
 obtain⟨a1,l1,c1,rfl,-⟩:=h1.form
 (refine bC [] ?_;refine bA 4 ?_)
 refine aF hcp ?_
 rintro _ _ ⟨c,Hc,rfl,rfl,hTc⟩
 have hbf:bX (fun i=>[(0,6),(6,1),(7,1),(8,1),(9,1)][i]?) (List.replicate 4 (.pointer none)++[.int .i64 0,.int .i64 0]++[.slice none 0 0]++[.pointer none]++[.bool false]++[.int .i64 0]) [(0,yD d tr s bk p t),(1,.slice a1 l1 c1),(2,ptv c),(3,.bool wr)]=some [ptv d,ptv tr,ptv s,ptv bk,.int .i64 (p:Int),.int .i64 (t:Int),.slice a1 l1 c1,ptv c,.bool wr,.int .i64 0]:=rfl
 (refine SL.l [6] ?_;refine bA 7 ?_;refine W.i fun b_=>?_;refine SG.l [8,9,10] ?_)
 refine W.k ?_
 refine Fin.to (((b_,cl [ptv d,ptv tr,ptv s,ptv bk,.int .i64 (p:Int),.int .i64 (t:Int),.slice a1 l1 c1,ptv c,.bool wr,.int .i64 0] 98)::(H1++Hc))++(Hd++Ht)) ?_
 exact F.f2 ⟨b_,_,rfl,⟨_,c,H1,Hc,rfl,h1,hTc⟩,rfl⟩
def qU(p t:Nat)(w:Bool)(l:List (List UInt8)):TS:=(cQ p t l).t.and (if w=true then gG else fun σ=>(0,σ))
def iX(p t:Nat)(w:Bool)(σ:Dv)(r:Rg):Option So:=if (gV p t w (σ,r)).1=0 then some ⟨nB p (gI p t σ r).2,eX (gI p t σ r).2,w,0⟩ else none
def pD(p t:Nat)(w:Bool)(σ:Dv)(r:Rg)(β:Bk):Bk:=
 if w=true∧r.c=18446744073709551615 then β else if σ.down=true then β else tT p t r (σ.blks 0 (Gm.leaves p)) (σ.blks (Gm.leaves p) (1+t)) β
theorem aEb{p t:Nat}{σ:Dv}{r:Rg}(hok:σ.Ok)(hd:σ.down=false)(hl:σ.len=256*Gm.total p t):(gI p t σ r).2.length=Gm.leaves p∧∀ b∈(gI p t σ r).2,b.length=256:=by
 have htot:Gm.total p t=Gm.leaves p+(1+t):=rfl
 have h1:=wC (a:=0) (n:=Gm.leaves p) hok hd hl oQ
 have h2:=σ.blks_len 0 (Gm.leaves p)
 unfold gI
 generalize σ.blks 0 (Gm.leaves p)=l at *
 generalize σ.blks (Gm.leaves p) (1+t)=logs
 by_cases hf:lI p t r.root l=true
 ·rw [rU hf];exact⟨h2,h1⟩
 ·cases hlr:vV p t r logs with
  | none=>rw [qF hf hlr];exact⟨h2,h1⟩
  | some x=>
   rw [sS hf hlr]
   split
   ·exact⟨by rw [xO];exact h2,aBa (aFz hlr) h1⟩
   ·exact⟨h2,h1⟩
section
variable (d tr fp p t:Nat)(F0:List Value)(l:List (List UInt8))(σ:Dv)(r:Rg)(Hb:Hp)
abbrev opH(r':Rg)(Hd:Hp):Hp:=(fp,cl F0 297)::(tr,cl (trc d r') 201)::(Hd++Hb)
def opJ(i:Nat)(H:Hp):Prop:=∃ (σ':Dv) (r':Rg) (Hd':Hp),fD d σ' Hd'∧H.Perm (opH d tr fp F0 Hb r' Hd') ∧
 match i with
 | 0=>σ'=σ∧r'=r
 | 1=>iW l σ=(0,σ')∧r'=r
 | 2=>cQ p t l σ=(0,σ')∧r'=r
 | _=>qU p t true l (σ,r)=(0,(σ',r'))
def opE(w:Bool)(e:Int)(H:Hp):Prop:=∃ (σ':Dv) (r':Rg) (Hd':Hp),fD d σ' Hd'∧H.Perm (opH d tr fp F0 Hb r' Hd')∧qU p t w l (σ,r)=(e,(σ',r'))
end
section
variable {d tr s bk fp p t:Nat}{kind cnt:Int}{bv lv Lv ev tv:Value}{l:List (List UInt8)}{σ:Dv}{r:Rg}{Hb:Hp}
theorem op0(hB:Bls bv l Hb)(o1:One lv)(o2:One Lv)(o3:One ev)(o4:One tv)(w:Bool)(h8:σ.ws.length%8=0)(hn:l.length≤1000)(hb:∀ b∈l,b.length=256):tK prog (.func (.func 183) [ptv fp].toArray [].toArray) (opJ d tr fp p t (cA d tr s bk p t kind bv lv cnt Lv ev tv) l σ r Hb 0) (opJ d tr fp p t (cA d tr s bk p t kind bv lv cnt Lv ev tv) l σ r Hb 1) (opE d tr fp p t (cA d tr s bk p t kind bv lv cnt Lv ev tv) l σ r Hb w):=by
 refine⟨_,[ptv fp],[],rfl,inferInstance,fun Hc hJ=>?_⟩
 obtain⟨σ',r',Hd,hD,hp,rfl,rfl⟩:=hJ
 refine ((Tri.perm hp ((aHX (fp:=fp) (d:=d) (tr:=tr) (s:=s) (bk:=bk) (p:=p) (t:=t) (kind:=kind) (cnt:=cnt) hD h8 hB o1 o2 o3 o4 hn hb).frame (r:=[(tr,cl (trc d r') 201)]) fY (fun _ _ _=>trivial)))).mono ?_
 rintro v H ⟨H1,rfl,rfl,Hd',hD',rfl⟩
 by_cases h0:(iW l σ').1=0
 ·exact .inl ⟨by rw [h0],(iW l σ').2,r',Hd',hD',fY,aBq h0,rfl⟩
 ·have e1:(cQ p t l).t (σ',r')=((iW l σ').1,(iW l σ').2,r'):=by
   show (((iW l).and _ σ').1,((iW l).and _ σ').2,r')=_
   rw [DS.and_ne h0]
  refine .inr ⟨_,h0,rfl,(iW l σ').2,r',Hd',hD',fY,?_⟩
  unfold qU
  rw [TS.and_ne (by rw [e1];exact h0)]
  exact e1
theorem op1(h:Gm.Ok p t)(hB:Bls bv l Hb)(o1:One lv)(o2:One Lv)(o3:One ev)(o4:One tv)(w:Bool)(h8:σ.ws.length%8=0):tK prog (.func (.func 184) [ptv fp].toArray [].toArray) (opJ d tr fp p t (cA d tr s bk p t kind bv lv cnt Lv ev tv) l σ r Hb 1) (opJ d tr fp p t (cA d tr s bk p t kind bv lv cnt Lv ev tv) l σ r Hb 2) (opE d tr fp p t (cA d tr s bk p t kind bv lv cnt Lv ev tv) l σ r Hb w):=by
 refine⟨_,[ptv fp],[],rfl,inferInstance,fun Hc hJ=>?_⟩
 obtain⟨σ',r',Hd,hD,hp,hwd,rfl⟩:=hJ
 have hw2:=((jD (fR 0 l)).and yV) σ
 rw [show ((putL (fR 0 l)).and feS) σ=(0,σ') from hwd] at hw2
 dsimp only at hw2
 refine ((Tri.perm hp ((aFD (fp:=fp) (d:=d) (tr:=tr) (s:=s) (bk:=bk) (kind:=kind) (cnt:=cnt) h hD (by rw [hw2];exact h8) hB.one o1 o2 o3 o4).frame (r:=(tr,cl (trc d r') 201)::Hb) fY (fun _ _ _=>trivial)))).mono ?_
 rintro v H ⟨H1,rfl,rfl,Hd',hD',rfl⟩
 have e0:cQ p t l σ=gB (Gm.leaves p) (1+t) σ':=DS.and_eq hwd
 by_cases h0:(gB (Gm.leaves p) (1+t) σ').1=0
 ·exact .inl ⟨by rw [h0],(gB (Gm.leaves p) (1+t) σ').2,r',Hd',hD',fY,by rw [e0];exact aBq h0,rfl⟩
 ·have e1:(cQ p t l).t (σ,r')=((gB (Gm.leaves p) (1+t) σ').1,(gB (Gm.leaves p) (1+t) σ').2,r'):=by
   show ((cQ p t l σ).1,(cQ p t l σ).2,r')=_
   rw [e0]
  refine .inr ⟨_,h0,rfl,(gB (Gm.leaves p) (1+t) σ').2,r',Hd',hD',fY,?_⟩
  unfold qU
  rw [TS.and_ne (by rw [e1];exact h0)]
  exact e1
theorem op2(hB:Bls bv l Hb)(o1:One lv)(o2:One Lv)(o3:One ev)(o4:One tv)(hr:r.Ok)(hlt:r.c<18446744073709551615):tK prog (.func (.func 182) [ptv fp].toArray [].toArray) (opJ d tr fp p t (cA d tr s bk p t kind bv lv cnt Lv ev tv) l σ r Hb 2) (opJ d tr fp p t (cA d tr s bk p t kind bv lv cnt Lv ev tv) l σ r Hb 3) (opE d tr fp p t (cA d tr s bk p t kind bv lv cnt Lv ev tv) l σ r Hb true):=by
 refine⟨_,[ptv fp],[],rfl,inferInstance,fun Hc hJ=>?_⟩
 obtain⟨σ',r',Hd,hD,hp,hws,rfl⟩:=hJ
 refine ((Tri.perm hp ((aJr (fp:=fp) (tr:=tr) (s:=s) (bk:=bk) (p:=p) (t:=t) (kind:=kind) (cnt:=cnt) hD hr hlt hB.one o1 o2 o3 o4).frame (r:=Hb) fY (fun _ _ _=>trivial)))).mono ?_
 rintro v H ⟨H1,rfl,rfl,Hd',hD',rfl⟩
 have e1:(cQ p t l).t (σ,r')=(0,(σ',r')):=by
  show ((cQ p t l σ).1,(cQ p t l σ).2,r')=_
  rw [hws]
 have e2:qU p t true l (σ,r')=gG (σ',r'):=by
  unfold qU
  rw [TS.and_eq e1,if_pos rfl]
 by_cases h0:(gG (σ',r')).1=0
 ·exact .inl ⟨by rw [h0],(gG (σ',r')).2.1,(gG (σ',r')).2.2,Hd',hD',fY,by show qU p t true l (σ,r')=_;rw [e2];exact aBq h0⟩
 ·exact .inr ⟨_,h0,rfl,(gG (σ',r')).2.1,(gG (σ',r')).2.2,Hd',hD',fY,e2⟩
end
def aA2(fp:Nat)(w:Bool):List Value:=[.func (.func 183) #[ptv fp] #[],.func (.func 184) #[ptv fp] #[]]++if w=true then [.func (.func 182) #[ptv fp] #[]] else []
theorem aHy{d tr s bk fp p t:Nat}{kind cnt:Int}{bv lv Lv ev tv:Value}{l:List (List UInt8)}{σ:Dv}{r:Rg}{Hd Hb Hs:Hp}(h:Gm.Ok p t)(hD:fD d σ Hd)(hB:Bls bv l Hb)(o1:One lv)(o2:One Lv)(o3:One ev)(o4:One tv)(w:Bool)(h8:σ.ws.length%8=0)(hn:l.length≤1000)(hb:∀ b∈l,b.length=256)(hr:r.Ok)(hlt:w=true→r.c<18446744073709551615){v:Value}(hS:Sl 51 1 v (aA2 fp w) Hs) :
  Tri prog 181 [v] (Hs++opH d tr fp (cA d tr s bk p t kind bv lv cnt Lv ev tv) Hb r Hd) (fun _=>True)
  (fun v H=>∃ e σ' r' Hd',qU p t w l (σ,r)=(e,(σ',r'))∧v=.int .i64 e∧fD d σ' Hd'∧H=Hs++opH d tr fp (cA d tr s bk p t kind bv lv cnt Lv ev tv) Hb r' Hd'):=by
 have hJ0:opJ d tr fp p t (cA d tr s bk p t kind bv lv cnt Lv ev tv) l σ r Hb 0 (opH d tr fp (cA d tr s bk p t kind bv lv cnt Lv ev tv) Hb r Hd):=⟨σ,r,Hd,hD,List.Perm.refl _,rfl,rfl⟩
 cases w with
 | false=>
  have hfs:∀ i v,(aA2 fp false)[i]?=some v→tK prog v (opJ d tr fp p t (cA d tr s bk p t kind bv lv cnt Lv ev tv) l σ r Hb i) (opJ d tr fp p t (cA d tr s bk p t kind bv lv cnt Lv ev tv) l σ r Hb (i+1)) (opE d tr fp p t (cA d tr s bk p t kind bv lv cnt Lv ev tv) l σ r Hb false):=fun i v hv=>by
   have hi:=(aE.1 hv).1
   have hi5:i<2:=hi
   rcases (by omega:i=0∨i=1) with rfl|rfl
   ·cases hv;exact op0 hB o1 o2 o3 o4 false h8 hn hb
   ·cases hv;exact op1 h hB o1 o2 o3 o4 false h8
  refine (aJn (aA2 fp false) hS (by show 2≤1000;decide) hfs hJ0).to ?_
  rintro v H ⟨H',rfl,⟨rfl,σ',r',Hd',hD',hp,hws,rfl⟩|⟨e,he,rfl,σ',r',Hd',hD',hp,hF⟩⟩
  ·refine⟨_,[],by rw [aH];exact hp.append_left Hs,0,σ',r',Hd',?_,rfl,hD',rfl⟩
   unfold qU
   rw [TS.and_eq (y:=(σ',r')) (by show ((cQ p t l σ).1,(cQ p t l σ).2,r')=_;rw [hws]),if_neg dQ]
  ·exact⟨_,[],by rw [aH];exact hp.append_left Hs,e,σ',r',Hd',hF,rfl,hD',rfl⟩
 | true=>
  have hfs:∀ i v,(aA2 fp true)[i]?=some v→tK prog v (opJ d tr fp p t (cA d tr s bk p t kind bv lv cnt Lv ev tv) l σ r Hb i) (opJ d tr fp p t (cA d tr s bk p t kind bv lv cnt Lv ev tv) l σ r Hb (i+1)) (opE d tr fp p t (cA d tr s bk p t kind bv lv cnt Lv ev tv) l σ r Hb true):=fun i v hv=>by
   have hi:=(aE.1 hv).1
   have hi5:i<3:=hi
   rcases (by omega:i=0∨i=1∨i=2) with rfl|rfl|rfl
   ·cases hv;exact op0 hB o1 o2 o3 o4 true h8 hn hb
   ·cases hv;exact op1 h hB o1 o2 o3 o4 true h8
   ·cases hv;exact op2 hB o1 o2 o3 o4 hr (hlt rfl)
  refine (aJn (aA2 fp true) hS (by show 3≤1000;decide) hfs hJ0).to ?_
  rintro v H ⟨H',rfl,⟨rfl,σ',r',Hd',hD',hp,hF⟩|⟨e,he,rfl,σ',r',Hd',hD',hp,hF⟩⟩
  ·exact⟨_,[],by rw [aH];exact hp.append_left Hs,0,σ',r',Hd',hF,rfl,hD',rfl⟩
  ·exact⟨_,[],by rw [aH];exact hp.append_left Hs,e,σ',r',Hd',hF,rfl,hD',rfl⟩
theorem aGH(p t:Nat)(w:Bool)(l:List (List UInt8))(x:Dv×Rg):(qU p t w l x).2.1.ws.length=x.1.ws.length:=by
 have h1:(cQ p t l x.1).2.ws.length=x.1.ws.length:=(((jD (fR 0 l)).and yV).and (aBf _ _)) x.1
 unfold qU TS.and
 split
 ·split
  ·rw [zW];exact h1
  ·exact h1
 ·exact h1
theorem rJ{p t:Nat}{w:Bool}{σ:Dv}{r:Rg}(h1:¬ (w=true∧r.c=18446744073709551615))(h2:σ.down=false)(h3:(gI p t σ r).1≠3):gV p t w (σ,r)=qU p t w (gI p t σ r).2 (σ,r):=by
 unfold gV
 rw [if_neg h1,if_neg (by show ¬ σ.down=true;rw [h2];decide),if_neg h3]
 rfl
theorem aM2{d tr s bk tb p t:Nat}(h:Gm.Ok p t){σ:Dv}{r:Rg}{β:Bk}{Hd Hk:Hp}(hD:fD d σ Hd)(hlen:σ.len=256*Gm.total p t)(hr:r.Ok)(hK:eV bk tb β Hk)(wr:Bool) :
  Tri prog 129 [yD d tr s bk p t,.bool wr] ((tr,cl (trc d r) 201)::(Hd++Hk)) (fun _=>True)
  (fun v H=>∃ sv Hd' Hk' HS Hx,v=.tuple #[sv,.int .i64 (gV p t wr (σ,r)).1]∧fD d (gV p t wr (σ,r)).2.1 Hd'∧eV bk tb (pD p t wr σ r β) Hk'∧StO sv d tr s bk p t (iX p t wr σ r) HS ∧
   H=(tr,cl (trc d (gV p t wr (σ,r)).2.2) 201)::(Hd'++(Hk'++(HS++Hx)))):=by
 refine Tri.mk func129 rfl ntmps129 rfl fun w hw=>?_
 have hmy:=aGF (tr:=tr) (s:=s) (bk:=bk) h hD hlen
 have hla:=aJU tr d r hr
 by_cases hE:wr=true∧r.c=18446744073709551615
 ·obtain⟨rfl,hc⟩:=hE
  have e1:gV p t true (σ,r)=(21,(σ,r)):=by unfold gV;rw [if_pos ⟨rfl,hc⟩]
  have e2:pD p t true σ r β=β:=by unfold pD;rw [if_pos ⟨rfl,hc⟩]
  have e3:iX p t true σ r=none:=by unfold iX;rw [e1,if_neg (by show ¬ (21:Int)=0;decide)]
  rw [decide_eq_true hc] at hla
  rw [e1,e2,e3]
  refine W.k fun b_=>?_
  refine aF hmy ?_
  rintro _ Hd ⟨rfl,rfl⟩
  refine W.k ?_
  refine W.cw hla ?_
  refine Fin.to ((tr,cl (trc d r) 201)::(Hd++(Hk++([]++[])))) ?_
  exact F.f2 ⟨_,Hd,Hk,[],[],rfl,hD,hK,⟨rfl,rfl⟩,rfl⟩
 have hlk:=aNG (dt:=d) (tr:=tr) (s:=s) h hD hlen hr hK
 cases wr with
 | false=>
  refine W.k fun b_=>?_
  refine aF hmy ?_
  rintro _ Hd ⟨rfl,rfl⟩
  refine W.k ?_
  refine aF hlk ?_
  rintro _ _ (⟨hdn,rfl,rfl⟩|⟨hdn,fp,Hk2,Hf,rfl,hFo,hK2,rfl⟩)
  ·have e1:gV p t false (σ,r)=(8,(σ,r)):=by unfold gV;rw [if_neg hE,if_pos hdn]
   have e2:pD p t false σ r β=β:=by unfold pD;rw [if_neg hE,if_pos hdn]
   have e3:iX p t false σ r=none:=by unfold iX;rw [e1,if_neg (by show ¬ (8:Int)=0;decide)]
   rw [e1,e2,e3]
   refine W.k ?_
   refine Fin.to ((tr,cl (trc d r) 201)::(Hd++(Hk++([]++[])))) ?_
   exact F.f2 ⟨_,Hd,Hk,[],[],rfl,hD,hK,⟨rfl,rfl⟩,rfl⟩
  have hlo:=aEb (r:=r) hD.1 hdn hlen
  have e2:pD p t false σ r β=tT p t r (σ.blks 0 (Gm.leaves p)) (σ.blks (Gm.leaves p) (1+t)) β:=by unfold pD;rw [if_neg hE,if_neg (by rw [hdn];decide)]
  rw [e2]
  clear e2
  generalize tT p t r (σ.blks 0 (Gm.leaves p)) (σ.blks (Gm.leaves p) (1+t)) β=β2 at *
  by_cases h3:(gI p t σ r).1=3
  ·have e1:gV p t false (σ,r)=(20,(σ,r)):=by unfold gV;rw [if_neg hE,if_neg (by show ¬ σ.down=true;rw [hdn];decide),if_pos h3]
   have e3:iX p t false σ r=none:=by unfold iX;rw [e1,if_neg (by show ¬ (20:Int)=0;decide)]
   rw [h3] at hFo
   obtain⟨bv,lv,cnt,Lv,ev,tv,Hx,⟨o0,o1,o2,o3,o4⟩,rfl,-⟩:=hFo
   rw [e1,e3]
   refine W.k ?_
   refine Fin.to ((tr,cl (trc d r) 201)::(Hd++(Hk2++([]++[])))) ?_
   exact F.f2 ⟨_,Hd,Hk2,[],[],rfl,hD,hK2,⟨rfl,rfl⟩,rfl⟩
  obtain⟨bv,lv,cnt,Lv,ev,tv,Hx,⟨o0,o1,o2,o3,o4⟩,rfl,hk3⟩:=hFo
  obtain⟨tp,be,Hb,Ht,Hz,hB,rfl,rfl,hT,rfl⟩:=hk3 h3
  have e1:=rJ hE hdn h3
  have e3:iX p t false σ r=if (qU p t false (gI p t σ r).2 (σ,r)).1=0 then some ⟨nB p (gI p t σ r).2,eX (gI p t σ r).2,false,0⟩ else none:=by unfold iX;rw [e1]
  rw [e1,e3]
  clear e1 e3 hk3 hlk
  have hkn:¬ (((gI p t σ r).1:Nat):Int)=3:=oQ
  generalize (gI p t σ r).2=l at *
  generalize (gI p t σ r).1=k at *
  have h8:σ.ws.length%8=0:=by unfold Dv.len at hlen;omega
  have hll:=Gm.leaves_le h
  have hwl:=aGH p t false l (σ,r)
  have hbs:bX (fun i=>some (i*1,1)) (zs [.nilFunc] 2) [(0,.func (.func 183) #[ptv fp] #[]),(1,.func (.func 184) #[ptv fp] #[])]=some (aA2 fp false):=rfl
  refine W.k fun b_=>?_
  have hSs:Sl 51 1 (.slice (some ⟨b_,0,none⟩) 2 2) (aA2 fp false) [(b_,cl (aA2 fp false) 51)]:=Sl.own _ 1 b_ (len:=2) rfl
  refine aF (aHy (d:=d) (tr:=tr) (s:=s) (bk:=bk) (fp:=fp) (kind:=(k:Int)) (cnt:=cnt) (r:=r) h hD hB o1 o2 o3 o4 false h8 oQ hlo.2 hr (fun hh=>by cases hh) hSs) ?_
  rintro _ _ ⟨e,σ2,r2,Hd2,hF,rfl,hD2,rfl⟩
  rw [hF] at hwl ⊢
  dsimp only at hwl ⊢
  by_cases he:e=0
  ·subst he
   rw [if_pos rfl]
   have hst:=aHT (tr:=tr) (s:=s) (bk:=bk) h hD2 (by unfold Dv.len at *;rw [hwl];exact hlen) (nB p l) (rT ..) (.slice (some ⟨be,0,none⟩) (Gm.sealed p) (Gm.sealed p)) hT (by rw [jL];exact hlo.1) (nP _) false
   refine W.k ?_
   (refine SW.l [] [0,1,2,3,4,5,6,7,8,9] ?_;refine bA 10 ?_)
   refine aF hst ?_ (hpre:=fun w2 hs=>Rd.own (Hc:=Hd2++Ht) (Sl.own 33 1 be (len:=Gm.sealed p) (xs:=uv (nB p l)) (by rw [eR,rT,Nat.mul_one])) hs inferInstance)
   rintro _ _ ⟨sp,Hn,rfl,hSt,rfl⟩
   (refine SL.l [11,12,13,14,15] ?_)
   refine W.k ?_
   refine Fin.to ((tr,cl (trc d r2) 201)::(Hd2++(Hk2++(Hn++[])))) ?_
   exact F.f2 ⟨_,Hd2,Hk2,Hn,[],rfl,hD2,hK2,⟨sp,rfl,hSt⟩,rfl⟩
  ·rw [if_neg he]
   refine W.k ?_
   refine Fin.to ((tr,cl (trc d r2) 201)::(Hd2++(Hk2++([]++[])))) ?_
   exact F.f2 ⟨_,Hd2,Hk2,[],[],rfl,hD2,hK2,⟨rfl,rfl⟩,rfl⟩
 | true=>
  have hcn:¬ r.c=18446744073709551615:=fun hc=>hE ⟨rfl,hc⟩
  have hlt:r.c<18446744073709551615:=by have:=hr.c1;omega
  rw [decide_eq_false hcn] at hla
  refine W.k fun b_=>?_
  refine aF hmy ?_
  rintro _ Hd ⟨rfl,rfl⟩
  refine W.k ?_
  refine W.cw hla ?_
  refine aF hlk ?_
  rintro _ _ (⟨hdn,rfl,rfl⟩|⟨hdn,fp,Hk2,Hf,rfl,hFo,hK2,rfl⟩)
  ·have e1:gV p t true (σ,r)=(8,(σ,r)):=by unfold gV;rw [if_neg hE,if_pos hdn]
   have e2:pD p t true σ r β=β:=by unfold pD;rw [if_neg hE,if_pos hdn]
   have e3:iX p t true σ r=none:=by unfold iX;rw [e1,if_neg (by show ¬ (8:Int)=0;decide)]
   rw [e1,e2,e3]
   refine W.k ?_
   refine Fin.to ((tr,cl (trc d r) 201)::(Hd++(Hk++([]++[])))) ?_
   exact F.f2 ⟨_,Hd,Hk,[],[],rfl,hD,hK,⟨rfl,rfl⟩,rfl⟩
  have hlo:=aEb (r:=r) hD.1 hdn hlen
  have e2:pD p t true σ r β=tT p t r (σ.blks 0 (Gm.leaves p)) (σ.blks (Gm.leaves p) (1+t)) β:=by unfold pD;rw [if_neg hE,if_neg (by rw [hdn];decide)]
  rw [e2]
  clear e2
  generalize tT p t r (σ.blks 0 (Gm.leaves p)) (σ.blks (Gm.leaves p) (1+t)) β=β2 at *
  by_cases h3:(gI p t σ r).1=3
  ·have e1:gV p t true (σ,r)=(20,(σ,r)):=by unfold gV;rw [if_neg hE,if_neg (by show ¬ σ.down=true;rw [hdn];decide),if_pos h3]
   have e3:iX p t true σ r=none:=by unfold iX;rw [e1,if_neg (by show ¬ (20:Int)=0;decide)]
   rw [h3] at hFo
   obtain⟨bv,lv,cnt,Lv,ev,tv,Hx,⟨o0,o1,o2,o3,o4⟩,rfl,-⟩:=hFo
   rw [e1,e3]
   refine W.k ?_
   refine Fin.to ((tr,cl (trc d r) 201)::(Hd++(Hk2++([]++[])))) ?_
   exact F.f2 ⟨_,Hd,Hk2,[],[],rfl,hD,hK2,⟨rfl,rfl⟩,rfl⟩
  obtain⟨bv,lv,cnt,Lv,ev,tv,Hx,⟨o0,o1,o2,o3,o4⟩,rfl,hk3⟩:=hFo
  obtain⟨tp,be,Hb,Ht,Hz,hB,rfl,rfl,hT,rfl⟩:=hk3 h3
  have e1:=rJ hE hdn h3
  have e3:iX p t true σ r=if (qU p t true (gI p t σ r).2 (σ,r)).1=0 then some ⟨nB p (gI p t σ r).2,eX (gI p t σ r).2,true,0⟩ else none:=by unfold iX;rw [e1]
  rw [e1,e3]
  clear e1 e3 hk3 hlk
  have hkn:¬ (((gI p t σ r).1:Nat):Int)=3:=oQ
  generalize (gI p t σ r).2=l at *
  generalize (gI p t σ r).1=k at *
  have h8:σ.ws.length%8=0:=by unfold Dv.len at hlen;omega
  have hll:=Gm.leaves_le h
  have hwl:=aGH p t true l (σ,r)
  have hbs:bX (fun i=>some (i*1,1)) (zs [.nilFunc] 2) [(0,.func (.func 183) #[ptv fp] #[]),(1,.func (.func 184) #[ptv fp] #[])]=some (aA2 fp false):=rfl
  have hbs2:bX (fun i=>some (i*1,1)) (zs [.nilFunc] 1) [(0,.func (.func 182) #[ptv fp] #[])]=some [.func (.func 182) #[ptv fp] #[]]:=rfl
  refine W.k fun _ b_=>?_
  rename_i b9
  refine W.ap (Sl.own 51 1 b9 (len:=2) (xs:=aA2 fp false) rfl) (ys:=[.func (.func 182) #[ptv fp] #[]]) (mm:=1) (fun w2 hs=>(Sl.own 51 1 b_ (xs:=[.func (.func 182) #[ptv fp] #[]]) rfl).srcAt hs inferInstance) (fun v3 H3 h33=>?_) (hys:=rfl) (hbytes:=by simp [aA2])
  have h31:=h33.isOne
  rw [show aA2 fp false++[.func (.func 182) #[ptv fp] #[]]=aA2 fp true from rfl] at h33
  refine W.k ?_
  refine aF (aHy (d:=d) (tr:=tr) (s:=s) (bk:=bk) (fp:=fp) (kind:=(k:Int)) (cnt:=cnt) (r:=r) h hD hB o1 o2 o3 o4 true h8 oQ hlo.2 hr (fun _=>hlt) h33) ?_
  rintro _ _ ⟨e,σ2,r2,Hd2,hF,rfl,hD2,rfl⟩
  rw [hF] at hwl ⊢
  dsimp only at hwl ⊢
  by_cases he:e=0
  ·subst he
   rw [if_pos rfl]
   have hst:=aHT (tr:=tr) (s:=s) (bk:=bk) h hD2 (by unfold Dv.len at *;rw [hwl];exact hlen) (nB p l) (rT ..) (.slice (some ⟨be,0,none⟩) (Gm.sealed p) (Gm.sealed p)) hT (by rw [jL];exact hlo.1) (nP _) true
   refine W.k ?_
   (refine SW.l [] [0,1,2,3,4,5,6,7,8,9] ?_;refine bA 10 ?_)
   refine aF hst ?_ (hpre:=fun w2 hs=>Rd.own (Hc:=Hd2++Ht) (Sl.own 33 1 be (len:=Gm.sealed p) (xs:=uv (nB p l)) (by rw [eR,rT,Nat.mul_one])) hs inferInstance)
   rintro _ _ ⟨sp,Hn,rfl,hSt,rfl⟩
   (refine SL.l [11,12,13,14,15] ?_)
   refine W.k ?_
   refine Fin.to ((tr,cl (trc d r2) 201)::(Hd2++(Hk2++(Hn++[])))) ?_
   exact F.f2 ⟨_,Hd2,Hk2,Hn,[],rfl,hD2,hK2,⟨sp,rfl,hSt⟩,rfl⟩
  ·rw [if_neg he]
   refine W.k ?_
   refine Fin.to ((tr,cl (trc d r2) 201)::(Hd2++(Hk2++([]++[])))) ?_
   exact F.f2 ⟨_,Hd2,Hk2,[],[],rfl,hD2,hK2,⟨rfl,rfl⟩,rfl⟩
end
end Go.Proofs.YtnhnpjokpelkbaaGreat
