/- A store that is opened: the program's. -/
import Derived.Test.YtdfclocfackkmaaGreatPm33
import Derived.Test.YtdfclocfackkmaaGreatPm30
set_option linter.unusedVariables false
set_option linter.unusedSimpArgs false
set_option linter.unusedSectionVars false
set_option maxHeartbeats 1000000
namespace Go.Proofs.YtdfclocfackkmaaGreat
open Go Go.Proofs.Tryz
section
attribute [local irreducible] SW SL SQ SH SA SS Pu Fin bS aN
theorem aJX{J:Nat->Hp->Prop}{E:Int->Hp->Prop}{v:Value}{Hs:Hp}(fs:LV)(hS:Sl 140 1 v fs Hs)(hn:fs.length<=1000)(hfs:∀ i v,fs[i]?=some v->sX prog v (J i) (J (i+1)) E){H0:Hp}(h0:J 0 H0):Tri prog 75 [v] (Hs++H0) NT (fun r H=>∃ H',H=Hs++H'/\((r=.int .i64 0/\J fs.length H')\/∃ e:Int,e≠0/\r=.int .i64 e/\E e H')):=by
 have hv1:=hS.isOne;rcases hS with ⟨rfl,rfl,rfl⟩|⟨sb,len,cap,junk,rfl,hxl,hj,hlc,rfl⟩
 ·refine Tri.mt func75 ntmps75 fun w hw=>?_;refine W.k ?_;refine bE [6,7] (fun k:Nat=>[(8,.int .i64 (k:Int))]) (fun _=>[]) (fun k=>0-k) (fun k=>k=0) 0 rfl ?_;rintro k rfl;refine W.k ?_;refine Fin.to ([]++H0) ?_;exact F.f1 ⟨H0,rfl,.inl ⟨rfl,h0⟩⟩
 obtain rfl:len=fs.length:=by omega
 refine Tri.mt func75 ntmps75 fun w hw=>?_;refine W.k ?_;refine bE [6,7] (fun x:Nat×Hp=>[(8,.int .i64 (x.1:Int))]) (fun x=>(sb,cl (fs++junk) 140)::x.2) (fun x=>fs.length-x.1) (fun x=>x.1<=fs.length/\J x.1 x.2) (0,H0) ⟨Nat.zero_le _,h0⟩ ?_;rintro⟨k,Hk⟩ ⟨hk,hJ⟩;dsimp only at hk hJ |-;by_cases h:k<fs.length
 ·have hv:=aA h;obtain⟨f,us,cs,hfv,iF,hT⟩:=hfs k _ hv;have hv2:(fs++junk)[k]?=some fs[k]:=by rw [aJ h];exact hv
  rw [hfv] at hv2;clear hfv hv;have hT2:=hT Hk hJ;refine W.k ?_;refine dN Hk rfl rfl rfl rfl rfl rfl hT2 (fun _ _=>trivial) ?_;rintro _ H2 (⟨rfl,hJ2⟩|⟨e,he,rfl,hE⟩)
  ·refine W.k ?_;refine aN.mk (k+1,H2) ?_;exact⟨h,hJ2⟩
  refine W.k ?_;refine Fin.to ([(sb,cl (fs++junk) 140)]++H2) ?_;exact F.f1 ⟨H2,rfl,.inr ⟨e,he,rfl,hE⟩⟩
 have:k=fs.length:=oQ;subst this;refine W.k ?_;refine Fin.to ([(sb,cl (fs++junk) 140)]++Hk) ?_;exact F.f1 ⟨Hk,rfl,.inl ⟨rfl,hJ⟩⟩
theorem aFE(es:List UInt64)(h1:1<=es.length)(hn:es.length<=1000000)(v:Value):Tri prog 151 [v] [] (fun w=>Rd [] w 1 v (uv es)) (fun o H=>Sl 23 1 o (uv es) H):=by refine Tri.mt func151 ntmps151 fun w hw=>?_;have hw2:=hw;obtain⟨a,la,ca,rfl,hl1,hc1,hr1⟩:=hw.get;rw [Nat.mul_one,eN] at hl1;subst hl1;obtain⟨b,o,l,T,fz,rfl,-⟩:=hr1 oQ;refine W.k fun b_=>?_;refine W.ap (ys:=uv es) (mm:=es.length) (Sl.own 23 1 b_ (len:=0) (xs:=[]) rfl) (fun w2 hs=>hw2.srcAt hs) (fun v1 H1 hv1=>?_) (hys:=by rw [eN,Nat.mul_one]) (hbytes:=by rw [eN];simp;omega);have h11:=hv1.isOne;rw [List.nil_append] at hv1;refine W.k ?_;refine Fin.to H1 ?_;exact F.f1 hv1
theorem aIq{d tr s bk p t:Nat}(h:Gm.Ok p t){C:Dv}{Hd Ht:Hp}(hD:eX d C Hd)(hlen:C.len=256*Gm.total p t)(es:List UInt64)(hes:es.length=Gm.sealed p)(ev:Value){l:LL}{tp:Nat}(hT:rJ tp bk l Ht)(hl:l.length=Gm.leaves p)(h32:D32 l)(wr:Bool):Tri prog 76 [vW d tr s bk p t,ev,ptv tp,.bool wr] (Hd++Ht) (fun w=>Rd ((Hd++Ht).map Prod.fst) w 1 ev (uv es)) (fun v H=>∃ sp Hn,v=.tuple #[ptv sp,.int .i64 0]/\rI sp d tr s bk p t ⟨es,l,wr,0⟩ Hn/\H=Hn++(Hd++Ht)):=by
 refine Tri.mt func76 ntmps76 fun w hw=>?_;have hw2:=hw;obtain⟨a,la,ca,rfl,hl1,hc1,-⟩:=hw.get;rw [Nat.mul_one,eN] at hl1;subst hl1;have hY:One (Value.slice a es.length ca):=⟨rfl⟩;have hck:=qC h;have hln:=aCA hD;have htt:=aFT h;have htl:=Gm.total_le2 h;have hse:=uL h;have hsl:=Gm.sealed_le h;have hs1:1<=Gm.sealed p:=by unfold Gm.sealed;omega
 have hlv:=aDG h;have hll:=Gm.leaves_le h;have hlp:1<=Gm.leaves p:=by unfold Gm.leaves;omega
 have hby:=tD (k:=Gm.total p t) oQ;have htn:=aPr hT;have hcp:=aJB hT h32 oQ oQ;have hcu:=aFE es oQ oQ (.slice a es.length ca);rw [hlen] at hln;rw [hl] at htn;rw [<-hes] at hse;generalize Gm.total p t=m at *;generalize Gm.leaves p=n at *;refine W.k fun b_=>?_;(refine SW.l [] [0,1] ?_;refine aX 2 ?_);refine W.cq hck ?_;(refine SL.l [3,4,5,6,8,9] ?_;(first|refine cY 7 rfl ?_;(first|refine cY 10 rfl ?_;(first|refine cY 11 rfl ?_;refine SG.l [12,13,14,15] ?_|refine aX 11 ?_)|refine aX 10 ?_)|refine aX 7 ?_));refine aF hln ?_;rintro _ Hd ⟨rfl,rfl⟩;(refine bB [] ?_;(first|refine cY 10 rfl ?_;(first|refine cY 11 rfl ?_;refine SG.l [12,13,14,15] ?_|refine aX 11 ?_)|refine aX 10 ?_));refine W.cq htt ?_;(refine bB [] ?_;(first|refine cY 11 rfl ?_;refine SG.l [12,13,14,15] ?_|refine aX 11 ?_));refine W.cq hby ?_;(refine SL.l [12,13,14,15] ?_);refine W.k ?_;(refine SW.l [] [0,1,2,3] ?_;refine aX 4 ?_);refine W.cq hse ?_;(refine SL.l [5,6,7,9,10] ?_;(first|refine cY 8 rfl ?_;(first|refine cY 11 rfl ?_;refine SG.l [12,13,14,15] ?_|refine aX 11 ?_)|refine aX 8 ?_));refine aF htn ?_;rintro _ Ht ⟨rfl,rfl⟩;(refine bB [] ?_;(first|refine cY 11 rfl ?_;refine SG.l [12,13,14,15] ?_|refine aX 11 ?_));refine W.cq hlv ?_;(refine SL.l [12,13,14,15] ?_);refine W.k ?_;(refine SW.l [] [0,1,3,5] ?_;refine aX 2 ?_);refine aF hcu ?_ (hpre:=fun w2 hs=>hw2.ro (Hc:=[]) hs);intro v1 H1 h1;have h11:=h1.isOne;obtain⟨a1,l1,c1,rfl,-⟩:=h1.form;(refine bB [] ?_;refine aX 4 ?_);refine aF hcp ?_;rintro _ _ ⟨c,Hc,rfl,rfl,hTc⟩;have hbf:bV (fun i=>[(0,6),(6,1),(7,1),(8,1),(9,1)][i]?) (List.replicate 4 (.pointer none)++[.int .i64 0,.int .i64 0]++[.slice none 0 0]++[.pointer none]++[.bool false]++[.int .i64 0]) [(0,vW d tr s bk p t),(1,.slice a1 l1 c1),(2,ptv c),(3,.bool wr)]=some [ptv d,ptv tr,ptv s,ptv bk,.int .i64 (p:Int),.int .i64 (t:Int),.slice a1 l1 c1,ptv c,.bool wr,.int .i64 0]:=rfl;(refine SL.l [6] ?_;refine aX 7 ?_;refine W.i fun b_=>?_;refine SG.l [8,9,10] ?_);refine W.k ?_;refine Fin.to (((b_,cl [ptv d,ptv tr,ptv s,ptv bk,.int .i64 (p:Int),.int .i64 (t:Int),.slice a1 l1 c1,ptv c,.bool wr,.int .i64 0] 231)::(H1++Hc))++(Hd++Ht)) ?_;exact F.f2 ⟨b_,_,rfl,⟨_,c,H1,Hc,rfl,h1,hTc⟩,rfl⟩
def pK(p t:Nat)(w:Bool)(l:LL):TS:=(bX p t l).t.and (if w=true then gA else fun C=>(0,C))
def iL(p t:Nat)(w:Bool)(C:Dv)(r:Rg):Option So:=if (fF p t w (C,r)).1=0 then some ⟨nZ p (eW p t C r).2,gF (eW p t C r).2,w,0⟩ else none
def sE(p t:Nat)(w:Bool)(C:Dv)(r:Rg)(D:Bk):Bk:=
 if w=true/\r.c=18446744073709551615 then D else if C.down=true then D else tI p t r (C.blks 0 (Gm.leaves p)) (C.blks (Gm.leaves p) (1+t)) D
theorem aEw{p t:Nat}{C:Dv}{r:Rg}(hok:C.Ok)(hd:C.down=false)(hl:C.len=256*Gm.total p t):(eW p t C r).2.length=Gm.leaves p/\∀ b∈(eW p t C r).2,b.length=256:=by
 have htot:Gm.total p t=Gm.leaves p+(1+t):=rfl;have h1:=vX (a:=0) (n:=Gm.leaves p) hok hd hl oQ;have h2:=C.blks_len 0 (Gm.leaves p);unfold eW;generalize C.blks 0 (Gm.leaves p)=l at *;generalize C.blks (Gm.leaves p) (1+t)=logs;by_cases hf:lC p t r.root l=true
 ·rw [pF hf];exact⟨h2,h1⟩
 cases hlr:uP p t r logs with
 | none=>rw [nQ hf hlr];exact⟨h2,h1⟩
 | some x=>
  rw [qB hf hlr]
  split
  ·exact⟨by rw [tS];exact h2,aBm (aFZ hlr) h1⟩
  ·exact⟨h2,h1⟩
section
variable (d tr fp p t:Nat)(F0:LV)(l:LL)(C:Dv)(r:Rg)(Hb:Hp)
abbrev opH(r':Rg)(Hd:Hp):Hp:=(fp,cl F0 157)::(tr,cl (trc d r') 201)::(Hd++Hb)
def opJ(i:Nat)(H:Hp):Prop:=∃ (σ':Dv) (r':Rg) (Hd':Hp),eX d σ' Hd'/\H.Perm (opH d tr fp F0 Hb r' Hd') /\
 match i with
 | 0=>σ'=C/\r'=r
 | 1=>iP l C=(0,σ')/\r'=r
 | 2=>bX p t l C=(0,σ')/\r'=r
 | _=>pK p t true l (C,r)=(0,(σ',r'))
def opE(w:Bool)(e:Int)(H:Hp):Prop:=∃ (σ':Dv) (r':Rg) (Hd':Hp),eX d σ' Hd'/\H.Perm (opH d tr fp F0 Hb r' Hd')/\pK p t w l (C,r)=(e,(σ',r'))
end
section
variable {d tr s bk fp p t:Nat}{kind cnt:Int}{bv lv Lv ev tv:Value}{l:LL}{C:Dv}{r:Rg}{Hb:Hp}
theorem op0(hB:Bls bv l Hb)(o1:One lv)(o2:One Lv)(o3:One ev)(o4:One tv)(w:Bool)(h8:C.ws.length%8=0)(hn:l.length<=1000)(hb:∀ b∈l,b.length=256):sX prog (.func (.func 72) [ptv fp].toArray [].toArray) (opJ d tr fp p t (bZ d tr s bk p t kind bv lv cnt Lv ev tv) l C r Hb 0) (opJ d tr fp p t (bZ d tr s bk p t kind bv lv cnt Lv ev tv) l C r Hb 1) (opE d tr fp p t (bZ d tr s bk p t kind bv lv cnt Lv ev tv) l C r Hb w):=by
 refine⟨_,[ptv fp],[],rfl,inferInstance,fun Hc hJ=>?_⟩;obtain⟨σ',r',Hd,hD,hp,rfl,rfl⟩:=hJ;refine ((Tri.perm hp ((aIv (fp:=fp) (d:=d) (tr:=tr) (s:=s) (bk:=bk) (p:=p) (t:=t) (kind:=kind) (cnt:=cnt) hD h8 hB o1 o2 o3 o4 hn hb).frame (r:=[(tr,cl (trc d r') 201)]) fG (fun _ _ _=>trivial)))).mono ?_;rintro v H ⟨H1,rfl,rfl,Hd',hD',rfl⟩;by_cases h0:(iP l σ').1=0
 ·exact .inl ⟨by rw [h0],(iP l σ').2,r',Hd',hD',fG,yJ h0,rfl⟩
 have e1:(bX p t l).t (σ',r')=((iP l σ').1,(iP l σ').2,r'):=by show (((iP l).and _ σ').1,((iP l).and _ σ').2,r')=_;rw [DS.and_ne h0]
 refine .inr ⟨_,h0,rfl,(iP l σ').2,r',Hd',hD',fG,?_⟩;unfold pK;rw [TS.and_ne (by rw [e1];exact h0)];exact e1
theorem op1(h:Gm.Ok p t)(hB:Bls bv l Hb)(o1:One lv)(o2:One Lv)(o3:One ev)(o4:One tv)(w:Bool)(h8:C.ws.length%8=0):sX prog (.func (.func 73) [ptv fp].toArray [].toArray) (opJ d tr fp p t (bZ d tr s bk p t kind bv lv cnt Lv ev tv) l C r Hb 1) (opJ d tr fp p t (bZ d tr s bk p t kind bv lv cnt Lv ev tv) l C r Hb 2) (opE d tr fp p t (bZ d tr s bk p t kind bv lv cnt Lv ev tv) l C r Hb w):=by
 refine⟨_,[ptv fp],[],rfl,inferInstance,fun Hc hJ=>?_⟩;obtain⟨σ',r',Hd,hD,hp,hwd,rfl⟩:=hJ;have hw2:=((iZ (gB 0 l)).and yW) C;rw [show ((putL (gB 0 l)).and feS) C=(0,σ') from hwd] at hw2;dsimp only at hw2;refine ((Tri.perm hp ((aF8 (fp:=fp) (d:=d) (tr:=tr) (s:=s) (bk:=bk) (kind:=kind) (cnt:=cnt) h hD (by rw [hw2];exact h8) hB.one o1 o2 o3 o4).frame (r:=(tr,cl (trc d r') 201)::Hb) fG (fun _ _ _=>trivial)))).mono ?_;rintro v H ⟨H1,rfl,rfl,Hd',hD',rfl⟩;have e0:bX p t l C=fU (Gm.leaves p) (1+t) σ':=DS.and_eq hwd;by_cases h0:(fU (Gm.leaves p) (1+t) σ').1=0
 ·exact .inl ⟨by rw [h0],(fU (Gm.leaves p) (1+t) σ').2,r',Hd',hD',fG,by rw [e0];exact yJ h0,rfl⟩
 have e1:(bX p t l).t (C,r')=((fU (Gm.leaves p) (1+t) σ').1,(fU (Gm.leaves p) (1+t) σ').2,r'):=by show ((bX p t l C).1,(bX p t l C).2,r')=_;rw [e0]
 refine .inr ⟨_,h0,rfl,(fU (Gm.leaves p) (1+t) σ').2,r',Hd',hD',fG,?_⟩;unfold pK;rw [TS.and_ne (by rw [e1];exact h0)];exact e1
theorem op2(hB:Bls bv l Hb)(o1:One lv)(o2:One Lv)(o3:One ev)(o4:One tv)(hr:r.Ok)(hlt:r.c<18446744073709551615):sX prog (.func (.func 74) [ptv fp].toArray [].toArray) (opJ d tr fp p t (bZ d tr s bk p t kind bv lv cnt Lv ev tv) l C r Hb 2) (opJ d tr fp p t (bZ d tr s bk p t kind bv lv cnt Lv ev tv) l C r Hb 3) (opE d tr fp p t (bZ d tr s bk p t kind bv lv cnt Lv ev tv) l C r Hb true):=by
 refine⟨_,[ptv fp],[],rfl,inferInstance,fun Hc hJ=>?_⟩;obtain⟨σ',r',Hd,hD,hp,hws,rfl⟩:=hJ;refine ((Tri.perm hp ((aJ0 (fp:=fp) (tr:=tr) (s:=s) (bk:=bk) (p:=p) (t:=t) (kind:=kind) (cnt:=cnt) hD hr hlt hB.one o1 o2 o3 o4).frame (r:=Hb) fG (fun _ _ _=>trivial)))).mono ?_;rintro v H ⟨H1,rfl,rfl,Hd',hD',rfl⟩;have e1:(bX p t l).t (C,r')=(0,(σ',r')):=by show ((bX p t l C).1,(bX p t l C).2,r')=_;rw [hws]
 have e2:pK p t true l (C,r')=gA (σ',r'):=by unfold pK;rw [TS.and_eq e1,if_pos rfl]
 by_cases h0:(gA (σ',r')).1=0
 ·exact .inl ⟨by rw [h0],(gA (σ',r')).2.1,(gA (σ',r')).2.2,Hd',hD',fG,by show pK p t true l (C,r')=_;rw [e2];exact yJ h0⟩
 exact .inr ⟨_,h0,rfl,(gA (σ',r')).2.1,(gA (σ',r')).2.2,Hd',hD',fG,e2⟩
end
def aBe(fp:Nat)(w:Bool):LV:=[.func (.func 72) #[ptv fp] #[],.func (.func 73) #[ptv fp] #[]]++if w=true then [.func (.func 74) #[ptv fp] #[]] else []
theorem aH0{d tr s bk fp p t:Nat}{kind cnt:Int}{bv lv Lv ev tv:Value}{l:LL}{C:Dv}{r:Rg}{Hd Hb Hs:Hp}(h:Gm.Ok p t)(hD:eX d C Hd)(hB:Bls bv l Hb)(o1:One lv)(o2:One Lv)(o3:One ev)(o4:One tv)(w:Bool)(h8:C.ws.length%8=0)(hn:l.length<=1000)(hb:∀ b∈l,b.length=256)(hr:r.Ok)(hlt:w=true->r.c<18446744073709551615){v:Value}(hS:Sl 140 1 v (aBe fp w) Hs):Tri prog 75 [v] (Hs++opH d tr fp (bZ d tr s bk p t kind bv lv cnt Lv ev tv) Hb r Hd) NT (fun v H=>∃ e σ' r' Hd',pK p t w l (C,r)=(e,(σ',r'))/\v=.int .i64 e/\eX d σ' Hd'/\H=Hs++opH d tr fp (bZ d tr s bk p t kind bv lv cnt Lv ev tv) Hb r' Hd'):=by
 have hJ0:opJ d tr fp p t (bZ d tr s bk p t kind bv lv cnt Lv ev tv) l C r Hb 0 (opH d tr fp (bZ d tr s bk p t kind bv lv cnt Lv ev tv) Hb r Hd):=⟨C,r,Hd,hD,List.Perm.refl _,rfl,rfl⟩;cases w with
 | false=>
  have hfs:∀ i v,(aBe fp false)[i]?=some v->sX prog v (opJ d tr fp p t (bZ d tr s bk p t kind bv lv cnt Lv ev tv) l C r Hb i) (opJ d tr fp p t (bZ d tr s bk p t kind bv lv cnt Lv ev tv) l C r Hb (i+1)) (opE d tr fp p t (bZ d tr s bk p t kind bv lv cnt Lv ev tv) l C r Hb false):=fun i v hv=>by
   have hi:=(aD.1 hv).1
   have hi5:i<2:=hi
   rcases (by omega:i=0\/i=1) with rfl|rfl
   ·cases hv;exact op0 hB o1 o2 o3 o4 false h8 hn hb
   ·cases hv;exact op1 h hB o1 o2 o3 o4 false h8
  refine (aJX (aBe fp false) hS (by show 2<=1000;decide) hfs hJ0).to ?_
  rintro v H ⟨H',rfl,⟨rfl,σ',r',Hd',hD',hp,hws,rfl⟩|⟨e,he,rfl,σ',r',Hd',hD',hp,hF⟩⟩
  ·refine⟨_,[],by rw [aG];exact hp.append_left Hs,0,σ',r',Hd',?_,rfl,hD',rfl⟩
   unfold pK
   rw [TS.and_eq (y:=(σ',r')) (by show ((bX p t l C).1,(bX p t l C).2,r')=_;rw [hws]),if_neg dQ]
  ·exact⟨_,[],by rw [aG];exact hp.append_left Hs,e,σ',r',Hd',hF,rfl,hD',rfl⟩
 | true=>
  have hfs:∀ i v,(aBe fp true)[i]?=some v->sX prog v (opJ d tr fp p t (bZ d tr s bk p t kind bv lv cnt Lv ev tv) l C r Hb i) (opJ d tr fp p t (bZ d tr s bk p t kind bv lv cnt Lv ev tv) l C r Hb (i+1)) (opE d tr fp p t (bZ d tr s bk p t kind bv lv cnt Lv ev tv) l C r Hb true):=fun i v hv=>by
   have hi:=(aD.1 hv).1
   have hi5:i<3:=hi
   rcases (by omega:i=0\/i=1\/i=2) with rfl|rfl|rfl
   ·cases hv;exact op0 hB o1 o2 o3 o4 true h8 hn hb
   ·cases hv;exact op1 h hB o1 o2 o3 o4 true h8
   ·cases hv;exact op2 hB o1 o2 o3 o4 hr (hlt rfl)
  refine (aJX (aBe fp true) hS (by show 3<=1000;decide) hfs hJ0).to ?_
  rintro v H ⟨H',rfl,⟨rfl,σ',r',Hd',hD',hp,hF⟩|⟨e,he,rfl,σ',r',Hd',hD',hp,hF⟩⟩
  ·exact⟨_,[],by rw [aG];exact hp.append_left Hs,0,σ',r',Hd',hF,rfl,hD',rfl⟩
  ·exact⟨_,[],by rw [aG];exact hp.append_left Hs,e,σ',r',Hd',hF,rfl,hD',rfl⟩
theorem aHd(p t:Nat)(w:Bool)(l:LL)(x:Dv×Rg):(pK p t w l x).2.1.ws.length=x.1.ws.length:=by
 have h1:(bX p t l x.1).2.ws.length=x.1.ws.length:=(((iZ (gB 0 l)).and yW).and (aBt _ _)) x.1;unfold pK TS.and;split
 ·split
  ·rw [zZ];exact h1
  exact h1
 exact h1
theorem pJ{p t:Nat}{w:Bool}{C:Dv}{r:Rg}(h1:¬ (w=true/\r.c=18446744073709551615))(h2:C.down=false)(h3:(eW p t C r).1≠3):fF p t w (C,r)=pK p t w (eW p t C r).2 (C,r):=by unfold fF;rw [if_neg h1,if_neg (by show ¬ C.down=true;rw [h2];decide),if_neg h3];rfl
theorem aNK{d tr s bk tb p t:Nat}(h:Gm.Ok p t){C:Dv}{r:Rg}{D:Bk}{Hd Hk:Hp}(hD:eX d C Hd)(hlen:C.len=256*Gm.total p t)(hr:r.Ok)(hK:eP bk tb D Hk)(wr:Bool):Tri prog 23 [vW d tr s bk p t,.bool wr] ((tr,cl (trc d r) 201)::(Hd++Hk)) NT (fun v H=>∃ sv Hd' Hk' HS Hx,v=.tuple #[sv,.int .i64 (fF p t wr (C,r)).1]/\eX d (fF p t wr (C,r)).2.1 Hd'/\eP bk tb (sE p t wr C r D) Hk'/\StO sv d tr s bk p t (iL p t wr C r) HS /\ H=(tr,cl (trc d (fF p t wr (C,r)).2.2) 201)::(Hd'++(Hk'++(HS++Hx)))):=by
 refine Tri.mt func23 ntmps23 fun w hw=>?_;have hmy:=aHa (tr:=tr) (s:=s) (bk:=bk) h hD hlen;have hla:=aKr tr d r hr;by_cases hE:wr=true/\r.c=18446744073709551615
 ·obtain⟨rfl,hc⟩:=hE;have e1:fF p t true (C,r)=(21,(C,r)):=by unfold fF;rw [if_pos ⟨rfl,hc⟩]
  have e2:sE p t true C r D=D:=by unfold sE;rw [if_pos ⟨rfl,hc⟩]
  have e3:iL p t true C r=none:=by unfold iL;rw [e1,if_neg (by show ¬ (21:Int)=0;decide)]
  rw [decide_eq_true hc] at hla;rw [e1,e2,e3];refine W.k fun b_=>?_;refine aF hmy ?_;rintro _ Hd ⟨rfl,rfl⟩;refine W.k ?_;refine W.cw hla ?_;refine Fin.to ((tr,cl (trc d r) 201)::(Hd++(Hk++([]++[])))) ?_;exact F.f2 ⟨_,Hd,Hk,[],[],rfl,hD,hK,⟨rfl,rfl⟩,rfl⟩
 have hlk:=aKu (dt:=d) (tr:=tr) (s:=s) h hD hlen hr hK;cases wr with
 | false=>
  refine W.k fun b_=>?_
  refine aF hmy ?_
  rintro _ Hd ⟨rfl,rfl⟩
  refine W.k ?_
  refine aF hlk ?_
  rintro _ _ (⟨hdn,rfl,rfl⟩|⟨hdn,fp,Hk2,Hf,rfl,hFo,hK2,rfl⟩)
  ·have e1:fF p t false (C,r)=(8,(C,r)):=by unfold fF;rw [if_neg hE,if_pos hdn]
   have e2:sE p t false C r D=D:=by unfold sE;rw [if_neg hE,if_pos hdn]
   have e3:iL p t false C r=none:=by unfold iL;rw [e1,if_neg (by show ¬ (8:Int)=0;decide)]
   rw [e1,e2,e3]
   refine W.k ?_
   refine Fin.to ((tr,cl (trc d r) 201)::(Hd++(Hk++([]++[])))) ?_
   exact F.f2 ⟨_,Hd,Hk,[],[],rfl,hD,hK,⟨rfl,rfl⟩,rfl⟩
  have hlo:=aEw (r:=r) hD.1 hdn hlen
  have e2:sE p t false C r D=tI p t r (C.blks 0 (Gm.leaves p)) (C.blks (Gm.leaves p) (1+t)) D:=by unfold sE;rw [if_neg hE,if_neg (by rw [hdn];decide)]
  rw [e2]
  clear e2
  generalize tI p t r (C.blks 0 (Gm.leaves p)) (C.blks (Gm.leaves p) (1+t)) D=β2 at *
  by_cases h3:(eW p t C r).1=3
  ·have e1:fF p t false (C,r)=(20,(C,r)):=by unfold fF;rw [if_neg hE,if_neg (by show ¬ C.down=true;rw [hdn];decide),if_pos h3]
   have e3:iL p t false C r=none:=by unfold iL;rw [e1,if_neg (by show ¬ (20:Int)=0;decide)]
   rw [h3] at hFo
   obtain⟨bv,lv,cnt,Lv,ev,tv,Hx,⟨o0,o1,o2,o3,o4⟩,rfl,-⟩:=hFo
   rw [e1,e3]
   refine W.k ?_
   refine Fin.to ((tr,cl (trc d r) 201)::(Hd++(Hk2++([]++[])))) ?_
   exact F.f2 ⟨_,Hd,Hk2,[],[],rfl,hD,hK2,⟨rfl,rfl⟩,rfl⟩
  obtain⟨bv,lv,cnt,Lv,ev,tv,Hx,⟨o0,o1,o2,o3,o4⟩,rfl,hk3⟩:=hFo
  obtain⟨tp,be,Hb,Ht,Hz,hB,rfl,rfl,hT,rfl⟩:=hk3 h3
  have e1:=pJ hE hdn h3
  have e3:iL p t false C r=if (pK p t false (eW p t C r).2 (C,r)).1=0 then some ⟨nZ p (eW p t C r).2,gF (eW p t C r).2,false,0⟩ else none:=by unfold iL;rw [e1]
  rw [e1,e3]
  clear e1 e3 hk3 hlk
  have hkn:¬ (((eW p t C r).1:Nat):Int)=3:=oQ
  generalize (eW p t C r).2=l at *
  generalize (eW p t C r).1=k at *
  have h8:C.ws.length%8=0:=by unfold Dv.len at hlen;omega
  have hll:=Gm.leaves_le h
  have hwl:=aHd p t false l (C,r)
  have hbs:bV (fun i=>some (i*1,1)) (zs [.nilFunc] 2) [(0,.func (.func 72) #[ptv fp] #[]),(1,.func (.func 73) #[ptv fp] #[])]=some (aBe fp false):=rfl
  refine W.k fun b_=>?_
  have hSs:Sl 140 1 (.slice (some ⟨b_,0,none⟩) 2 2) (aBe fp false) [(b_,cl (aBe fp false) 140)]:=Sl.own _ 1 b_ (len:=2) rfl
  refine aF (aH0 (d:=d) (tr:=tr) (s:=s) (bk:=bk) (fp:=fp) (kind:=(k:Int)) (cnt:=cnt) (r:=r) h hD hB o1 o2 o3 o4 false h8 oQ hlo.2 hr (fun hh=>by cases hh) hSs) ?_
  rintro _ _ ⟨e,σ2,r2,Hd2,hF,rfl,hD2,rfl⟩
  rw [hF] at hwl |-
  dsimp only at hwl |-
  by_cases he:e=0
  ·subst he
   rw [if_pos rfl]
   have hst:=aIq (tr:=tr) (s:=s) (bk:=bk) h hD2 (by unfold Dv.len at *;rw [hwl];exact hlen) (nZ p l) (tB ..) (.slice (some ⟨be,0,none⟩) (Gm.sealed p) (Gm.sealed p)) hT (by rw [lB];exact hlo.1) (qN _) false
   refine W.k ?_
   (refine SW.l [] [0,1,2,3,4,5,6,7,8,9] ?_;refine aX 10 ?_)
   refine aF hst ?_ (hpre:=fun w2 hs=>Rd.own (Hc:=Hd2++Ht) (Sl.own 23 1 be (len:=Gm.sealed p) (xs:=uv (nZ p l)) (by rw [eN,tB,Nat.mul_one])) hs inferInstance)
   rintro _ _ ⟨sp,Hn,rfl,hSt,rfl⟩
   (refine SL.l [11,12,13,14,15] ?_)
   refine W.k ?_
   refine Fin.to ((tr,cl (trc d r2) 201)::(Hd2++(Hk2++(Hn++[])))) ?_
   exact F.f2 ⟨_,Hd2,Hk2,Hn,[],rfl,hD2,hK2,⟨sp,rfl,hSt⟩,rfl⟩
  ·rw [if_neg he]
   refine W.k ?_
   refine Fin.to ((tr,cl (trc d r2) 201)::(Hd2++(Hk2++([]++[])))) ?_
   exact F.f2 ⟨_,Hd2,Hk2,[],[],rfl,hD2,hK2,⟨rfl,rfl⟩,rfl⟩
 | true=>
  have hcn:¬ r.c=18446744073709551615:=fun hc=>hE ⟨rfl,hc⟩
  have hlt:r.c<18446744073709551615:=by have:=hr.c1;omega
  rw [decide_eq_false hcn] at hla
  refine W.k fun b_=>?_
  refine aF hmy ?_
  rintro _ Hd ⟨rfl,rfl⟩
  refine W.k ?_
  refine W.cw hla ?_
  refine aF hlk ?_
  rintro _ _ (⟨hdn,rfl,rfl⟩|⟨hdn,fp,Hk2,Hf,rfl,hFo,hK2,rfl⟩)
  ·have e1:fF p t true (C,r)=(8,(C,r)):=by unfold fF;rw [if_neg hE,if_pos hdn]
   have e2:sE p t true C r D=D:=by unfold sE;rw [if_neg hE,if_pos hdn]
   have e3:iL p t true C r=none:=by unfold iL;rw [e1,if_neg (by show ¬ (8:Int)=0;decide)]
   rw [e1,e2,e3]
   refine W.k ?_
   refine Fin.to ((tr,cl (trc d r) 201)::(Hd++(Hk++([]++[])))) ?_
   exact F.f2 ⟨_,Hd,Hk,[],[],rfl,hD,hK,⟨rfl,rfl⟩,rfl⟩
  have hlo:=aEw (r:=r) hD.1 hdn hlen
  have e2:sE p t true C r D=tI p t r (C.blks 0 (Gm.leaves p)) (C.blks (Gm.leaves p) (1+t)) D:=by unfold sE;rw [if_neg hE,if_neg (by rw [hdn];decide)]
  rw [e2]
  clear e2
  generalize tI p t r (C.blks 0 (Gm.leaves p)) (C.blks (Gm.leaves p) (1+t)) D=β2 at *
  by_cases h3:(eW p t C r).1=3
  ·have e1:fF p t true (C,r)=(20,(C,r)):=by unfold fF;rw [if_neg hE,if_neg (by show ¬ C.down=true;rw [hdn];decide),if_pos h3]
   have e3:iL p t true C r=none:=by unfold iL;rw [e1,if_neg (by show ¬ (20:Int)=0;decide)]
   rw [h3] at hFo
   obtain⟨bv,lv,cnt,Lv,ev,tv,Hx,⟨o0,o1,o2,o3,o4⟩,rfl,-⟩:=hFo
   rw [e1,e3]
   refine W.k ?_
   refine Fin.to ((tr,cl (trc d r) 201)::(Hd++(Hk2++([]++[])))) ?_
   exact F.f2 ⟨_,Hd,Hk2,[],[],rfl,hD,hK2,⟨rfl,rfl⟩,rfl⟩
  obtain⟨bv,lv,cnt,Lv,ev,tv,Hx,⟨o0,o1,o2,o3,o4⟩,rfl,hk3⟩:=hFo
  obtain⟨tp,be,Hb,Ht,Hz,hB,rfl,rfl,hT,rfl⟩:=hk3 h3
  have e1:=pJ hE hdn h3
  have e3:iL p t true C r=if (pK p t true (eW p t C r).2 (C,r)).1=0 then some ⟨nZ p (eW p t C r).2,gF (eW p t C r).2,true,0⟩ else none:=by unfold iL;rw [e1]
  rw [e1,e3]
  clear e1 e3 hk3 hlk
  have hkn:¬ (((eW p t C r).1:Nat):Int)=3:=oQ
  generalize (eW p t C r).2=l at *
  generalize (eW p t C r).1=k at *
  have h8:C.ws.length%8=0:=by unfold Dv.len at hlen;omega
  have hll:=Gm.leaves_le h
  have hwl:=aHd p t true l (C,r)
  have hbs:bV (fun i=>some (i*1,1)) (zs [.nilFunc] 2) [(0,.func (.func 72) #[ptv fp] #[]),(1,.func (.func 73) #[ptv fp] #[])]=some (aBe fp false):=rfl
  have hbs2:bV (fun i=>some (i*1,1)) (zs [.nilFunc] 1) [(0,.func (.func 74) #[ptv fp] #[])]=some [.func (.func 74) #[ptv fp] #[]]:=rfl
  refine W.k fun _ b_=>?_
  rename_i b9
  refine W.ap (Sl.own 140 1 b9 (len:=2) (xs:=aBe fp false) rfl) (ys:=[.func (.func 74) #[ptv fp] #[]]) (mm:=1) (fun w2 hs=>(Sl.own 140 1 b_ (xs:=[.func (.func 74) #[ptv fp] #[]]) rfl).srcAt hs inferInstance) (fun v3 H3 h33=>?_) (hys:=rfl) (hbytes:=by simp [aBe])
  have h31:=h33.isOne
  rw [show aBe fp false++[.func (.func 74) #[ptv fp] #[]]=aBe fp true from rfl] at h33
  refine W.k ?_
  refine aF (aH0 (d:=d) (tr:=tr) (s:=s) (bk:=bk) (fp:=fp) (kind:=(k:Int)) (cnt:=cnt) (r:=r) h hD hB o1 o2 o3 o4 true h8 oQ hlo.2 hr (fun _=>hlt) h33) ?_
  rintro _ _ ⟨e,σ2,r2,Hd2,hF,rfl,hD2,rfl⟩
  rw [hF] at hwl |-
  dsimp only at hwl |-
  by_cases he:e=0
  ·subst he
   rw [if_pos rfl]
   have hst:=aIq (tr:=tr) (s:=s) (bk:=bk) h hD2 (by unfold Dv.len at *;rw [hwl];exact hlen) (nZ p l) (tB ..) (.slice (some ⟨be,0,none⟩) (Gm.sealed p) (Gm.sealed p)) hT (by rw [lB];exact hlo.1) (qN _) true
   refine W.k ?_
   (refine SW.l [] [0,1,2,3,4,5,6,7,8,9] ?_;refine aX 10 ?_)
   refine aF hst ?_ (hpre:=fun w2 hs=>Rd.own (Hc:=Hd2++Ht) (Sl.own 23 1 be (len:=Gm.sealed p) (xs:=uv (nZ p l)) (by rw [eN,tB,Nat.mul_one])) hs inferInstance)
   rintro _ _ ⟨sp,Hn,rfl,hSt,rfl⟩
   (refine SL.l [11,12,13,14,15] ?_)
   refine W.k ?_
   refine Fin.to ((tr,cl (trc d r2) 201)::(Hd2++(Hk2++(Hn++[])))) ?_
   exact F.f2 ⟨_,Hd2,Hk2,Hn,[],rfl,hD2,hK2,⟨sp,rfl,hSt⟩,rfl⟩
  ·rw [if_neg he]
   refine W.k ?_
   refine Fin.to ((tr,cl (trc d r2) 201)::(Hd2++(Hk2++([]++[])))) ?_
   exact F.f2 ⟨_,Hd2,Hk2,[],[],rfl,hD2,hK2,⟨rfl,rfl⟩,rfl⟩
end
end Go.Proofs.YtdfclocfackkmaaGreat
