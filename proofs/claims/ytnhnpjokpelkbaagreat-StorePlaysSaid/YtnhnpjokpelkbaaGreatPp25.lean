/- A block is put; the log is scrubbed. -/
import Derived.Test.YtnhnpjokpelkbaaGreatPp23
import Derived.Test.YtnhnpjokpelkbaaGreatPp24
set_option linter.unusedVariables false
set_option linter.unusedSimpArgs false
set_option linter.unusedSectionVars false
set_option maxHeartbeats 4000000
namespace Go.Proofs.YtnhnpjokpelkbaaGreat
open Go Go.Proofs.Tryz
section
attribute [local irreducible] SW SL SQ SH SA SS Pu Fin bT aQ
theorem aFP{d tr s bk p t:Nat}{σ:Dv}{Hd:Hp}(hD:fD d σ Hd)(h8:σ.ws.length%8=0)(k:Nat)(hk:k<65536)(v:Value)(b:List UInt8)(hb:b.length≤1048576) :
  Tri prog 120 [yD d tr s bk p t,.int .i64 (k:Int),v] Hd (fun w=>Rd (Hd.map Prod.fst) w 1 v (cbs b)) (fun r H=>r=.int .i64 (fH k b σ).1∧fD d (fH k b σ).2 H):=by
 refine Tri.mk func120 rfl ntmps120 rfl fun w hw=>?_
 have hby:=tP (k:=k) hk
 have hst:=aMl hD ((256*k:Nat):Int) v b hb
 obtain⟨a,la,ca,rfl,hl1,hc1,hr1⟩:=hw.get
 rw [aI,Nat.mul_one] at hl1
 subst hl1
 have hY:One (Value.slice a b.length ca):=⟨rfl⟩
 refine W.k fun b_=>?_
 refine W.cw hby ?_
 refine aF hst ?_ (hpre:=fun w2 hs=>hw.ro (Hc:=Hd) hs)
 rintro _ H1 ⟨rfl,hD1⟩
 have e1:(stS (256*k) b σ).1=σ.actR ((256*k:Nat):Int) b.length:=rfl
 have e2:(stS (256*k) b σ).2=σ.store ((256*k:Nat):Int) b:=rfl
 unfold fH DS.and
 rw [e1,e2]
 by_cases h0:σ.actR ((256*k:Nat):Int) b.length=0
 ·rw [if_pos h0]
  have hfl:=aLC hD1 (by rw [aCR];exact h8) ((256*k:Nat):Int) (b.length:Int)
  refine W.k ?_
  refine aF hfl ?_
  rintro _ H2 ⟨rfl,hD2⟩
  refine W.k ?_
  refine Fin.to H2 ?_
  exact F.f1 ⟨rfl,hD2⟩
 ·rw [if_neg h0]
  refine W.k ?_
  refine Fin.to H1 ?_
  exact F.f1 ⟨rfl,hD1⟩
theorem aBK(m:Nat):List.replicate m (Value.int .u8 0)=cbs (List.replicate m 0):=by simp [cbs]
theorem aHR{d tr s bk p t:Nat}(h:Gm.Ok p t){σ:Dv}{Hd:Hp}(hD:fD d σ Hd)(h8:σ.ws.length%8=0)(n:Nat)(hn:n≤100) :
  Tri prog 124 [yD d tr s bk p t,.int .i64 (n:Int)] Hd (fun _=>True) (fun r H=>r=.int .i64 (gB (Gm.leaves p) n σ).1∧fD d (gB (Gm.leaves p) n σ).2 H):=by
 refine Tri.mk func124 rfl ntmps124 rfl fun w hw=>?_
 have hla:=aCj h 0
 have hll:=Gm.leaves_le h
 rw [show Gm.atK (1+t) (Gm.leaves p) 0=((Gm.leaves p:Nat):Int) by unfold Gm.atK;rw [if_pos oQ];omega] at hla
 have hby:=tP (k:=n) oQ
 generalize Gm.leaves p=l at *
 have hput:=fun v=>aFP (tr:=tr) (s:=s) (bk:=bk) (p:=p) (t:=t) hD h8 l oQ v (List.replicate (256*n) 0) (by rw [aS];omega)
 refine W.k fun b_=>?_
 (refine SW.l [7] [0,1,2,4] ?_;refine bA 3 ?_)
 refine W.cq hla ?_
 (refine bC [] ?_;refine bA 5 ?_)
 refine W.cq hby ?_
 (refine bC [] ?_;refine bA 6 ?_)
 refine W.ma (fun bz=>?_)
 rw [lH,aBK]
 (refine bC [] ?_;refine bO 7 ?_)
 refine aF (hput _) ?_ (hpre:=fun w2 hs=>Rd.my (Hc:=Hd) (T:=5) bz _ hs (aS))
 rintro _ H1 ⟨rfl,hD1⟩
 (refine SL.l [8,9] ?_)
 unfold gB DS.and
 by_cases h0:(fH l (List.replicate (256*n) 0) σ).1=0
 ·rw [if_pos h0]
  have hfe:=aBE hD1
  refine W.k ?_
  refine aF hfe ?_
  rintro _ H2 ⟨rfl,hD2⟩
  refine W.k ?_
  refine Fin.to H2 ?_
  exact F.f1 ⟨rfl,hD2⟩
 ·rw [if_neg h0]
  refine W.k ?_
  refine Fin.to H1 ?_
  exact F.f1 ⟨rfl,hD1⟩
abbrev qV(d tr s p t:Nat):Value:=.agg #[ptv d,ptv tr,ptv s,.int .i64 (p:Int),.int .i64 (t:Int)]
theorem aBd{d tr s p t:Nat}{σ:Dv}{Hd:Hp}(hD:iA d σ Hd)(h8:σ.ws.length%8=0)(k:Nat)(hk:k<65536)(v:Value)(b:List UInt8)(hb:b.length≤1048576) :
  Tri prog 191 [qV d tr s p t,.int .i64 (k:Int),v] Hd (fun w=>Rd (Hd.map Prod.fst) w 1 v (cbs b)) (fun r H=>r=.int .i64 (fH k b σ).1∧iA d (fH k b σ).2 H):=by
 refine Tri.mk func191 rfl ntmps191 rfl fun w hw=>?_
 have hst:=aKA hD ((256*k:Nat):Int) v b hb
 obtain⟨a,la,ca,rfl,hl1,hc1,hr1⟩:=hw.get
 rw [aI,Nat.mul_one] at hl1
 subst hl1
 have hY:One (Value.slice a b.length ca):=⟨rfl⟩
 have e:(256:Int)*(k:Int)=((256*k:Nat):Int):=oQ
 rw [← e] at hst
 refine W.k fun b_=>?_
 refine aF hst ?_ (hpre:=fun w2 hs=>hw.ro (Hc:=Hd) hs)
 rintro _ H1 ⟨rfl,hD1⟩
 rw [e] at hD1 ⊢
 have e1:(stS (256*k) b σ).1=σ.actR ((256*k:Nat):Int) b.length:=rfl
 have e2:(stS (256*k) b σ).2=σ.store ((256*k:Nat):Int) b:=rfl
 unfold fH DS.and
 rw [e1,e2]
 by_cases h0:σ.actR ((256*k:Nat):Int) b.length=0
 ·rw [if_pos h0]
  have hfl:=aKw hD1 (by rw [aCR];exact h8) ((256*k:Nat):Int) (b.length:Int)
  rw [← e] at hfl
  refine W.k ?_
  refine aF hfl ?_
  rintro _ H2 ⟨rfl,hD2⟩
  rw [e] at hD2 ⊢
  refine W.k ?_
  refine Fin.to H2 ?_
  exact F.f1 ⟨rfl,hD2⟩
 ·rw [if_neg h0]
  refine W.k ?_
  refine Fin.to H1 ?_
  exact F.f1 ⟨rfl,hD1⟩
theorem aCI{d tr s p t:Nat}(h:Gm.Ok p t){σ:Dv}{Hd:Hp}(hD:iA d σ Hd)(h8:σ.ws.length%8=0)(n:Nat)(hn:n≤100) :
  Tri prog 193 [qV d tr s p t,.int .i64 (n:Int)] Hd (fun _=>True) (fun r H=>r=.int .i64 (gB (Gm.leaves p) n σ).1∧iA d (gB (Gm.leaves p) n σ).2 H):=by
 refine Tri.mk func193 rfl ntmps193 rfl fun w hw=>?_
 have hla:=zC h (K:=4) (n:=1+t) (base:=Gm.leaves p) (.inr (.inr ⟨rfl,rfl,rfl⟩)) 0
 have hll:=Gm.leaves_le h
 rw [show Gm.atK (1+t) (Gm.leaves p) 0=((Gm.leaves p:Nat):Int) by unfold Gm.atK;rw [if_pos oQ];omega] at hla
 generalize Gm.leaves p=l at *
 have hput:=fun v=>aBd (tr:=tr) (s:=s) (p:=p) (t:=t) hD h8 l oQ v (List.replicate (256*n) 0) (by rw [aS];omega)
 haveI i0:eI (256*(n:Int)) (256*n):=⟨by omega⟩
 refine W.k fun b_=>?_
 (refine SW.l [] [0,1,2,4,5] ?_;skip )
 refine jA 3 6 ?_ ?_ rfl rfl
 case' refine_1=>
  refine eJ hla rfl ?_
  rintro _ _ ⟨rfl,rfl⟩
  refine eB ?_
  refine bA 6 ?_
  refine W.ma (fun bz=>?_)
  refine eB ?_
 case' refine_2=>
  refine W.ma (fun bz=>?_)
  refine eB ?_
  refine bA 3 ?_
  refine eJ hla rfl ?_
  rintro _ _ ⟨rfl,rfl⟩
  refine eB ?_
 all_goals
  refine bA 7 ?_
  rw [lH,aBK]
  refine aF (hput _) ?_ (hpre:=fun w2 hs=>Rd.my (Hc:=Hd) (T:=5) bz _ hs (aS))
  rintro _ H1 ⟨rfl,hD1⟩
  (refine SL.l [8,9] ?_)
  unfold gB DS.and
  by_cases h0:(fH l (List.replicate (256*n) 0) σ).1=0
  ·rw [if_pos h0]
   have hfe:=wP hD1
   refine W.k ?_
   refine aF hfe ?_
   rintro _ H2 ⟨rfl,hD2⟩
   refine W.k ?_
   refine Fin.to H2 ?_
   exact F.f1 ⟨rfl,hD2⟩
  ·rw [if_neg h0]
   refine W.k ?_
   refine Fin.to H1 ?_
   exact F.f1 ⟨rfl,hD1⟩
def tK(P:Program)(v:Value)(J J':Hp→Prop)(E:Int→Hp→Prop):Prop:=
 ∃ (f:FuncId) (us cs:List Value),v=.func (.func f) us.toArray cs.toArray∧bD P f∧∀ Hc,J Hc→Tri P f (us++[]++cs) Hc (fun _=>True) (fun r H=>(r=.int .i64 0∧J' H)∨∃ e:Int,e≠0∧r=.int .i64 e∧E e H)
theorem aNg{J:Nat→Hp→Prop}{E:Int→Hp→Prop}(sb:Nat)(fs:List Value)(hn:fs.length≤1000)(hfs:∀ i v,fs[i]?=some v→tK prog v (J i) (J (i+1)) E){H0:Hp}(h0:J 0 H0) :
  Tri prog 181 [.slice (some ⟨sb,0,none⟩) fs.length fs.length] ((sb,cl fs 51)::H0) (fun _=>True)
  (fun r H=>∃ H',H=(sb,cl fs 51)::H'∧((r=.int .i64 0∧J fs.length H')∨∃ e:Int,e≠0∧r=.int .i64 e∧E e H')):=by
 refine Tri.mk func181 rfl ntmps181 rfl fun w hw=>?_
 refine W.k ?_
 refine bF [6,7] (fun x:Nat×Hp=>[(8,.int .i64 (x.1:Int))]) (fun x=>(sb,cl fs 51)::x.2) (fun x=>fs.length-x.1) (fun x=>x.1≤fs.length∧J x.1 x.2) (0,H0) ⟨Nat.zero_le _,h0⟩ ?_
 rintro⟨k,Hk⟩ ⟨hk,hJ⟩
 dsimp only at hk hJ ⊢
 by_cases h:k<fs.length
 ·have hv:=aA h
  obtain⟨f,us,cs,hfv,iF,hT⟩:=hfs k _ hv
  rw [hfv] at hv
  clear hfv
  have hT2:=hT Hk hJ
  refine W.k ?_
  refine dV Hk rfl rfl rfl rfl rfl rfl hT2 (fun _ _=>trivial) ?_
  rintro _ H2 (⟨rfl,hJ2⟩|⟨e,he,rfl,hE⟩)
  ·refine W.k ?_
   refine aQ.mk (k+1,H2) ?_
   exact⟨h,hJ2⟩
  ·refine W.k ?_
   refine Fin.to ((sb,cl fs 51)::H2) ?_
   exact F.f1 ⟨H2,rfl,.inr ⟨e,he,rfl,hE⟩⟩
 ·have:k=fs.length:=oQ
  subst this
  refine W.k ?_
  refine Fin.to ((sb,cl fs 51)::Hk) ?_
  exact F.f1 ⟨Hk,rfl,.inl ⟨rfl,hJ⟩⟩
abbrev cA(d tr s bk p t:Nat)(kind:Int)(bv lv:Value)(cnt:Int)(Lv ev tv:Value):List Value:=[ptv d,ptv tr,ptv s,ptv bk,.int .i64 (p:Int),.int .i64 (t:Int),.int .i64 kind,bv,lv,.int .u64 cnt,Lv,ev,tv]
def Bls(v:Value)(bss:List (List UInt8))(H:Hp):Prop:=∃ vs Hv Ht,Sl 23 1 v vs Hv∧RB Ht vs bss∧H=Hv++Ht
theorem aNL{fp d tr s bk p t:Nat}{kind cnt:Int}{bv lv Lv ev tv:Value}{bss:List (List UInt8)}{σ:Dv}{Hd Hb:Hp}(hD:fD d σ Hd)(h8:σ.ws.length%8=0)(hB:Bls bv bss Hb)(o1:One lv)(o2:One Lv)(o3:One ev)(o4:One tv)(k:Nat){b:List UInt8}(hk:bss[k]?=some b)(hk2:k<65536)(hb:b.length≤1048576) :
  Tri prog 228 [ptv fp,.int .i64 (k:Int)] ((fp,cl (cA d tr s bk p t kind bv lv cnt Lv ev tv) 297)::(Hd++Hb)) (fun _=>True)
  (fun r H=>r=.int .i64 (fH k b σ).1∧∃ Hd',fD d (fH k b σ).2 Hd'∧H=(fp,cl (cA d tr s bk p t kind bv lv cnt Lv ev tv) 297)::(Hd'++Hb)):=by
 obtain⟨vs,Hv,Ht,hS,hR,rfl⟩:=hB
 refine Tri.mk func228 rfl ntmps228 rfl fun w hw=>?_
 obtain⟨u,hu1,hu2⟩:=hR.2 k b hk
 have hkl:=(aE.1 hk).1
 have hvl:=hR.1
 rcases hS with ⟨-,hz,-⟩|⟨bb,len,cap,junk,rfl,hxl,hj,hlc,rfl⟩
 ·rw [hz] at hvl;simp at hvl;omega
 have hv:(vs++junk)[k]?=some u:=by rw [aL oQ];exact hu1
 have huo:=hu2.one
 have hl3:(cA d tr s bk p t kind (.slice (some ⟨bb,0,none⟩) len cap) lv cnt Lv ev tv).length=13:=rfl
 refine W.k ?_
 (refine SW.l [12] [0,1,2,3,4,5,6,7,8,9,10,11] ?_;refine bO 12 ?_)
 refine aF (aFP hD h8 k hk2 u b hb) ?_ (hpre:=fun w2 hs=>hu2.rd (Hc:=Hd) hs)
 rintro _ H1 ⟨rfl,hD1⟩
 (refine SL.l [13,14] ?_)
 refine W.k ?_
 refine Fin.to ((fp,cl (cA d tr s bk p t kind (.slice (some ⟨bb,0,none⟩) len cap) lv cnt Lv ev tv) 297)::(H1++([(bb,cl (vs++junk) 23)]++Ht))) ?_
 exact F.f1 ⟨rfl,H1,hD1,rfl⟩
def DS.Wl(a:DS):Prop:=∀ σ,(a σ).2.ws.length=σ.ws.length
theorem DS.Wl.and{a b:DS}(ha:a.Wl)(hb:b.Wl):(a.and b).Wl:=fun σ=>by
 unfold DS.and
 split
 ·rw [hb,ha]
 ·exact ha σ
theorem aOz(x:Nat)(bs:List UInt8):(stS x bs).Wl:=fun σ=>aCR σ _ _
theorem aNw(x n:Nat):(flS x n).Wl:=fun σ=>aFp σ _ _
theorem yV:feS.Wl:=fun σ=>wF σ
theorem aHE(k:Nat)(b:List UInt8):(fH k b).Wl:=(aOz _ _).and (aNw _ _)
theorem jD:∀ l,(putL l).Wl
 | []=>fun σ=>rfl
 | x::r=>(aHE _ _).and (jD r)
theorem aBf(k n:Nat):(gB k n).Wl:=(aHE _ _).and yV
theorem xS(k:Nat)(l:List (List UInt8))(b:List UInt8):fR k (l++[b])=fR k l++[(k+l.length,b)]:=by unfold fR;rw [rO]
theorem aCG(k:Nat)(l m:List (List UInt8)):fR k (l++m)=fR k l++fR (k+l.length) m:=by
 induction m generalizing l with
 | nil=>simp [fR]
 | cons x r ih=>
  rw [show l++x::r=(l++[x])++r by simp,ih,xS,show fR (k+l.length) (x::r)=(k+l.length,x)::fR (k+l.length+1) r by unfold fR;rw [List.mapIdx_cons];congr 1;apply List.mapIdx_eq_mapIdx_iff.2;intro i h;congr 1;omega]
  simp [mA]
theorem aHX{fp d tr s bk p t:Nat}{kind cnt:Int}{bv lv Lv ev tv:Value}{bss:List (List UInt8)}{σ:Dv}{Hd Hb:Hp}(hD:fD d σ Hd)(h8:σ.ws.length%8=0)(hB:Bls bv bss Hb)(o1:One lv)(o2:One Lv)(o3:One ev)(o4:One tv)(hn:bss.length≤1000)(hb:∀ b∈bss,b.length=256) :
  Tri prog 183 [ptv fp] ((fp,cl (cA d tr s bk p t kind bv lv cnt Lv ev tv) 297)::(Hd++Hb)) (fun _=>True)
  (fun r H=>r=.int .i64 (iW bss σ).1∧∃ Hd',fD d (iW bss σ).2 Hd'∧H=(fp,cl (cA d tr s bk p t kind bv lv cnt Lv ev tv) 297)::(Hd'++Hb)):=by
 have hB0:=hB
 obtain⟨vs,Hv,Ht,hS,hR,rfl⟩:=hB
 have hbo:=hS.isOne
 have hvl:=hR.1
 obtain⟨ba,bl,bc,rfl,hbl⟩:=hS.form
 rw [Nat.mul_one,hvl] at hbl
 subst hbl
 refine Tri.mk func183 rfl ntmps183 rfl fun w hw=>?_
 refine W.j ?_
 refine bQ [0] Hd (fun _:Dv×Hp=>[]) (fun x=>x.2) (fun x=>fD d x.1 x.2∧putL (fR 0 bss) σ=(0,x.1)) ?_ ?_
 ·refine W.k ?_
  refine bF [0,9] (fun x:Nat×Dv×Hp=>[(10,.int .i64 (x.1:Int))]) (fun x=>x.2.2) (fun x=>bss.length-x.1) (fun x=>x.1≤bss.length∧fD d x.2.1 x.2.2∧putL (fR 0 (bss.take x.1)) σ=(0,x.2.1)) (0,σ,Hd) ⟨Nat.zero_le _,hD,by rw [cT];rfl⟩ ?_
  rintro⟨k,σ2,Hd⟩ ⟨hk,hD,hp⟩
  dsimp only at hk hD hp ⊢
  by_cases h:k<bss.length
  ·have hbk:=aA h
   have hbl:=hb _ (cE h)
   have hwl:σ2.ws.length=σ.ws.length:=by have:=jD (fR 0 (bss.take k)) σ;rw [hp] at this;exact this
   have hpt:=aNL (fp:=fp) (tr:=tr) (s:=s) (bk:=bk) (p:=p) (t:=t) (kind:=kind) (cnt:=cnt) hD (by rw [hwl];exact h8) hB0 o1 o2 o3 o4 k hbk oQ oQ
   have hsp:bss=bss.take k++bss[k]::bss.drop (k+1):=by rw [← bL h,dG]
   have htl:(bss.take k).length=k:=by rw [aG];omega
   have hs1:putL (fR 0 (bss.take (k+1))) σ=if (fH k bss[k] σ2).1=0 then (0,(fH k bss[k] σ2).2) else fH k bss[k] σ2:=by
    rw [aZ,hbk,dJ,xS,qK,htl,fX]
    show DS.and _ ((fH k bss[k]).and fun σ=>(0,σ)) σ=_
    unfold DS.and
    rw [hp]
    simp
   have hs2:(fH k bss[k] σ2).1≠0→putL (fR 0 bss) σ=fH k bss[k] σ2:=fun hne=>by
    have e:fR 0 bss=fR 0 (bss.take (k+1))++fR (0+(bss.take (k+1)).length) (bss.drop (k+1)):=by rw [← aCG,dG]
    rw [e,qK]
    unfold DS.and
    rw [hs1,if_neg hne,if_neg hne]
   generalize bss[k]=b at *
   refine W.k ?_
   refine aF hpt ?_
   rintro _ _ ⟨rfl,Hd2,hD2,rfl⟩
   by_cases h0:(fH k b σ2).1=0
   ·rw [if_pos h0] at hs1
    refine W.k ?_
    refine aQ.mk (k+1,(fH k b σ2).2,Hd2) ?_
    exact⟨h,hD2,hs1⟩
   ·have he:=hs2 h0
    have hwd:iW bss σ=fH k b σ2:=by
     unfold iW
     show (if (putL (fR 0 bss) σ).1=0 then _ else _)=_
     rw [he,if_neg h0]
    rw [hwd]
    refine W.k ?_
    refine Fin.to ((fp,cl (cA d tr s bk p t kind (.slice ba bss.length bc) lv cnt Lv ev tv) 297)::(Hd2++(Hv++Ht))) ?_
    exact F.f1 ⟨rfl,Hd2,hD2,rfl⟩
  ·have hkn:k=bss.length:=oQ
   rw [hkn,bN] at hp
   subst hkn
   refine W.k ?_
   refine bT.mk (σ2,Hd) ?_
   exact⟨hD,hp⟩
 rintro⟨σ2,Hd⟩ ⟨hD,hp⟩
 dsimp only at hD hp ⊢
 have hwd:iW bss σ=feS σ2:=by
  unfold iW
  show (if (putL (fR 0 bss) σ).1=0 then _ else _)=_
  rw [hp];rfl
 have hfe:=aBE hD
 rw [hwd]
 refine W.k ?_
 refine aF hfe ?_
 rintro _ Hd2 ⟨rfl,hD2⟩
 refine W.k ?_
 refine Fin.to ((fp,cl (cA d tr s bk p t kind (.slice ba bss.length bc) lv cnt Lv ev tv) 297)::(Hd2++(Hv++Ht))) ?_
 exact F.f1 ⟨rfl,Hd2,hD2,rfl⟩
theorem aFD{fp d tr s bk p t:Nat}(h:Gm.Ok p t){kind cnt:Int}{bv lv Lv ev tv:Value}{σ:Dv}{Hd:Hp}(hD:fD d σ Hd)(h8:σ.ws.length%8=0)(o0:One bv)(o1:One lv)(o2:One Lv)(o3:One ev)(o4:One tv) :
  Tri prog 184 [ptv fp] ((fp,cl (cA d tr s bk p t kind bv lv cnt Lv ev tv) 297)::Hd) (fun _=>True)
  (fun r H=>r=.int .i64 (gB (Gm.leaves p) (1+t) σ).1∧∃ Hd',fD d (gB (Gm.leaves p) (1+t) σ).2 Hd'∧H=(fp,cl (cA d tr s bk p t kind bv lv cnt Lv ev tv) 297)::Hd'):=by
 refine Tri.mk func184 rfl ntmps184 rfl fun w hw=>?_
 have ht:=h.2.2.2
 have hsc:=aHR (tr:=tr) (s:=s) (bk:=bk) h hD h8 (1+t) oQ
 rw [show ((1+t:Nat):Int)=1+(t:Int) by omega] at hsc
 have hl3:(cA d tr s bk p t kind bv lv cnt Lv ev tv).length=13:=rfl
 refine W.k ?_
 (refine SW.l [11] [0,1,2,3,4,5,6,7,8,9,10] ?_;refine bO 11 ?_)
 refine aF hsc ?_
 rintro _ H1 ⟨rfl,hD1⟩
 (refine SL.l [12,13] ?_)
 refine W.k ?_
 refine Fin.to ((fp,cl (cA d tr s bk p t kind bv lv cnt Lv ev tv) 297)::H1) ?_
 exact F.f1 ⟨rfl,H1,hD1,rfl⟩
theorem aJr{fp d tr s bk p t:Nat}{kind cnt:Int}{bv lv Lv ev tv:Value}{σ:Dv}{r:Rg}{Hd:Hp}(hD:fD d σ Hd)(hr:r.Ok)(hlt:r.c<18446744073709551615)(o0:One bv)(o1:One lv)(o2:One Lv)(o3:One ev)(o4:One tv) :
  Tri prog 182 [ptv fp] ((fp,cl (cA d tr s bk p t kind bv lv cnt Lv ev tv) 297)::(tr,cl (trc d r) 201)::Hd) (fun _=>True)
  (fun v H=>v=.int .i64 (gG (σ,r)).1∧∃ Hd',fD d (gG (σ,r)).2.1 Hd'∧H=(fp,cl (cA d tr s bk p t kind bv lv cnt Lv ev tv) 297)::(tr,cl (trc d (gG (σ,r)).2.2) 201)::Hd'):=by
 refine Tri.mk func182 rfl ntmps182 rfl fun w hw=>?_
 have hrd:=zD tr d r hr
 have hc0:=hr.c0
 have hr2:({ r with c:=r.c+1 }:Rg).Ok:=⟨hr.len,by show 0≤r.c+1;omega,by show r.c+1≤_;omega⟩
 have hst:=aKK tr d r { r with c:=r.c+1 } hr hr2 hD
 have hl:=nQ hr
 have hl2:=nQ hr2
 haveI i1:U64 r.c (UInt64.ofNat r.c.toNat):=⟨by rw [aW];omega⟩
 have e1:(((UInt64.ofNat r.c.toNat+1).toNat:Nat):Int)=r.c+1:=by
  rw [gT,aW,show (1:UInt64).toNat=1 from rfl];omega
 refine W.k ?_
 refine W.cw hrd ?_;intro b_
 rw [e1,show (rgc r).set 0 (.int .u64 (r.c+1))=rgc { r with c:=r.c+1 } from rfl]
 have eb:gG (σ,r)=(qO σ r { r with c:=r.c+1 },sE σ r { r with c:=r.c+1 },oI σ r { r with c:=r.c+1 }):=rfl
 rw [eb]
 generalize ({ r with c:=r.c+1 }:Rg)=r2 at *
 (refine SW.l [6] [0,1,2,3,4,5] ?_;refine bO 6 ?_)
 refine aF hst ?_
 rintro _ _ ⟨rfl,H2,rfl,hD2⟩
 (refine SL.l [7,8] ?_)
 refine W.k ?_
 refine Fin.to ((fp,cl (cA d tr s bk p t kind bv lv cnt Lv ev tv) 297)::(tr,cl (trc d (oI σ r r2)) 201)::H2) ?_
 exact F.f1 ⟨rfl,H2,hD2,rfl⟩
def aCA(β:Bk)(bss:List (List UInt8)):Bk:=(β.adds (tB bss)).adds (vE (eX bss) (dep (eX bss).length))
theorem aFx(l:List (List UInt8))(b:List UInt8):tB (l++[b])=tB l++[fJ l.length b]:=by unfold tB;rw [rO]
theorem aCS(l:List (List UInt8))(b:List UInt8):eX (l++[b])=eX l++[Sha.sum (fJ l.length b)]:=by unfold eX;rw [rO]
theorem aA6{fp d tr s bk tb p t:Nat}(h:Gm.Ok p t){kind cnt:Int}{bv lv Lv ev tv:Value}{bss:List (List UInt8)}{β:Bk}{Hk Hb:Hp}(hK:eV bk tb β Hk)(hB:Bls bv bss Hb)(o1:One lv)(o2:One Lv)(o3:One ev)(o4:One tv)(hn:bss.length=Gm.leaves p)(hb:∀ b∈bss,b.length=256) :
  Tri prog 229 [ptv fp] ((fp,cl (cA d tr s bk p t kind bv lv cnt Lv ev tv) 297)::(Hk++Hb)) (fun _=>True)
  (fun v H=>∃ tp be Ht Hk',v=.tuple #[ptv tp,.slice (some ⟨be,0,none⟩) (Gm.sealed p) (Gm.sealed p)]∧H=(fp,cl (cA d tr s bk p t kind bv lv cnt Lv ev tv) 297)::(be,cl (uv (uT ((bss.drop 1).take (Gm.epochs p)).flatten (Gm.sealed p))) 33)::(Ht++(Hk'++Hb)) ∧
   rR tp bk (eX bss) Ht∧eV bk tb (aCA β bss) Hk'):=by
 obtain⟨vs,Hv,Ht,hS,hR,rfl⟩:=hB
 have hbo:=hS.isOne
 have hvl:=hR.1
 obtain⟨ba,bl,bc,rfl,hbl⟩:=hS.form
 rw [Nat.mul_one,hvl] at hbl
 subst hbl
 have hlc:bss.length≤bc:=by
  rcases hS with ⟨hz,hz2,-⟩|⟨bb,len,cap,junk,hz,hxl,hj,hlc,-⟩
  ·simp only [Value.slice.injEq] at hz;omega
  ·simp only [Value.slice.injEq] at hz;omega
 have hll:=Gm.leaves_le h
 have hL:Gm.leaves p=1+Gm.epochs p+Gm.sealed p:=rfl
 have hep:=yY h
 have hRp:=hR.part 1 (Gm.epochs p)
 have hEp:=fun v=>aIS h v _ _ hRp (by rw [aG,bG];omega) (fun b hbm=>hb b (kN (dU hbm)))
 have hl1:1≤bss.length:=oQ
 refine Tri.mk func229 rfl ntmps229 rfl fun w hw=>?_
 refine W.j ?_
 refine bQ [0] Hk (fun x:Value×Hp×Hp=>[(4,x.1)]) (fun x=>x.2.1++x.2.2) (fun x=>Sl 55 32 x.1 (cbs (eX bss).flatten) x.2.2∧eV bk tb (β.adds (tB bss)) x.2.1) ?_ ?_
 ·refine W.k ?_
  refine bF [0,15,16] (fun x:Nat×Value×Hp×Hp=>[(4,x.2.1),(17,.int .i64 (x.1:Int))]) (fun x=>x.2.2.1++x.2.2.2) (fun x=>bss.length-x.1) (fun x=>x.1≤bss.length∧Sl 55 32 x.2.1 (cbs (eX (bss.take x.1)).flatten) x.2.2.2∧eV bk tb (β.adds (tB (bss.take x.1))) x.2.2.1) (0,.slice none 0 0,Hk,[]) ⟨Nat.zero_le _,by rw [cT];exact Sl.nil _ _,by rw [cT];exact hK⟩ ?_
  rintro⟨k,v2,Hk2,Hl2⟩ ⟨hk,hS2,hK2⟩
  dsimp only at hk hS2 hK2 ⊢
  have hS21:=hS2.isOne
  by_cases hkn:k<bss.length
  ·obtain⟨u,hu1,hu2⟩:=hR.2 k _ (aA hkn)
   have hbl:=hb _ (cE hkn)
   have htl:(bss.take k).length=k:=by rw [aG];omega
   have hts:bss.take (k+1)=bss.take k++[bss[k]]:=by rw [aZ,aA hkn];rfl
   have hls:tB (bss.take (k+1))=tB (bss.take k)++[fJ k bss[k]]:=by rw [hts,aFx,htl]
   have hss:eX (bss.take (k+1))=eX (bss.take k)++[Sha.sum (fJ k bss[k])]:=by rw [hts,aCS,htl]
   have hfl:=dI (L:=eX (bss.take k)) (nP _)
   rw [jL,htl] at hfl
   rcases hS with ⟨hz,hz2,-⟩|⟨bb,len,cap,junk,hz,hxl,hj,hlc2,rfl⟩
   ·simp only [Value.slice.injEq] at hz;omega
   simp only [Value.slice.injEq] at hz
   obtain⟨rfl,rfl,rfl⟩:=hz
   have hv:(vs++junk)[k]?=some u:=by rw [aL oQ];exact hu1
   have huo:=hu2.one
   have hlf:=aGC hK2 k u bss[k] oQ
   rw [show (β.adds (tB (bss.take k))).add (fJ k bss[k])=β.adds (tB (bss.take (k+1))) by rw [hls];exact Bk.adds_one ..] at hlf
   have h32:(Sha.sum (fJ k bss[k])).length=32:=Sha.sum_len _
   generalize Sha.sum (fJ k bss[k])=y at *
   have hb1:=b1d h32
   have hc:=lV h32
   refine W.k ?_
   refine aF hlf ?_ (hpre:=fun w2 hs=>hu2.rd (Hc:=Hk2) hs)
   rintro _ Hk3 ⟨rfl,hK3⟩
   refine W.k fun b_=>?_
   refine W.ap (ys:=cbs y) (mm:=1) hS2 (fun w2 hs=>(Sl.own 55 32 b_ (xs:=cbs y) hc).srcAt hs inferInstance) (fun v3 H3 h3=>?_) (hys:=hc) (hbytes:=by rw [hc,aI,hfl];omega)
   have h31:=h3.isOne
   rw [show cbs (eX (bss.take k)).flatten++cbs y=cbs (eX (bss.take k)++[y]).flatten by simp,← hss] at h3
   refine W.k ?_
   refine aQ.mk (k+1,v3,Hk3,H3) ?_
   exact⟨hkn,h3,hK3⟩
  ·have hk2:k=bss.length:=oQ
   rw [hk2,bN] at hS2 hK2
   subst hk2
   refine W.k ?_
   refine bT.mk (v2,Hk2,Hl2) ?_
   exact⟨hS2,hK2⟩
 rintro⟨v2,Hk2,Hl2⟩ ⟨hS2,hK2⟩
 dsimp only at hS2 hK2 ⊢
 have hS21:=hS2.isOne
 refine W.k ?_
 refine aF (aPc hK2 v2 (eX bss) (nP _) (by rw [jL];omega) (by rw [jL];omega)) ?_ (hpre:=fun w2 hs=>Rd.own (Hc:=Hk2) hS2 hs inferInstance)
 rintro _ _ ⟨tp,Htr,Hk3,rfl,rfl,hT,hK3⟩
 refine W.k ?_
 refine W.cw hep ?_
 (refine SW.l [12] [0,1,2,3,4,5,6,7,8,9,10] ?_;refine dZ 11 rfl (aKg (lo:=none) (hi:=none) rfl rfl rfl rfl oQ oQ) ?_;refine bO 12 ?_)
 rw [dA]
 refine eJ (hEp _) rfl ?_ (hpre:=fun w2 hs=>by
  have:=(Rd.own (Hc:=Ht) hS hs inferInstance).cutN bc 1 (1+Gm.epochs p) (bc-1) oQ oQ oQ oQ
  rw [dA,Nat.mul_one,Nat.mul_one] at this
  exact this)
 rintro _ _ ⟨be,rfl,rfl⟩
 (refine SL.l [13,14,15,16,17,18] ?_)
 refine W.k ?_
 refine Fin.to ((fp,cl (cA d tr s bk p t kind (.slice ba bss.length bc) lv cnt Lv ev tv) 297)::(be,cl (uv (uT ((bss.drop 1).take (Gm.epochs p)).flatten (Gm.sealed p))) 33)::(Htr++(Hk3++(Hv++Ht)))) ?_
 exact F.f2 ⟨tp,be,Htr,Hk3,rfl,rfl,hT,hK3⟩
theorem aB4(c:Int){x:List UInt8}(h:x.length=32):bX (fun i=>[(0,1),(1,32)][i]?) ([.int .u64 0]++List.replicate 32 (.int .u8 0)) [(0,.int .u64 c),(1,dgV x)]=some (rgc { c:=c,root:=x }):=
 uO (off:=0) (n:=1) ([.int .u64 c]++List.replicate 32 (.int .u8 0)) rfl rfl (by simp) rfl (uO (off:=1) (n:=32) (rgc { c:=c,root:=x }) rfl (by simp [vl,h]) (by simp) (by simp [vl,h,rgc,cbs,bv]) rfl)
def rC(β:Bk)(bss:List (List UInt8)):Bk:=(aCA β bss).add (nF (eX bss).length (aEC (eX bss)))
theorem aJw{fp d tr s bk tb p t:Nat}(h:Gm.Ok p t){kind cnt:Int}{bv lv Lv ev tv:Value}{bss:List (List UInt8)}{β:Bk}{σ:Dv}{r:Rg}{Hd Hk Hb:Hp}(hD:fD d σ Hd)(hr:r.Ok)(hlt:r.c<18446744073709551615)(hK:eV bk tb β Hk)(hB:Bls bv bss Hb)(o1:One lv)(o2:One Lv)(o3:One ev)(o4:One tv)(hn:bss.length=Gm.leaves p)(hb:∀ b∈bss,b.length=256) :
  Tri prog 185 [ptv fp] ((fp,cl (cA d tr s bk p t kind bv lv cnt Lv ev tv) 297)::(tr,cl (trc d r) 201)::(Hd++(Hk++Hb))) (fun _=>True)
  (fun v H=>v=.int .i64 (kB ⟨r.c+1,fQ bss⟩ (σ,r)).1∧∃ Hd' Hk' Hx,fD d (kB ⟨r.c+1,fQ bss⟩ (σ,r)).2.1 Hd'∧eV bk tb (rC β bss) Hk' ∧
   H=(fp,cl (cA d tr s bk p t kind bv lv cnt Lv ev tv) 297)::(tr,cl (trc d (kB ⟨r.c+1,fQ bss⟩ (σ,r)).2.2) 201)::(Hd'++(Hk'++(Hb++Hx)))):=by
 have hbo:One bv:=by obtain⟨vs,Hv,Ht,hS,hR,rfl⟩:=hB;exact hS.isOne
 refine Tri.mk func185 rfl ntmps185 rfl fun w hw=>?_
 have hpl:=aA6 (fp:=fp) (d:=d) (tr:=tr) (s:=s) (kind:=kind) (cnt:=cnt) h hK hB o1 o2 o3 o4 hn hb
 have hll:=Gm.leaves_le h
 have hrd:=zD tr d r hr
 have hc0:=hr.c0
 have hsl:(eX bss).length≤1024:=by rw [jL];omega
 have hr2:({ c:=r.c+1,root:=fQ bss }:Rg).Ok:=⟨Sha.sum_len _,by show 0≤r.c+1;omega,by show r.c+1≤_;omega⟩
 have hst:=aKK tr d r { c:=r.c+1,root:=fQ bss } hr hr2 hD
 have hl:=nQ hr
 haveI i1:U64 r.c (UInt64.ofNat r.c.toNat):=⟨by rw [aW];omega⟩
 have e1:(((UInt64.ofNat r.c.toNat+1).toNat:Nat):Int)=r.c+1:=by
  rw [gT,aW,show (1:UInt64).toNat=1 from rfl];omega
 have eb:kB ⟨r.c+1,fQ bss⟩ (σ,r)=(qO σ r { c:=r.c+1,root:=fQ bss },sE σ r { c:=r.c+1,root:=fQ bss },oI σ r { c:=r.c+1,root:=fQ bss }):=rfl
 rw [eb]
 have hrl:(fQ bss).length=32:=Sha.sum_len _
 have hroot:fU (eX bss)=fQ bss:=rfl
 have hbd:bX (fun i=>[(0,1),(1,32)][i]?) ([.int .u64 0]++List.replicate 32 (.int .u8 0)) [(0,.int .u64 (((UInt64.ofNat r.c.toNat+1).toNat:Nat):Int)),(1,dgV (fQ bss))]=some (rgc { c:=r.c+1,root:=fQ bss }):=by rw [e1];exact aB4 _ hrl
 refine W.k ?_
 refine aF hpl ?_
 rintro _ _ ⟨tp,be,Ht,Hk2,rfl,rfl,hT,hK2⟩
 have hro:=aDS hT hK2 hsl
 rw [hroot] at hro
 refine W.k ?_
 (refine SW.l [16] [0,1,2,3,4,5,6,7,8,9,13] ?_;refine bA 10 ?_)
 refine W.cq hrd ?_
 (refine SL.l [11,12] ?_;refine bA 14 ?_)
 refine aF hro ?_
 rintro _ _ ⟨Hk3,rfl,rfl,hK3⟩
 (refine SL.l [15] ?_;refine bO 16 ?_)
 refine aF hst ?_
 rintro _ _ ⟨rfl,H2,rfl,hD2⟩
 (refine SL.l [17,18] ?_)
 refine W.k ?_
 refine Fin.to ((fp,cl (cA d tr s bk p t kind bv lv cnt Lv ev tv) 297)::(tr,cl (trc d (oI σ r { c:=r.c+1,root:=fQ bss })) 201)::(H2++(Hk3++(Hb++[])))) ?_
 exact F.f1 ⟨rfl,H2,Hk3,[],hD2,hK3,rfl⟩
def kV(s:Sr)(e:UInt64)(n:Nat):Sr:=(List.range n).foldl (fun s k=>s.hid (e,k) (List.replicate 256 0)) s
theorem aD0(s:Sr)(e:UInt64)(n:Nat):kV s e (n+1)=(kV s e n).hid (e,n) (List.replicate 256 0):=by unfold kV;rw [bV,gX];rfl
theorem Bls.one{v:Value}{bss:List (List UInt8)}{H:Hp}(h:Bls v bss H):One v:=by obtain⟨vs,Hv,Ht,hS,hR,rfl⟩:=h;exact hS.isOne
theorem aGF{d tr s bk p t:Nat}(h:Gm.Ok p t){σ:Dv}{Hd:Hp}(hD:fD d σ Hd)(hlen:σ.len=256*Gm.total p t) :
  Tri prog 178 [yD d tr s bk p t] Hd (fun _=>True) (fun v H=>v=.int .i64 0∧H=Hd):=by
 refine Tri.mk func178 rfl ntmps178 rfl fun w hw=>?_
 have hck:=qG h
 have hln:=aCm hD
 have htt:=aFs h
 have htl:=Gm.total_le2 h
 have hby:=tP (k:=Gm.total p t) oQ
 rw [hlen] at hln
 generalize Gm.total p t=m at *
 refine W.k fun b_=>?_
 (refine SW.l [2,10,11] [0,1] ?_;refine bO 2 ?_)
 refine W.cq hck ?_
 (refine SL.l [3,4,5,6,8,9] ?_;(first|refine dB 7 rfl ?_;(first|refine dB 10 rfl ?_;(first|refine dB 11 rfl ?_;refine SG.l [12,13,14,15] ?_|refine bO 11 ?_)|refine bO 10 ?_)|refine bA 7 ?_))
 refine aF hln ?_
 rintro _ Hd ⟨rfl,rfl⟩
 (refine bC [] ?_;(first|refine dB 10 rfl ?_;(first|refine dB 11 rfl ?_;refine SG.l [12,13,14,15] ?_|refine bO 11 ?_)|refine bO 10 ?_))
 refine W.cq htt ?_
 (refine bC [] ?_;(first|refine dB 11 rfl ?_;refine SG.l [12,13,14,15] ?_|refine bO 11 ?_))
 refine W.cq hby ?_
 (refine SL.l [12,13,14,15] ?_)
 refine W.k ?_
 refine Fin.to Hd ?_
 exact F.f1 ⟨rfl,rfl⟩
theorem aLp{fp d tr sp bk p t c b n:Nat}{ws:List (List UInt8)}(h:Gm.Ok p t){kind cnt:Int}{bv lv Lv ev tv:Value}{s:Sr}{Hs:Hp}(hS:lU sp c b n ws s Hs)(hK:kS n ws)(o0:One bv)(o1:One lv)(o2:One Lv)(o3:One ev)(o4:One tv)(e:UInt64) :
  Tri prog 180 [ptv fp,eG e] ((fp,cl (cA d tr sp bk p t kind bv lv cnt Lv ev tv) 297)::Hs) (fun _=>True)
  (fun v H=>v=.int .i64 0∧∃ bv' Hs' Hb,lU sp c b n ws (kV s e (Gm.sealed p)) Hs'∧Bls bv' (fG p t (dM (Aes.enc ws n)) e) Hb∧H=(fp,cl (cA d tr sp bk p t kind bv' lv cnt Lv ev tv) 297)::(Hs'++Hb)):=by
 refine Tri.mk func180 rfl ntmps180 rfl fun w hw=>?_
 have hsb:=aF0 h
 have hse:=uX h
 have hep:=yY h
 have hsl:=Gm.sealed_le h
 have hel:=Gm.epochs_le h
 have hbk:=fun k (hk:k<Gm.epochs p) v=>aAB h k hk v (List.replicate (Gm.sealed p) e) aS
 have hset:∀ v v':Value,(cA d tr sp bk p t kind v lv cnt Lv ev tv).set 7 v'=cA d tr sp bk p t kind v' lv cnt Lv ev tv:=fun v v'=>rfl
 have hbln:fG p t (dM (Aes.enc ws n)) e=(iE p t::(List.range (Gm.epochs p)).map fun k=>epB k (List.replicate (Gm.sealed p) e))++(List.range (Gm.sealed p)).map fun k=>dM (Aes.enc ws n) e k (List.replicate 256 0):=rfl
 rw [hbln]
 clear hbln
 generalize Gm.sealed p=m at *
 generalize Gm.epochs p=q at *
 refine W.k ?_
 refine aF hsb ?_
 rintro _ _ ⟨b1,rfl,rfl⟩
 have hb29:bX (fun i=>some (i*1,1)) (zs [.slice none 0 0] 1) [(0,.slice (some ⟨b1,0,none⟩) 256 256)]=some [.slice (some ⟨b1,0,none⟩) 256 256]:=rfl
 refine W.k fun b_=>?_
 rw [hset]
 refine W.cq hse ?_
 refine W.j fun b_=>?_
 rename_i b2
 rw [show zs [Value.int .u64 0] m=uv (List.replicate 0 e)++List.replicate (m-0) (.int .u64 0) by rw [lH];rfl]
 generalize b_=b3 at *
 refine SW.cut [0,1,7] [b3] (fun _:Unit=>[]) (fun _=>[(b3,cl (uv (List.replicate m e)) 33)]) (fun _=>True) ?_ ?_
 ·refine W.k ?_
  refine cK [0,1,7,40] [b3] (fun k:Nat=>[(41,.int .i64 (k:Int))]) (fun k=>[(b3,cl (uv (List.replicate k e)++List.replicate (m-k) (.int .u64 0)) 33)]) (fun k=>m-k) (fun k=>k≤m) 0 (Nat.zero_le _) ?_
  intro k hk
  by_cases hkm:k<m
  ·have hlt:k<(uv (List.replicate k e)++List.replicate (m-k) (Value.int .u64 0)).length:=by rw [aB,eR,aS,aS];omega
   have hf:=aAT (uv (List.replicate k e)) (m-(k+1)) (.int .u64 0) (eG e)
   rw [show m-(k+1)+1=m-k by omega,eR,aS,show uv (List.replicate k e)++[eG e]=uv (List.replicate (k+1) e) by rw [pZ];simp] at hf
   refine W.k ?_
   rw [hf]
   refine aQ.mk (k+1) ?_
   omega
  ·have:k=m:=oQ
   subst this
   rw [dW,List.replicate_zero,aH]
   refine W.k ?_
   refine bT.mk () ?_
   trivial
 rintro _ -
 refine W.k ?_
 refine W.cq hep ?_
 refine W.j ?_
 refine bQ [0,1,7] [(fp,cl (cA d tr sp bk p t kind (.slice (some ⟨b2,0,none⟩) 1 1) lv cnt Lv ev tv) 297),(b2,cl [.slice (some ⟨b1,0,none⟩) 256 256] 23),(b1,cl (cbs (iE p t)) 5)] (fun _:Value×Hp=>[]) (fun x=>(fp,cl (cA d tr sp bk p t kind x.1 lv cnt Lv ev tv) 297)::x.2) (fun x=>Bls x.1 (iE p t::(List.range q).map fun k=>epB k (List.replicate m e)) x.2) ?_ ?_
 ·have hE0:Sl 23 1 (.slice (some ⟨b2,0,none⟩) 1 1) [.slice (some ⟨b1,0,none⟩) 256 256] [(b2,cl [.slice (some ⟨b1,0,none⟩) 256 256] 23)]:=Sl.own _ 1 b2 (len:=1) rfl
  have hR0:RB [(b1,cl (cbs (iE p t)) 5)] [.slice (some ⟨b1,0,none⟩) 256 256] (iE p t::(List.range 0).map fun k=>epB k (List.replicate m e)):=(RB.nil _).snoc (RdH.of (Sl.own 5 1 b1 (len:=256) (xs:=cbs (iE p t)) (by rw [aI,zI])))
  refine W.k ?_
  refine bF [0,1,7,54] (fun x:Nat×Value×List Value×Hp×Hp=>[(55,.int .i64 (x.1:Int))]) (fun x=>(fp,cl (cA d tr sp bk p t kind x.2.1 lv cnt Lv ev tv) 297)::(x.2.2.2.1++x.2.2.2.2)) (fun x=>q-x.1) (fun x=>x.1≤q∧Sl 23 1 x.2.1 x.2.2.1 x.2.2.2.1∧RB x.2.2.2.2 x.2.2.1 (iE p t::(List.range x.1).map fun k=>epB k (List.replicate m e))) (0,.slice (some ⟨b2,0,none⟩) 1 1,[.slice (some ⟨b1,0,none⟩) 256 256],[(b2,cl [.slice (some ⟨b1,0,none⟩) 256 256] 23)],[(b1,cl (cbs (iE p t)) 5)]) ⟨Nat.zero_le _,hE0,hR0⟩ ?_
  rintro⟨j,v2,vs,Hv,Ht⟩ ⟨hj,hS2,hR2⟩
  dsimp only at hj hS2 hR2 ⊢
  have hS21:=hS2.isOne
  have hvl:vs.length=1+j:=by rw [hR2.1];simp;omega
  have hl3:(cA d tr sp bk p t kind v2 lv cnt Lv ev tv).length=13:=rfl
  by_cases hjq:j<q
  ·refine W.k ?_
   refine aF (hbk j hjq (.slice (some ⟨b3,0,none⟩) m m)) ?_ (hpre:=fun w2 hs=>Rd.own (Hc:=[]) (Sl.own 33 1 b3 (len:=m) (xs:=uv (List.replicate m e)) (by rw [eR,aS,Nat.mul_one])) hs inferInstance)
   rintro _ _ ⟨b5,rfl,rfl⟩
   have hb78:bX (fun i=>some (i*1,1)) (zs [.slice none 0 0] 1) [(0,.slice (some ⟨b5,0,none⟩) 256 256)]=some [.slice (some ⟨b5,0,none⟩) 256 256]:=rfl
   refine W.k fun b_=>?_
   refine W.ap hS2 (ys:=[.slice (some ⟨b5,0,none⟩) 256 256]) (mm:=1) (fun w2 hs=>(Sl.own 23 1 b_ (xs:=[.slice (some ⟨b5,0,none⟩) 256 256]) rfl).srcAt hs inferInstance) (fun v3 H3 h3=>?_) (hys:=rfl) (hbytes:=by rw [hvl];simp;omega)
   have h31:=h3.isOne
   refine W.k ?_
   rw [hset]
   refine aQ.mk (j+1,v3,vs++[.slice (some ⟨b5,0,none⟩) 256 256],H3,(b5,cl (cbs (epB j (List.replicate m e))) 5)::Ht) ?_
   refine⟨hjq,h3,?_⟩
   show RB _ _ (iE p t::(List.range (j+1)).map fun k=>epB k (List.replicate m e))
   rw [bV,aV,← eE]
   exact (hR2.mono fun x hx=>cX _ hx).snoc ((RdH.of (Sl.own 5 1 b5 (len:=256) (xs:=cbs (epB j (List.replicate m e))) (by rw [aI,nA]))).mono fun x hx=>by simp at hx;subst hx;simp)
  ·have:j=q:=oQ
   subst this
   refine W.k ?_
   refine bT.mk (v2,Hv++Ht) ?_
   exact⟨vs,Hv,Ht,hS2,hR2,rfl⟩
 rintro⟨v2,Hb2⟩ hB2
 dsimp only at hB2 ⊢
 have hB21:=hB2.one
 refine W.j ?_
 have hAl:(iE p t::(List.range q).map fun k=>epB k (List.replicate m e)).length≤1000000:=by simp;omega
 generalize (iE p t::(List.range q).map fun k=>epB k (List.replicate m e))=A at *
 refine bQ [] ((fp,cl (cA d tr sp bk p t kind v2 lv cnt Lv ev tv) 297)::(Hs++Hb2)) (fun _:Value×Hp×Hp=>[]) (fun x=>(fp,cl (cA d tr sp bk p t kind x.1 lv cnt Lv ev tv) 297)::(x.2.1++x.2.2)) (fun x=>lU sp c b n ws (kV s e m) x.2.1∧Bls x.1 (A++(List.range m).map fun k=>dM (Aes.enc ws n) e k (List.replicate 256 0)) x.2.2) ?_ ?_
 ·obtain⟨vs,Hv,Ht,hS2,hR2,rfl⟩:=hB2
  refine W.k ?_
  refine bF [0,1,84] (fun x:Nat×Value×List Value×Hp×Hp×Hp=>[(85,.int .i64 (x.1:Int))]) (fun x=>(fp,cl (cA d tr sp bk p t kind x.2.1 lv cnt Lv ev tv) 297)::(x.2.2.2.2.2++(x.2.2.2.1++x.2.2.2.2.1))) (fun x=>m-x.1) (fun x=>x.1≤m∧Sl 23 1 x.2.1 x.2.2.1 x.2.2.2.1∧RB x.2.2.2.2.1 x.2.2.1 (A++(List.range x.1).map fun k=>dM (Aes.enc ws n) e k (List.replicate 256 0))∧lU sp c b n ws (kV s e x.1) x.2.2.2.2.2) (0,v2,vs,Hv,Ht,Hs) ⟨Nat.zero_le _,hS2,by rw [List.range_zero,mX,aH];exact hR2,hS⟩ ?_
  rintro⟨j,v2,vs,Hv,Ht,Hs⟩ ⟨hj,hS2,hR2,hS⟩
  dsimp only at hj hS2 hR2 hS ⊢
  have hS21:=hS2.isOne
  have hvl:vs.length=A.length+j:=by rw [hR2.1,aB,aD,dY]
  by_cases hjm:j<m
  ·have hbl:=aKZ hS hK e j oQ
   rw [← aD0] at hbl
   have hxl:=mQ (E:=Aes.enc ws n) (fun x=>Aes.enc_len ..) e j (List.replicate 256 0)
   rw [aS] at hxl
   have hrs:A++(List.range (j+1)).map (fun k=>dM (Aes.enc ws n) e k (List.replicate 256 0))=(A++(List.range j).map fun k=>dM (Aes.enc ws n) e k (List.replicate 256 0))++[dM (Aes.enc ws n) e j (List.replicate 256 0)]:=by rw [bV,aV,aM];rfl
   generalize dM (Aes.enc ws n) e j (List.replicate 256 0)=y at *
   refine W.k ?_
   refine aF hbl ?_
   rintro _ _ ⟨b5,Hs2,rfl,rfl,hS3⟩
   have hb78:bX (fun i=>some (i*1,1)) (zs [.slice none 0 0] 1) [(0,.slice (some ⟨b5,0,none⟩) 256 256)]=some [.slice (some ⟨b5,0,none⟩) 256 256]:=rfl
   refine W.k fun b_=>?_
   refine W.ap hS2 (ys:=[.slice (some ⟨b5,0,none⟩) 256 256]) (mm:=1) (fun w2 hs=>(Sl.own 23 1 b_ (xs:=[.slice (some ⟨b5,0,none⟩) 256 256]) rfl).srcAt hs inferInstance) (fun v3 H3 h3=>?_) (hys:=rfl) (hbytes:=by rw [hvl];simp;omega)
   have h31:=h3.isOne
   refine W.k ?_
   rw [hset]
   refine aQ.mk (j+1,v3,vs++[.slice (some ⟨b5,0,none⟩) 256 256],H3,(b5,cl (cbs y) 5)::Ht,Hs2) ?_
   refine⟨hjm,h3,?_,hS3⟩
   show RB _ _ (A++(List.range (j+1)).map fun k=>dM (Aes.enc ws n) e k (List.replicate 256 0))
   rw [hrs]
   exact (hR2.mono fun x hx=>cX _ hx).snoc ((RdH.of (Sl.own 5 1 b5 (len:=256) (xs:=cbs y) (by rw [aI,hxl]))).mono fun x hx=>by simp at hx;subst hx;simp)
  ·have:j=m:=oQ
   subst this
   refine W.k ?_
   refine bT.mk (v2,Hs,Hv++Ht) ?_
   exact⟨hS,vs,Hv,Ht,hS2,hR2,rfl⟩
 rintro⟨v3,Hs3,Hb3⟩ ⟨hS3,hB3⟩
 dsimp only at hS3 hB3 ⊢
 have hB31:=hB3.one
 refine W.k ?_
 refine Fin.to ((fp,cl (cA d tr sp bk p t kind v3 lv cnt Lv ev tv) 297)::(Hs3++Hb3)) ?_
 exact F.f1 ⟨rfl,v3,Hs3,Hb3,hS3,hB3,rfl⟩
def kP(r:Rg):UInt64:=UInt64.ofNat (r.c+2).toNat
abbrev pA(p t n:Nat)(ws:List (List UInt8))(r:Rg):List (List UInt8):=fG p t (dM (Aes.enc ws n)) (kP r)
theorem nT(p t:Nat)(X:UInt64→Nat→List UInt8→List UInt8)(e:UInt64):(fG p t X e).length=Gm.leaves p:=by
 unfold fG Gm.leaves
 rw [aX,aB,aD,aD,dY,dY]
 omega
theorem pN{p t:Nat}{E:List UInt8→List UInt8}(hE:∀ x,(E x).length=16)(e:UInt64):∀ b∈fG p t (dM E) e,b.length=256:=fun b hb=>by
 unfold fG at hb
 rcases bZ.1 hb with rfl|hb
 ·exact zI _ _
 ·rcases bK.1 hb with hb|hb
  ·obtain⟨k,-,rfl⟩:=bH.1 hb;exact nA _ _
  ·obtain⟨k,-,rfl⟩:=bH.1 hb;rw [mQ hE,aS]
def pC(p:Nat)(σ:Dv)(r:Rg)(s:Sr):Sr:=if 18446744073709551613<r.c then s else if (gG (σ,r)).1=0 then kV s (kP r) (Gm.sealed p) else s
def xY(p t n:Nat)(ws:List (List UInt8))(σ:Dv)(r:Rg)(β:Bk):Bk:=
 if 18446744073709551613<r.c then β else if (gG.and (cQ p t (pA p t n ws r)).t (σ,r)).1=0 then rC β (pA p t n ws r) else β
section
variable (d tr sp bk tb p t c b n:Nat)(ws:List (List UInt8))(σ:Dv)(r:Rg)(s:Sr)(β:Bk)(fp b4 b5:Nat)
abbrev fmH(bv:Value)(r':Rg)(Hd Hs Hk Hb:Hp):Hp:=(fp,cl (cA d tr sp bk p t 0 bv (.slice none 0 0) 0 (.slice none 0 0) (.slice none 0 0) (.pointer none)) 297)::(b5,cl [ptv fp] 295)::(b4,cl [.int .u64 r.c] 33)::(tr,cl (trc d r') 201)::(Hd++(Hs++(Hk++Hb)))
def fmJ(i:Nat)(H:Hp):Prop:=∃ (σ':Dv) (r':Rg) (s':Sr) (β':Bk) (bv:Value) (Hd Hs Hk Hb:Hp),fD d σ' Hd∧lU sp c b n ws s' Hs∧eV bk tb β' Hk∧One bv∧H.Perm (fmH d tr sp bk p t r fp b4 b5 bv r' Hd Hs Hk Hb) ∧
 match i with
 | 0=>σ'=σ∧r'=r∧s'=s∧β'=β∧Hb=[]
 | 1=>gG (σ,r)=(0,(σ',r'))∧s'=s∧β'=β∧Hb=[]
 | 2=>gG (σ,r)=(0,(σ',r'))∧s'=kV s (kP r) (Gm.sealed p)∧β'=β∧Bls bv (pA p t n ws r) Hb
 | 3=>(∃ σ1,gG (σ,r)=(0,(σ1,r'))∧iW (pA p t n ws r) σ1=(0,σ'))∧s'=kV s (kP r) (Gm.sealed p)∧β'=β∧Bls bv (pA p t n ws r) Hb
 | 4=>(∃ σ1,gG (σ,r)=(0,(σ1,r'))∧cQ p t (pA p t n ws r) σ1=(0,σ'))∧s'=kV s (kP r) (Gm.sealed p)∧β'=β∧Bls bv (pA p t n ws r) Hb
 | _=>lD p t (dM (Aes.enc ws n)) (σ,r)=(0,(σ',r'))∧s'=pC p σ r s∧β'=xY p t n ws σ r β
def fmE(e:Int)(H:Hp):Prop:=∃ (σ':Dv) (r':Rg) (bv:Value) (Hd Hs Hk Hb:Hp),fD d σ' Hd∧lU sp c b n ws (pC p σ r s) Hs∧eV bk tb (xY p t n ws σ r β) Hk∧H.Perm (fmH d tr sp bk p t r fp b4 b5 bv r' Hd Hs Hk Hb)∧lD p t (dM (Aes.enc ws n)) (σ,r)=(e,(σ',r'))
end
theorem fY{H H':Hp} [hp:fA H H' []]:H.Perm H':=by have:=hp.perm;rwa [aH] at this
theorem TS.and_ne{a b:TS}{x:Dv×Rg}(h:(a x).1≠0):(a.and b) x=a x:=by unfold TS.and;rw [if_neg h]
theorem TS.and_eq{a b:TS}{x y:Dv×Rg}(h:a x=(0,y)):(a.and b) x=b y:=by unfold TS.and;rw [h];rfl
theorem DS.and_ne{a b:DS}{x:Dv}(h:(a x).1≠0):(a.and b) x=a x:=by unfold DS.and;rw [if_neg h]
theorem DS.and_eq{a b:DS}{x y:Dv}(h:a x=(0,y)):(a.and b) x=b y:=by unfold DS.and;rw [h];rfl
theorem aBq{α:Type}{x:Int×α}(h:x.1=0):x=(0,x.2):=by rw [← h]
theorem zW(x:Dv×Rg):(gG x).2.1.ws.length=x.1.ws.length:=by
 show (sE _ _ _).ws.length=_
 unfold sE
 split
 ·rfl
 ·split
  ·rfl
  ·exact aJG _
theorem aJq{x y:Dv×Rg}(h:gG x=(0,y)):y.2.c=x.2.c+1∧y.2.root=x.2.root:=by
 have h1:qO x.1 x.2 { x.2 with c:=x.2.c+1 }=0:=congrArg Prod.fst h
 have h2:oI x.1 x.2 { x.2 with c:=x.2.c+1 }=y.2:=congrArg (fun z=>z.2.2) h
 rw [← h2]
 unfold qO at h1
 unfold oI
 split at h1
 ·omega
 ·rename_i h3
  rw [if_neg h3]
  split at h1
  ·omega
  ·rename_i h4
   rw [if_neg h4,if_pos h1]
   exact⟨rfl,rfl⟩
section
variable {d tr sp bk tb p t c b n:Nat}{ws:List (List UInt8)}{σ:Dv}{r:Rg}{s:Sr}{β:Bk}{fp b4 b5:Nat}
theorem fm0(hr:r.Ok)(hc:r.c≤18446744073709551613):tK prog (.func (.func 182) [ptv fp].toArray [].toArray) (fmJ d tr sp bk tb p t c b n ws σ r s β fp b4 b5 0) (fmJ d tr sp bk tb p t c b n ws σ r s β fp b4 b5 1) (fmE d tr sp bk tb p t c b n ws σ r s β fp b4 b5):=by
 refine⟨_,[ptv fp],[],rfl,inferInstance,fun Hc hJ=>?_⟩
 obtain⟨σ',r',s',β',bv,Hd,Hs,Hk,Hb,hD,hS,hK,o0,hp,rfl,rfl,rfl,rfl,rfl⟩:=hJ
 refine ((Tri.perm hp ((aJr (fp:=fp) (tr:=tr) (s:=sp) (bk:=bk) (p:=p) (t:=t) (kind:=0) (cnt:=0) (bv:=bv) (lv:=.slice none 0 0) (Lv:=.slice none 0 0) (ev:=.slice none 0 0) (tv:=.pointer none) hD hr oQ o0 ⟨rfl⟩ ⟨rfl⟩ ⟨rfl⟩ ⟨rfl⟩).frame (r:=(b5,cl [ptv fp] 295)::(b4,cl [.int .u64 r'.c] 33)::(Hs++(Hk++[]))) fY (fun _ _ _=>trivial)))).mono ?_
 rintro v H ⟨H1,rfl,rfl,Hd',hD',rfl⟩
 by_cases h0:(gG (σ',r')).1=0
 ·refine .inl ⟨by rw [h0],(gG (σ',r')).2.1,(gG (σ',r')).2.2,s',β',bv,Hd',Hs,Hk,[],hD',hS,hK,o0,fY,aBq h0,rfl,rfl,rfl⟩
 ·refine .inr ⟨_,h0,rfl,(gG (σ',r')).2.1,(gG (σ',r')).2.2,bv,Hd',Hs,Hk,[],hD',?_,?_,fY,?_⟩
  ·unfold pC;rw [if_neg oQ,if_neg h0];exact hS
  ·unfold xY;rw [if_neg oQ,TS.and_ne h0,if_neg h0];exact hK
  ·unfold lD
   rw [if_neg (by show ¬ _<r'.c;omega)]
   exact TS.and_ne h0
theorem aHk{c0:Int}(h0:0≤c0)(h1:c0≤18446744073709551613):UInt64.ofNat c0.toNat+2=UInt64.ofNat (c0+2).toNat:=by
 apply tL.1
 rw [gT,aW,aW,show (2:UInt64).toNat=2 from rfl]
 omega
theorem aNz(h:Gm.Ok p t)(h0:0≤r.c)(h1:r.c≤18446744073709551613){bv:Value}{s:Sr}{Hs:Hp}(hS:lU sp c b n ws s Hs)(hK:kS n ws)(o0:One bv) :
  Tri prog 179 [ptv b5,ptv b4] ((fp,cl (cA d tr sp bk p t 0 bv (.slice none 0 0) 0 (.slice none 0 0) (.slice none 0 0) (.pointer none)) 297)::(b5,cl [ptv fp] 295)::(b4,cl [.int .u64 r.c] 33)::Hs) (fun _=>True)
  (fun v H=>v=.int .i64 0∧∃ bv' Hs' Hb,lU sp c b n ws (kV s (kP r) (Gm.sealed p)) Hs'∧Bls bv' (pA p t n ws r) Hb∧H=(fp,cl (cA d tr sp bk p t 0 bv' (.slice none 0 0) 0 (.slice none 0 0) (.slice none 0 0) (.pointer none)) 297)::(b5,cl [ptv fp] 295)::(b4,cl [.int .u64 r.c] 33)::(Hs'++Hb)):=by
 refine Tri.mk func179 rfl ntmps179 rfl fun w hw=>?_
 have hbl:=aLp (fp:=fp) (d:=d) (tr:=tr) (bk:=bk) (kind:=0) (cnt:=0) (bv:=bv) (lv:=.slice none 0 0) (Lv:=.slice none 0 0) (ev:=.slice none 0 0) (tv:=.pointer none) h hS hK o0 ⟨rfl⟩ ⟨rfl⟩ ⟨rfl⟩ ⟨rfl⟩ (kP r)
 haveI i1:U64 r.c (UInt64.ofNat r.c.toNat):=⟨by rw [aW];omega⟩
 haveI i2:U64 2 2:=⟨rfl⟩
 unfold kP at hbl ⊢
 unfold pA kP
 rw [← aHk h0 h1] at hbl ⊢
 refine W.k ?_
 refine aF hbl ?_
 rintro _ _ ⟨rfl,bv',Hs',Hb,hS',hB',rfl⟩
 refine W.k ?_
 refine Fin.to ((fp,cl (cA d tr sp bk p t 0 bv' (.slice none 0 0) 0 (.slice none 0 0) (.slice none 0 0) (.pointer none)) 297)::(b5,cl [ptv fp] 295)::(b4,cl [.int .u64 r.c] 33)::(Hs'++Hb)) ?_
 exact F.f1 ⟨rfl,bv',Hs',Hb,hS',hB',rfl⟩
theorem fm1(h:Gm.Ok p t)(hr:r.Ok)(hc:r.c≤18446744073709551613)(hK:kS n ws):tK prog (.func (.func 179) [].toArray [ptv b5,ptv b4].toArray) (fmJ d tr sp bk tb p t c b n ws σ r s β fp b4 b5 1) (fmJ d tr sp bk tb p t c b n ws σ r s β fp b4 b5 2) (fmE d tr sp bk tb p t c b n ws σ r s β fp b4 b5):=by
 refine⟨_,[],[ptv b5,ptv b4],rfl,inferInstance,fun Hc hJ=>?_⟩
 obtain⟨σ',r',s',β',bv,Hd,Hs,Hk,Hb,hD,hS,hB,o0,hp,hbm,rfl,rfl,rfl⟩:=hJ
 refine ((Tri.perm hp ((aNz (fp:=fp) (d:=d) (tr:=tr) (bk:=bk) (b4:=b4) (b5:=b5) (bv:=bv) h hr.c0 hc hS hK o0).frame (r:=(tr,cl (trc d r') 201)::(Hd++(Hk++[]))) fY (fun _ _ _=>trivial)))).mono ?_
 rintro v H ⟨H1,rfl,rfl,bv',Hs',Hb,hS',hB',rfl⟩
 exact .inl ⟨rfl,σ',r',kV s' (kP r) (Gm.sealed p),β',bv',Hd,Hs',Hk,Hb,hD,hS',hB,hB'.one,fY,hbm,rfl,rfl,hB'⟩
theorem fm2(h:Gm.Ok p t)(hc:r.c≤18446744073709551613)(h8:σ.ws.length%8=0):tK prog (.func (.func 183) [ptv fp].toArray [].toArray) (fmJ d tr sp bk tb p t c b n ws σ r s β fp b4 b5 2) (fmJ d tr sp bk tb p t c b n ws σ r s β fp b4 b5 3) (fmE d tr sp bk tb p t c b n ws σ r s β fp b4 b5):=by
 refine⟨_,[ptv fp],[],rfl,inferInstance,fun Hc hJ=>?_⟩
 obtain⟨σ',r',s',β',bv,Hd,Hs,Hk,Hb,hD,hS,hB,o0,hp,hbm,rfl,rfl,hBl⟩:=hJ
 have hw:=zW (σ,r)
 rw [hbm] at hw
 have hll:=Gm.leaves_le h
 refine ((Tri.perm hp ((aHX (fp:=fp) (d:=d) (tr:=tr) (s:=sp) (bk:=bk) (p:=p) (t:=t) (kind:=0) (cnt:=0) (bv:=bv) (lv:=.slice none 0 0) (Lv:=.slice none 0 0) (ev:=.slice none 0 0) (tv:=.pointer none) hD (by rw [hw];exact h8) hBl ⟨rfl⟩ ⟨rfl⟩ ⟨rfl⟩ ⟨rfl⟩ (by rw [nT];omega) (pN (fun x=>Aes.enc_len ..) _)).frame (r:=(b5,cl [ptv fp] 295)::(b4,cl [.int .u64 r.c] 33)::(tr,cl (trc d r') 201)::(Hs++Hk)) fY (fun _ _ _=>trivial)))).mono ?_
 rintro v H ⟨H1,rfl,rfl,Hd',hD',rfl⟩
 by_cases h0:(iW (pA p t n ws r) σ').1=0
 ·exact .inl ⟨by rw [h0],(iW (pA p t n ws r) σ').2,r',_,β',bv,Hd',Hs,Hk,Hb,hD',hS,hB,o0,fY,⟨σ',hbm,aBq h0⟩,rfl,rfl,hBl⟩
 ·have e1:(cQ p t (pA p t n ws r)).t (σ',r')=((iW (pA p t n ws r) σ').1,(iW (pA p t n ws r) σ').2,r'):=by
   show (((iW (pA p t n ws r)).and _ σ').1,((iW (pA p t n ws r)).and _ σ').2,r')=_
   rw [DS.and_ne h0]
  refine .inr ⟨_,h0,rfl,(iW (pA p t n ws r) σ').2,r',bv,Hd',Hs,Hk,Hb,hD',?_,?_,fY,?_⟩
  ·unfold pC;rw [if_neg oQ,if_pos (by rw [hbm])];exact hS
  ·unfold xY;rw [if_neg oQ,TS.and_eq hbm,e1,if_neg h0];exact hB
  ·unfold lD
   rw [if_neg (by show ¬ _<r.c;omega),TS.and_eq hbm,TS.and_ne (by rw [show (cQ p t (fG p t (dM (Aes.enc ws n)) (UInt64.ofNat ((σ,r).2.c+2).toNat))).t (σ',r')=_ from e1];exact h0)]
   exact e1
theorem fm3(h:Gm.Ok p t)(hc:r.c≤18446744073709551613)(h8:σ.ws.length%8=0):tK prog (.func (.func 184) [ptv fp].toArray [].toArray) (fmJ d tr sp bk tb p t c b n ws σ r s β fp b4 b5 3) (fmJ d tr sp bk tb p t c b n ws σ r s β fp b4 b5 4) (fmE d tr sp bk tb p t c b n ws σ r s β fp b4 b5):=by
 refine⟨_,[ptv fp],[],rfl,inferInstance,fun Hc hJ=>?_⟩
 obtain⟨σ',r',s',β',bv,Hd,Hs,Hk,Hb,hD,hS,hB,o0,hp,⟨σ1,hbm,hwd⟩,rfl,rfl,hBl⟩:=hJ
 have hw:=zW (σ,r)
 rw [hbm] at hw
 have hw2:=((jD (fR 0 (pA p t n ws r))).and yV) σ1
 rw [show ((putL (fR 0 (pA p t n ws r))).and feS) σ1=(0,σ') from hwd] at hw2
 dsimp only at hw hw2
 refine ((Tri.perm hp ((aFD (fp:=fp) (d:=d) (tr:=tr) (s:=sp) (bk:=bk) (kind:=0) (cnt:=0) (bv:=bv) (lv:=.slice none 0 0) (Lv:=.slice none 0 0) (ev:=.slice none 0 0) (tv:=.pointer none) h hD (by rw [hw2,hw];exact h8) o0 ⟨rfl⟩ ⟨rfl⟩ ⟨rfl⟩ ⟨rfl⟩).frame (r:=(b5,cl [ptv fp] 295)::(b4,cl [.int .u64 r.c] 33)::(tr,cl (trc d r') 201)::(Hs++(Hk++Hb))) fY (fun _ _ _=>trivial)))).mono ?_
 rintro v H ⟨H1,rfl,rfl,Hd',hD',rfl⟩
 have e0:cQ p t (pA p t n ws r) σ1=gB (Gm.leaves p) (1+t) σ':=DS.and_eq hwd
 by_cases h0:(gB (Gm.leaves p) (1+t) σ').1=0
 ·exact .inl ⟨by rw [h0],(gB (Gm.leaves p) (1+t) σ').2,r',_,β',bv,Hd',Hs,Hk,Hb,hD',hS,hB,o0,fY,⟨σ1,hbm,by rw [e0];exact aBq h0⟩,rfl,rfl,hBl⟩
 ·have e1:(cQ p t (pA p t n ws r)).t (σ1,r')=((gB (Gm.leaves p) (1+t) σ').1,(gB (Gm.leaves p) (1+t) σ').2,r'):=by
   show ((cQ p t (pA p t n ws r) σ1).1,(cQ p t (pA p t n ws r) σ1).2,r')=_
   rw [e0]
  refine .inr ⟨_,h0,rfl,(gB (Gm.leaves p) (1+t) σ').2,r',bv,Hd',Hs,Hk,Hb,hD',?_,?_,fY,?_⟩
  ·unfold pC;rw [if_neg oQ,if_pos (by rw [hbm])];exact hS
  ·unfold xY;rw [if_neg oQ,TS.and_eq hbm,e1,if_neg h0];exact hB
  ·unfold lD
   rw [if_neg (by show ¬ _<r.c;omega),TS.and_eq hbm,TS.and_ne (by rw [show (cQ p t (fG p t (dM (Aes.enc ws n)) (UInt64.ofNat ((σ,r).2.c+2).toNat))).t (σ1,r')=_ from e1];exact h0)]
   exact e1
theorem fm4(h:Gm.Ok p t)(hr:r.Ok)(hc:r.c≤18446744073709551613):tK prog (.func (.func 185) [ptv fp].toArray [].toArray) (fmJ d tr sp bk tb p t c b n ws σ r s β fp b4 b5 4) (fmJ d tr sp bk tb p t c b n ws σ r s β fp b4 b5 5) (fmE d tr sp bk tb p t c b n ws σ r s β fp b4 b5):=by
 refine⟨_,[ptv fp],[],rfl,inferInstance,fun Hc hJ=>?_⟩
 obtain⟨σ',r',s',β',bv,Hd,Hs,Hk,Hb,hD,hS,hB,o0,hp,⟨σ1,hbm,hwd⟩,rfl,rfl,hBl⟩:=hJ
 obtain⟨hbc,hbr⟩:=aJq hbm
 dsimp only at hbc hbr
 have hr0:=hr.c0
 refine ((Tri.perm hp ((aJw (fp:=fp) (d:=d) (tr:=tr) (s:=sp) (kind:=0) (cnt:=0) (bv:=bv) (lv:=.slice none 0 0) (Lv:=.slice none 0 0) (ev:=.slice none 0 0) (tv:=.pointer none) (r:=r') h hD ⟨by rw [hbr];exact hr.len,by omega,by omega⟩ oQ hB hBl ⟨rfl⟩ ⟨rfl⟩ ⟨rfl⟩ ⟨rfl⟩ (nT ..) (pN (fun x=>Aes.enc_len ..) _)).frame (r:=(b5,cl [ptv fp] 295)::(b4,cl [.int .u64 r.c] 33)::Hs) fY (fun _ _ _=>trivial)))).mono ?_
 rintro v H ⟨H1,rfl,rfl,Hd',Hk',Hx,hD',hB',rfl⟩
 have ew:(cQ p t (pA p t n ws r)).t (σ1,r')=(0,σ',r'):=by
  show ((cQ p t (pA p t n ws r) σ1).1,(cQ p t (pA p t n ws r) σ1).2,r')=_
  rw [hwd]
 have ef:lD p t (dM (Aes.enc ws n)) (σ,r)=kB ⟨r'.c+1,fQ (pA p t n ws r)⟩ (σ',r'):=by
  unfold lD
  rw [if_neg (by show ¬ _<r.c;omega),TS.and_eq hbm]
  exact TS.and_eq ew
 have ek:xY p t n ws σ r β'=rC β' (pA p t n ws r):=by
  unfold xY;rw [if_neg oQ,TS.and_eq hbm,ew,if_pos rfl]
 have es:pC p σ r s=kV s (kP r) (Gm.sealed p):=by
  unfold pC;rw [if_neg oQ,if_pos (by rw [hbm])]
 rw [← ef] at hD' ⊢
 rw [← ek] at hB'
 rw [← es] at hS
 generalize hF:lD p t (dM (Aes.enc ws n)) (σ,r)=F at *
 obtain⟨e,σ2,r2⟩:=F
 by_cases h0:e=0
 ·subst h0
  exact .inl ⟨rfl,σ2,r2,_,_,bv,Hd',Hs,Hk',Hb++Hx,hD',hS,hB',o0,fY,hF,es.symm▸rfl,rfl⟩
 ·exact .inr ⟨e,h0,rfl,σ2,r2,bv,Hd',Hs,Hk',Hb++Hx,hD',hS,hB',fY,hF⟩
end
def aNx(fp b5 b4:Nat):List Value:=[.func (.func 182) #[ptv fp] #[],.func (.func 179) #[] #[ptv b5,ptv b4],.func (.func 183) #[ptv fp] #[],.func (.func 184) #[ptv fp] #[],.func (.func 185) #[ptv fp] #[]]
theorem aNy(fp b5 b4:Nat):bX (fun i=>some (i*1,1)) (zs [.nilFunc] 5) [(0,.func (.func 182) #[ptv fp] #[]),(1,.func (.func 179) #[] #[ptv b5,ptv b4]),(2,.func (.func 183) #[ptv fp] #[]),(3,.func (.func 184) #[ptv fp] #[]),(4,.func (.func 185) #[ptv fp] #[])]=some (aNx fp b5 b4):=rfl
theorem aI4{d tr sp bk tb p t c b n:Nat}{ws:List (List UInt8)}{σ:Dv}{r:Rg}{s:Sr}{β:Bk}{Hd Hs Hk:Hp}(h:Gm.Ok p t)(hD:fD d σ Hd)(hlen:σ.len=256*Gm.total p t)(hr:r.Ok)(hS:lU sp c b n ws s Hs)(hK:kS n ws)(hB:eV bk tb β Hk) :
  Tri prog 127 [yD d tr sp bk p t] ((tr,cl (trc d r) 201)::(Hd++(Hs++Hk))) (fun _=>True)
  (fun v H=>v=.int .i64 (lD p t (dM (Aes.enc ws n)) (σ,r)).1∧∃ Hd' Hs' Hk' Hx,fD d (lD p t (dM (Aes.enc ws n)) (σ,r)).2.1 Hd'∧lU sp c b n ws (pC p σ r s) Hs'∧eV bk tb (xY p t n ws σ r β) Hk' ∧
   H=(tr,cl (trc d (lD p t (dM (Aes.enc ws n)) (σ,r)).2.2) 201)::(Hd'++(Hs'++(Hk'++Hx)))):=by
 refine Tri.mk func127 rfl ntmps127 rfl fun w hw=>?_
 have hmy:=aGF (tr:=tr) (s:=sp) (bk:=bk) h hD hlen
 have hrd:=zD tr d r hr
 have h8:σ.ws.length%8=0:=by unfold Dv.len at hlen;omega
 have h0:=hr.c0
 have h1:=hr.c1
 refine W.k fun b_=>?_
 refine aF hmy ?_
 rintro _ Hd ⟨rfl,rfl⟩
 refine W.k ?_
 refine W.cq hrd ?_
 by_cases hc:r.c≤18446744073709551613
 ·have hbf:bX (fun i=>[(0,6),(6,1),(7,1),(8,1),(9,2),(11,1),(12,1)][i]?) (List.replicate 4 (.pointer none)++[.int .i64 0,.int .i64 0,.int .i64 0]++[.slice none 0 0,.slice none 0 0]++[.int .u64 0]++[.slice none 0 0,.slice none 0 0]++[.pointer none]) [(0,yD d tr sp bk p t)]=some (cA d tr sp bk p t 0 (.slice none 0 0) (.slice none 0 0) 0 (.slice none 0 0) (.slice none 0 0) (.pointer none)):=rfl
  repeat' (first|(refine iS (fun b_=>?_) (hr:=aNy _ _ _))|(refine W.go ?_;try intro b_)|fail)
  rename_i b1 b4 fp b5
  rw [show ([.pointer none]:List Value).set 0 (ptv fp)=[ptv fp] from rfl,show ([.int .u64 0]:List Value).set 0 (.int .u64 r.c)=[.int .u64 r.c] from rfl]
  have hfs:∀ i v,(aNx fp b5 b4)[i]?=some v→tK prog v (fmJ d tr sp bk tb p t c b n ws σ r s β fp b4 b5 i) (fmJ d tr sp bk tb p t c b n ws σ r s β fp b4 b5 (i+1)) (fmE d tr sp bk tb p t c b n ws σ r s β fp b4 b5):=fun i v hv=>by
   have hi:=(aE.1 hv).1
   have hi5:i<5:=hi
   rcases (by omega:i=0∨i=1∨i=2∨i=3∨i=4) with rfl|rfl|rfl|rfl|rfl
   ·cases hv;exact fm0 hr hc
   ·cases hv;exact fm1 h hr hc hK
   ·cases hv;exact fm2 h hc h8
   ·cases hv;exact fm3 h hc h8
   ·cases hv;exact fm4 h hr hc
  have hJ0:fmJ d tr sp bk tb p t c b n ws σ r s β fp b4 b5 0 (fmH d tr sp bk p t r fp b4 b5 (.slice none 0 0) r Hd Hs Hk []):=⟨σ,r,s,β,.slice none 0 0,Hd,Hs,Hk,[],hD,hS,hB,⟨rfl⟩,List.Perm.refl _,rfl,rfl,rfl,rfl,rfl⟩
  refine aF (aNg b_ (aNx fp b5 b4) (by show 5≤1000;decide) hfs hJ0) ?_
  rintro v H ⟨H',rfl,hh⟩
  rcases hh with ⟨rfl,hJ⟩|⟨e,he,rfl,hE⟩
  ·obtain⟨σ',r',s',β',bv,Hd',Hs',Hk',Hb',hD',hS',hB',o0,hp,hF,rfl,rfl⟩:=hJ
   rw [hF]
   refine W.k ?_
   refine Fin.to H' ?_
   refine Fin.perm hp ?_
   refine Fin.to ((tr,cl (trc d r') 201)::(Hd'++(Hs'++(Hk'++Hb')))) ?_
   exact F.f1 ⟨rfl,Hd',Hs',Hk',Hb',hD',hS',hB',rfl⟩
  ·obtain⟨σ',r',bv,Hd',Hs',Hk',Hb',hD',hS',hB',hp,hF⟩:=hE
   rw [hF]
   refine W.k ?_
   refine Fin.to H' ?_
   refine Fin.perm hp ?_
   refine Fin.to ((tr,cl (trc d r') 201)::(Hd'++(Hs'++(Hk'++Hb')))) ?_
   exact F.f1 ⟨rfl,Hd',Hs',Hk',Hb',hD',hS',hB',rfl⟩
 ·have ef:lD p t (dM (Aes.enc ws n)) (σ,r)=(21,(σ,r)):=by unfold lD;rw [if_pos (by show _<r.c;omega)]
  have es:pC p σ r s=s:=by unfold pC;rw [if_pos oQ]
  have ek:xY p t n ws σ r β=β:=by unfold xY;rw [if_pos oQ]
  rw [ef,es,ek]
  refine W.k fun b_=>?_
  refine Fin.to ((tr,cl (trc d r) 201)::(Hd++(Hs++(Hk++[])))) ?_
  exact F.f1 ⟨rfl,Hd,Hs,Hk,[],hD,hS,hB,rfl⟩
end
structure Dv.Sta(σ:Dv)(n:Nat)(M:List UInt8):Prop where
 l:σ.Live
 ok:∀ w∈σ.ws,w.Ok
 n:σ.ws.length=n
 m:lZ σ.ws=M
theorem Dv.Sta.ml{σ:Dv}{n:Nat}{M:List UInt8}(h:σ.Sta n M):M.length=8*n:=by rw [← h.m,rX h.ok,h.n]
theorem Dv.Sta.len{σ:Dv}{n:Nat}{M:List UInt8}(h:σ.Sta n M):σ.len=8*n:=by unfold Dv.len;rw [h.n]
theorem Dv.Sta.store{σ:Dv}{n:Nat}{M:List UInt8}(h:σ.Sta n M){i:Nat}{bs:List UInt8}(hl:i+bs.length≤8*n):σ.actR i bs.length=0∧(σ.store i bs).Sta n (spl M i bs):=by
 obtain⟨h1,h2,h3⟩:=h.l.store (i:=i) (bs:=bs) (by rw [h.len];exact hl)
 refine⟨h3,h1,?_,?_,?_⟩
 ·rw [h2];exact aDs (fun j c w h=>Wd.ps_ok j c h) bs _ _ h.ok
 ·rw [h2,jN];exact h.n
 ·rw [h2,(aHF bs σ.ws i h.ok (by rw [h.n];exact hl)).1,h.m]
theorem Dv.Sta.flush{σ:Dv}{n:Nat}{M:List UInt8}(h:σ.Sta n M){i m:Nat}(hl:i+m≤8*n):σ.actR i m=0∧(σ.flush i m).Sta n M:=by
 obtain⟨h1,h2,h3⟩:=h.l.flush (i:=i) (n:=m) (by rw [h.len];exact hl)
 refine⟨h3,h1,?_,?_,?_⟩
 ·rw [h2];unfold lC;split
  ·exact h.ok
  ·exact xI (fun w=>Wd.flushed_ok) _ _ h.ok
 ·rw [aFp];exact h.n
 ·rw [h2,(aGs _ _ _).1,h.m]
theorem Dv.Sta.fence{σ:Dv}{n:Nat}{M:List UInt8}(h:σ.Sta n M):(feS σ).1=0∧(feS σ).2.Sta n M:=by
 obtain⟨h1,h2,h3⟩:=h.l.fence
 refine⟨h3,h1,?_,?_,?_⟩
 ·show ∀ w∈σ.fence.ws,_
  rw [h2];intro w hw;obtain⟨u,hu,rfl⟩:=bH.1 hw;exact Wd.fenced_ok (h.ok u hu)
 ·show σ.fence.ws.length=_
  rw [wF];exact h.n
 ·show lZ σ.fence.ws=_
  rw [h2,← h.m]
  unfold lZ
  rw [List.flatMap_map]
  congr 1;funext w;exact aCh w
theorem Dv.Sta.doo{σ:Dv}{n:Nat}{M:List UInt8}(h:σ.Sta n M):σ.dooE=0∧σ.doo.Sta n M:=by
 obtain⟨h1,h2,h3⟩:=h.l.act (4,0,0)
 have e:σ.doo=σ.act (4,0,0):=by unfold Dv.doo;rw [if_neg (by rw [h.l.d];decide)]
 have e2:σ.dooE=0:=by unfold Dv.dooE;rw [if_neg (by rw [h.l.d];decide)];exact h3
 rw [e,e2]
 exact⟨rfl,h1,by rw [h2];exact h.ok,by rw [h2];exact h.n,by rw [h2];exact h.m⟩
theorem DS.and_sta{a b:DS}{σ:Dv}{n:Nat}{M N:List UInt8}(ha:(a σ).1=0∧(a σ).2.Sta n M)(hb:∀ τ:Dv,τ.Sta n M→(b τ).1=0∧(b τ).2.Sta n N):((a.and b) σ).1=0∧((a.and b) σ).2.Sta n N:=by
 unfold DS.and
 rw [if_pos ha.1]
 exact hb _ ha.2
theorem Dv.Sta.put{σ:Dv}{n:Nat}{M:List UInt8}(h:σ.Sta n M){k:Nat}{bs:List UInt8}(hl:256*k+bs.length≤8*n):(fH k bs σ).1=0∧(fH k bs σ).2.Sta n (spl M (256*k) bs):=
 DS.and_sta (a:=stS (256*k) bs) (h.store (i:=256*k) hl) fun τ ht=>ht.flush (i:=256*k) (m:=bs.length) hl
theorem aEB(M:List UInt8)(i:Nat)(a b:List UInt8)(hl:i+a.length+b.length≤M.length):spl (spl M i a) (i+a.length) b=spl M i (a++b):=by
 unfold spl
 have e1:(M.take i).length=i:=by rw [aG];omega
 have e2:(M.take i++a).length=i+a.length:=by rw [aB,e1]
 rw [cW e2,aB,show i+a.length+b.length=(M.take i++a).length+b.length by rw [e2],gD,cJ,e2,(cP oQ:List.drop (i+a.length+b.length) (M.take i++a)=[])]
 rw [show i+a.length+(i+a.length+b.length-(i+a.length))=i+(a.length+b.length) by omega]
 simp only [aM,List.nil_append]
theorem Dv.Sta.putL:∀ (l:List (List UInt8)) {σ:Dv} {n:Nat} {M:List UInt8} (h:σ.Sta n M) (k:Nat) (hb:∀ b∈l,b.length=256) (hl:256*(k+l.length)≤8*n),(putL (fR k l) σ).1=0∧(putL (fR k l) σ).2.Sta n (spl M (256*k) l.flatten)
 | [],σ,n,M,h,k,hb,hl=>by
  refine⟨rfl,?_⟩
  show σ.Sta n _
  have:spl M (256*k) ([]:List (List UInt8)).flatten=M:=by unfold spl;simp
  rw [this]
  exact h
 | b::l,σ,n,M,h,k,hb,hl=>by
  have hb0:=hb b (by simp)
  simp only [aX] at hl
  have hrow:fR k (b::l)=(k,b)::fR (k+1) l:=by
   unfold fR
   rw [List.mapIdx_cons]
   congr 1
   apply List.mapIdx_eq_mapIdx_iff.2 ?_
   intro i hi
   rw [show k+(i+1)=k+1+i by omega]
  rw [hrow]
  refine DS.and_sta (a:=fH k b) (h.put (k:=k) (bs:=b) oQ) fun τ ht=>?_
  have:=Dv.Sta.putL l ht (k+1) (fun x hx=>hb x (by simp [hx])) oQ
  have hfl:l.flatten.length=256*l.length:=by
   clear this ht hrow hl h
   induction l with
   | nil=>rfl
   | cons x r ih=>
    rw [dK,aB,hb x (by simp),ih (fun y hy=>hb y (by
     rcases bZ.1 hy with rfl|hy
     ·simp
     ·simp [hy])),aX]
    omega
  have e:=aEB M (256*k) b l.flatten (by rw [h.ml,hfl,hb0];omega)
  rw [hb0,show 256*k+256=256*(k+1) by omega] at e
  rw [e] at this
  exact this
theorem aB5{σ:Dv}{r:Rg}{n:Nat}{M:List UInt8}(h:σ.Sta n M)(x:Rg)(hx:r.c<x.c):∃ σ',(kB x) (σ,r)=(0,(σ',x))∧σ'.Sta n M:=by
 obtain⟨h1,h2⟩:=h.doo
 refine⟨σ.doo,?_,h2⟩
 unfold kB qO sE oI
 simp only [h.l.d,iV,if_false,h1,if_true]
 rw [if_neg oQ,if_neg oQ,if_neg oQ]
theorem aLE{p t:Nat}{σ:Dv}{r:Rg}{X:UInt64→Nat→List UInt8→List UInt8}{n:Nat}{M:List UInt8}(h:σ.Sta n M)(hn:8*n=256*(Gm.leaves p+(1+t)))(hc:r.c≤18446744073709551613)
  (h256:∀ b∈fG p t X (UInt64.ofNat (r.c+2).toNat),b.length=256) (hbl:(fG p t X (UInt64.ofNat (r.c+2).toNat)).length=Gm.leaves p) :
  ∃ σ',lD p t X (σ,r)=(0,(σ',{ c:=r.c+2,root:=fQ (fG p t X (UInt64.ofNat (r.c+2).toNat)) }))∧σ'.Sta n ((fG p t X (UInt64.ofNat (r.c+2).toNat)).flatten++List.replicate (256*(1+t)) 0):=by
 unfold lD
 rw [if_neg (by show ¬ _<r.c;omega)]
 generalize fG p t X (UInt64.ofNat (r.c+2).toNat)=B at *
 obtain⟨σ1,e1,h1⟩:=aB5 h { r with c:=r.c+1 } (by show r.c<r.c+1;omega)
 rw [TS.and_eq (show gG (σ,r)=(0,(σ1,{ r with c:=r.c+1 })) from e1)]
 have hfl:B.flatten.length=256*B.length:=by
  clear hbl
  induction B with
  | nil=>rfl
  | cons x r ih=>rw [dK,aB,h256 x (by simp),ih (fun y hy=>h256 y (by simp [hy])),aX];omega
 have hM:=h.ml
 have hD:(cQ p t B σ1).1=0∧(cQ p t B σ1).2.Sta n (spl (spl M (256*0) B.flatten) (256*Gm.leaves p) (List.replicate (256*(1+t)) 0)):=by
  refine DS.and_sta (DS.and_sta (Dv.Sta.putL B h1 0 h256 (by rw [hbl];omega)) fun τ ht=>ht.fence) fun τ ht=>?_
  refine DS.and_sta (a:=fH (Gm.leaves p) (List.replicate (256*(1+t)) 0)) (ht.put (by rw [aS];omega)) fun τ' ht'=>ht'.fence
 have es:spl (spl M (256*0) B.flatten) (256*Gm.leaves p) (List.replicate (256*(1+t)) 0)=B.flatten++List.replicate (256*(1+t)) 0:=by
  rw [show 256*Gm.leaves p=256*0+B.flatten.length by rw [hfl,hbl];omega,aEB _ _ _ _ (by rw [hfl,hbl,aS];omega)]
  unfold spl
  rw [show 256*0=0 from rfl,cT,List.nil_append,cP (by rw [aB,hfl,hbl,aS];omega),aH]
 rw [es] at hD
 obtain⟨e2,h2⟩:=hD
 rw [TS.and_eq (y:=((cQ p t B σ1).2,{ r with c:=r.c+1 })) (by unfold DS.t;dsimp only;rw [e2])]
 obtain⟨σ3,e3,h3⟩:=aB5 (r:={ r with c:=r.c+1 }) h2 { c:=r.c+2,root:=fQ B } (by show r.c+1<r.c+2;omega)
 refine⟨σ3,?_,h3⟩
 show kB ⟨r.c+1+1,fQ B⟩ ((cQ p t B σ1).2,{ r with c:=r.c+1 })=_
 rw [show r.c+1+1=r.c+2 by omega]
 exact e3
theorem aHi{l:List (List UInt8)}(hl:∀ b∈l,b.length=256)(R:List UInt8):∀ {k:Nat} {b:List UInt8},l[k]?=some b→((l.flatten++R).drop (256*k)).take 256=b:=by
 induction l with
 | nil=>intro k b h;simp at h
 | cons x r ih=>
  intro k b h
  have hx:=hl x (by simp)
  cases k with
  | zero=>
   simp at h;subst h
   rw [Nat.mul_zero,bR,dK,aM,cW hx]
  | succ k=>
   rw [dK,aM,show 256*(k+1)=x.length+256*k by rw [hx];omega,gD,← ih (fun y hy=>hl y (by simp [hy])) h,(cP oQ:List.drop (x.length+256*k) x=[]),List.nil_append,dA]
theorem Dv.Sta.blk{σ:Dv}{n:Nat}{B:List (List UInt8)}{R:List UInt8}(h:σ.Sta n (B.flatten++R))(hB:∀ b∈B,b.length=256){k:Nat}{b:List UInt8}(hk:B[k]?=some b)(hl:256*(k+1)≤8*n):σ.blk k=b:=by
 unfold Dv.blk Dv.loadB
 rw [if_pos (h.l.rdy oQ oQ (by rw [h.len];omega)),h.m,aP]
 exact aHi hB R hk
theorem Dv.Sta.blks{σ:Dv}{n:Nat}{B:List (List UInt8)}{R:List UInt8}(h:σ.Sta n (B.flatten++R))(hB:∀ b∈B,b.length=256)(hl:256*B.length≤8*n):σ.blks 0 B.length=B:=by
 unfold Dv.blks
 apply cB
 intro i
 rw [aJ]
 by_cases hi:i<B.length
 ·rw [eN hi,Option.map_some,aA hi,fX]
  exact congrArg some (h.blk hB (aA hi) oQ)
 ·rw [bB (l:=List.range B.length) (by rw [dY];omega),bB (l:=B) oQ];rfl
theorem aBJ(n:Nat)(hn:n≤1024):(Dv.new (n:Int)).Sta (8*n) (List.replicate (64*n) 0):=by
 have e:(8*min (max (n:Int) 0) 1024).toNat=8*n:=oQ
 refine⟨⟨rfl,rfl⟩,(Dv.new_ok _).ok,by unfold Dv.new;rw [e,aS],?_⟩
 unfold Dv.new lZ
 rw [e]
 show (List.replicate (8*n) Wd.zero).flatMap Wd.now=_
 have:∀ m,(List.replicate m Wd.zero).flatMap Wd.now=List.replicate (8*m) 0:=fun m=>by
  induction m with
  | zero=>rfl
  | succ m ih=>rw [fM,dF,ih,show 8*(m+1)=8+8*m by omega,← gJ];rfl
 rw [this,show 8*(8*n)=64*n by omega]
section
section
variable {P:Program}{C:Ctx}{ρ:Fr}{H:Hp}{t t' len:Nat}{x y:Operand}{a b:List UInt8}{o:Oper}
theorem aLQ(ho:o.op=.binOp .eql t x y t')(hx:ev ρ x=some (.agg (cbs a).toArray))(hy:ev ρ y=some (.agg (cbs b).toArray)) [h:EqB P t len](h1:a.length=len)(h2:b.length=len)(he:¬ a=b):Pu P C ρ H o (.bool false):=by
 have:=aMJ (P:=P) (C:=C) (H:=H) ho hx hy h1 h2
 rwa [decide_eq_false he] at this
theorem aEi(ho:o.op=.binOp .neq t x y t')(hx:ev ρ x=some (.agg (cbs a).toArray))(hy:ev ρ y=some (.agg (cbs b).toArray)) [h:EqB P t len](h1:a.length=len)(h2:b.length=len)(he:¬ a=b):Pu P C ρ H o (.bool true):=fun ac w hf _=>by
 unfold execOp;rw [ho];simp [hf.eval hx,hf.eval hy,run_eqGuard_agg _ _ _ _ _ _ _ h.guard,binOp,EqB.eq w a b h1 h2,he]
end
attribute [local irreducible] SW SL SQ SH SA SS Pu Fin bT aQ
theorem Dv.blks_len(σ:Dv)(a n:Nat):(σ.blks a n).length=n:=by unfold Dv.blks;simp
theorem Dv.blks_succ(σ:Dv)(a n:Nat):σ.blks a (n+1)=σ.blks a n++[σ.blk (a+n)]:=by unfold Dv.blks;rw [bV,aV];rfl
end
end Go.Proofs.YtnhnpjokpelkbaaGreat
