/- A block is put; the log is scrubbed. -/
import Derived.Test.YtmceanmblcadcaaGreatPn22
import Derived.Test.YtmceanmblcadcaaGreatPn23
import Derived.Test.YtmceanmblcadcaaGreatPn16
import Derived.Test.YtmceanmblcadcaaGreatPn20
import Derived.Test.YtmceanmblcadcaaGreatPn10
set_option linter.unusedVariables false
set_option linter.unusedSimpArgs false
set_option linter.unusedSectionVars false
set_option maxHeartbeats 4000000
namespace Go.Proofs.YtmceanmblcadcaaGreat
open Go Go.Proofs.Tryz
section
attribute [local irreducible] SW SL SQ SH SA SS Pu Fin bU aP
theorem aIJ{d tr s bk p t:Nat}{σ:Dv}{Hd:Hp}(hD:gO d σ Hd)(h8:σ.ws.length%8=0)(k:Nat)(hk:k<65536)(v:Value)(b:List UInt8)(hb:b.length≤1048576) :
  Tri prog 118 [uG d tr s bk p t,.int .i64 (k:Int),v] Hd (fun w=>Rd (Hd.map Prod.fst) w 1 v (cbs b)) (fun r H=>r=.int .i64 (fU k b σ).1∧gO d (fU k b σ).2 H):=by
 refine Tri.mk func118 rfl ntmps118 rfl fun w hw=>?_
 have hby:=qH (k:=k) hk
 have hst:=aIm hD ((256*k:Nat):Int) v b hb
 obtain⟨a,la,ca,rfl,hl1,hc1,hr1⟩:=hw.get
 rw [aF,Nat.mul_one] at hl1
 subst hl1
 have hY:One (Value.slice a b.length ca):=⟨rfl⟩
 refine W.k fun b_=>?_
 refine W.cw hby ?_
 refine aH hst ?_ (hpre:=fun w2 hs=>hw.ro (Hc:=Hd) hs)
 rintro _ H1 ⟨rfl,hD1⟩
 have e1:(stS (256*k) b σ).1=σ.actR ((256*k:Nat):Int) b.length:=rfl
 have e2:(stS (256*k) b σ).2=σ.store ((256*k:Nat):Int) b:=rfl
 unfold fU DS.and
 rw [e1,e2]
 by_cases h0:σ.actR ((256*k:Nat):Int) b.length=0
 ·rw [if_pos h0]
  have hfl:=aHM hD1 (by rw [aAD];exact h8) ((256*k:Nat):Int) (b.length:Int)
  refine W.k ?_
  refine aH hfl ?_
  rintro _ H2 ⟨rfl,hD2⟩
  refine W.k ?_
  refine Fin.to H2 ?_
  exact F.f1 ⟨rfl,hD2⟩
 ·rw [if_neg h0]
  refine W.k ?_
  refine Fin.to H1 ?_
  exact F.f1 ⟨rfl,hD1⟩
theorem aBB(m:Nat):List.replicate m (Value.int .u8 0)=cbs (List.replicate m 0):=by simp [cbs]
theorem aIl{d tr s bk p t:Nat}(h:Gm.Ok p t){σ:Dv}{Hd:Hp}(hD:gO d σ Hd)(h8:σ.ws.length%8=0)(n:Nat)(hn:n≤100) :
  Tri prog 122 [uG d tr s bk p t,.int .i64 (n:Int)] Hd (fun _=>True) (fun r H=>r=.int .i64 (gM (Gm.leaves p) n σ).1∧gO d (gM (Gm.leaves p) n σ).2 H):=by
 refine Tri.mk func122 rfl ntmps122 rfl fun w hw=>?_
 have hla:=aCz h 0
 have hll:=Gm.leaves_le h
 rw [show Gm.atK (1+t) (Gm.leaves p) 0=((Gm.leaves p:Nat):Int) by unfold Gm.atK;rw [if_pos oQ];omega] at hla
 have hby:=qH (k:=n) oQ
 generalize Gm.leaves p=l at *
 have hput:=fun v=>aIJ (tr:=tr) (s:=s) (bk:=bk) (p:=p) (t:=t) hD h8 l oQ v (List.replicate (256*n) 0) (by rw [aM];omega)
 refine W.k fun b_=>?_
 (refine SW.l [7] [0,1,2,4] ?_;refine aU 3 ?_)
 refine W.cq hla ?_
 (refine bI [] ?_;refine aU 5 ?_)
 refine W.cq hby ?_
 (refine bI [] ?_;refine aU 6 ?_)
 refine W.ma (fun bz=>?_)
 rw [kG,aBB]
 (refine bI [] ?_;refine cQ 7 ?_)
 refine aH (hput _) ?_ (hpre:=fun w2 hs=>Rd.my (Hc:=Hd) (T:=5) bz _ hs (aM))
 rintro _ H1 ⟨rfl,hD1⟩
 (refine SL.l [8,9] ?_)
 unfold gM DS.and
 by_cases h0:(fU l (List.replicate (256*n) 0) σ).1=0
 ·rw [if_pos h0]
  have hfe:=aDY hD1
  refine W.k ?_
  refine aH hfe ?_
  rintro _ H2 ⟨rfl,hD2⟩
  refine W.k ?_
  refine Fin.to H2 ?_
  exact F.f1 ⟨rfl,hD2⟩
 ·rw [if_neg h0]
  refine W.k ?_
  refine Fin.to H1 ?_
  exact F.f1 ⟨rfl,hD1⟩
abbrev oW(d tr s p t:Nat):Value:=.agg #[ptv d,ptv tr,ptv s,.int .i64 (p:Int),.int .i64 (t:Int)]
theorem aBO{d tr s p t:Nat}{σ:Dv}{Hd:Hp}(hD:jY d σ Hd)(h8:σ.ws.length%8=0)(k:Nat)(hk:k<65536)(v:Value)(b:List UInt8)(hb:b.length≤1048576) :
  Tri prog 182 [oW d tr s p t,.int .i64 (k:Int),v] Hd (fun w=>Rd (Hd.map Prod.fst) w 1 v (cbs b)) (fun r H=>r=.int .i64 (fU k b σ).1∧jY d (fU k b σ).2 H):=by
 refine Tri.mk func182 rfl ntmps182 rfl fun w hw=>?_
 have hst:=aGO hD ((256*k:Nat):Int) v b hb
 obtain⟨a,la,ca,rfl,hl1,hc1,hr1⟩:=hw.get
 rw [aF,Nat.mul_one] at hl1
 subst hl1
 have hY:One (Value.slice a b.length ca):=⟨rfl⟩
 have e:(256:Int)*(k:Int)=((256*k:Nat):Int):=oQ
 rw [← e] at hst
 refine W.k fun b_=>?_
 refine aH hst ?_ (hpre:=fun w2 hs=>hw.ro (Hc:=Hd) hs)
 rintro _ H1 ⟨rfl,hD1⟩
 rw [e] at hD1 ⊢
 have e1:(stS (256*k) b σ).1=σ.actR ((256*k:Nat):Int) b.length:=rfl
 have e2:(stS (256*k) b σ).2=σ.store ((256*k:Nat):Int) b:=rfl
 unfold fU DS.and
 rw [e1,e2]
 by_cases h0:σ.actR ((256*k:Nat):Int) b.length=0
 ·rw [if_pos h0]
  have hfl:=aGI hD1 (by rw [aAD];exact h8) ((256*k:Nat):Int) (b.length:Int)
  rw [← e] at hfl
  refine W.k ?_
  refine aH hfl ?_
  rintro _ H2 ⟨rfl,hD2⟩
  rw [e] at hD2 ⊢
  refine W.k ?_
  refine Fin.to H2 ?_
  exact F.f1 ⟨rfl,hD2⟩
 ·rw [if_neg h0]
  refine W.k ?_
  refine Fin.to H1 ?_
  exact F.f1 ⟨rfl,hD1⟩
theorem aAv{d tr s p t:Nat}(h:Gm.Ok p t){σ:Dv}{Hd:Hp}(hD:jY d σ Hd)(h8:σ.ws.length%8=0)(n:Nat)(hn:n≤100) :
  Tri prog 184 [oW d tr s p t,.int .i64 (n:Int)] Hd (fun _=>True) (fun r H=>r=.int .i64 (gM (Gm.leaves p) n σ).1∧jY d (gM (Gm.leaves p) n σ).2 H):=by
 refine Tri.mk func184 rfl ntmps184 rfl fun w hw=>?_
 have hla:=aDy h (K:=4) (n:=1+t) (base:=Gm.leaves p) (.inr (.inr ⟨rfl,rfl,rfl⟩)) 0
 have hll:=Gm.leaves_le h
 rw [show Gm.atK (1+t) (Gm.leaves p) 0=((Gm.leaves p:Nat):Int) by unfold Gm.atK;rw [if_pos oQ];omega] at hla
 generalize Gm.leaves p=l at *
 have hput:=fun v=>aBO (tr:=tr) (s:=s) (p:=p) (t:=t) hD h8 l oQ v (List.replicate (256*n) 0) (by rw [aM];omega)
 haveI i0:dK (256*(n:Int)) (256*n):=⟨by omega⟩
 refine W.k fun b_=>?_
 (refine SW.l [] [0,1,2,4,5] ?_;skip )
 refine gT 3 6 ?_ ?_ rfl rfl
 case' refine_1=>
  refine dL hla rfl ?_
  rintro _ _ ⟨rfl,rfl⟩
  refine cW ?_
  refine aU 6 ?_
  refine W.ma (fun bz=>?_)
  refine cW ?_
 case' refine_2=>
  refine W.ma (fun bz=>?_)
  refine cW ?_
  refine aU 3 ?_
  refine dL hla rfl ?_
  rintro _ _ ⟨rfl,rfl⟩
  refine cW ?_
 all_goals
  refine aU 7 ?_
  rw [kG,aBB]
  refine aH (hput _) ?_ (hpre:=fun w2 hs=>Rd.my (Hc:=Hd) (T:=5) bz _ hs (aM))
  rintro _ H1 ⟨rfl,hD1⟩
  (refine SL.l [8,9] ?_)
  unfold gM DS.and
  by_cases h0:(fU l (List.replicate (256*n) 0) σ).1=0
  ·rw [if_pos h0]
   have hfe:=wG hD1
   refine W.k ?_
   refine aH hfe ?_
   rintro _ H2 ⟨rfl,hD2⟩
   refine W.k ?_
   refine Fin.to H2 ?_
   exact F.f1 ⟨rfl,hD2⟩
  ·rw [if_neg h0]
   refine W.k ?_
   refine Fin.to H1 ?_
   exact F.f1 ⟨rfl,hD1⟩
def qA(P:Program)(v:Value)(J J':Hp→Prop)(E:Int→Hp→Prop):Prop:=
 ∃ (f:FuncId) (us cs:List Value),v=.func (.func f) us.toArray cs.toArray∧aZ P f∧∀ Hc,J Hc→Tri P f (us++[]++cs) Hc (fun _=>True) (fun r H=>(r=.int .i64 0∧J' H)∨∃ e:Int,e≠0∧r=.int .i64 e∧E e H)
theorem aI9{J:Nat→Hp→Prop}{E:Int→Hp→Prop}(sb:Nat)(fs:List Value)(hn:fs.length≤1000)(hfs:∀ i v,fs[i]?=some v→qA prog v (J i) (J (i+1)) E){H0:Hp}(h0:J 0 H0) :
  Tri prog 172 [.slice (some ⟨sb,0,none⟩) fs.length fs.length] ((sb,cl fs 51)::H0) (fun _=>True)
  (fun r H=>∃ H',H=(sb,cl fs 51)::H'∧((r=.int .i64 0∧J fs.length H')∨∃ e:Int,e≠0∧r=.int .i64 e∧E e H')):=by
 refine Tri.mk func172 rfl ntmps172 rfl fun w hw=>?_
 refine W.k ?_
 refine bH [6,7] (fun x:Nat×Hp=>[(8,.int .i64 (x.1:Int))]) (fun x=>(sb,cl fs 51)::x.2) (fun x=>fs.length-x.1) (fun x=>x.1≤fs.length∧J x.1 x.2) (0,H0) ⟨Nat.zero_le _,h0⟩ ?_
 rintro⟨k,Hk⟩ ⟨hk,hJ⟩
 dsimp only at hk hJ ⊢
 by_cases h:k<fs.length
 ·have hv:=aA h
  obtain⟨f,us,cs,hfv,iF,hT⟩:=hfs k _ hv
  rw [hfv] at hv
  clear hfv
  have hT2:=hT Hk hJ
  refine W.k ?_
  refine dN Hk rfl rfl rfl rfl rfl rfl hT2 (fun _ _=>trivial) ?_
  rintro _ H2 (⟨rfl,hJ2⟩|⟨e,he,rfl,hE⟩)
  ·refine W.k ?_
   refine aP.mk (k+1,H2) ?_
   exact⟨h,hJ2⟩
  ·refine W.k ?_
   refine Fin.to ((sb,cl fs 51)::H2) ?_
   exact F.f1 ⟨H2,rfl,.inr ⟨e,he,rfl,hE⟩⟩
 ·have:k=fs.length:=oQ
  subst this
  refine W.k ?_
  refine Fin.to ((sb,cl fs 51)::Hk) ?_
  exact F.f1 ⟨Hk,rfl,.inl ⟨rfl,hJ⟩⟩
abbrev bK(d tr s bk p t:Nat)(kind:Int)(bv lv:Value)(cnt:Int)(Lv ev tv:Value):List Value:=[ptv d,ptv tr,ptv s,ptv bk,.int .i64 (p:Int),.int .i64 (t:Int),.int .i64 kind,bv,lv,.int .u64 cnt,Lv,ev,tv]
def Bls(v:Value)(bss:List (List UInt8))(H:Hp):Prop:=∃ vs Hv Ht,Sl 23 1 v vs Hv∧RB Ht vs bss∧H=Hv++Ht
theorem aJD{fp d tr s bk p t:Nat}{kind cnt:Int}{bv lv Lv ev tv:Value}{bss:List (List UInt8)}{σ:Dv}{Hd Hb:Hp}(hD:gO d σ Hd)(h8:σ.ws.length%8=0)(hB:Bls bv bss Hb)(o1:One lv)(o2:One Lv)(o3:One ev)(o4:One tv)(k:Nat){b:List UInt8}(hk:bss[k]?=some b)(hk2:k<65536)(hb:b.length≤1048576) :
  Tri prog 215 [ptv fp,.int .i64 (k:Int)] ((fp,cl (bK d tr s bk p t kind bv lv cnt Lv ev tv) 295)::(Hd++Hb)) (fun _=>True)
  (fun r H=>r=.int .i64 (fU k b σ).1∧∃ Hd',gO d (fU k b σ).2 Hd'∧H=(fp,cl (bK d tr s bk p t kind bv lv cnt Lv ev tv) 295)::(Hd'++Hb)):=by
 obtain⟨vs,Hv,Ht,hS,hR,rfl⟩:=hB
 refine Tri.mk func215 rfl ntmps215 rfl fun w hw=>?_
 obtain⟨u,hu1,hu2⟩:=hR.2 k b hk
 have hkl:=(aD.1 hk).1
 have hvl:=hR.1
 rcases hS with ⟨-,hz,-⟩|⟨bb,len,cap,junk,rfl,hxl,hj,hlc,rfl⟩
 ·rw [hz] at hvl;simp at hvl;omega
 have hv:(vs++junk)[k]?=some u:=by rw [aK oQ];exact hu1
 have huo:=hu2.one
 have hl3:(bK d tr s bk p t kind (.slice (some ⟨bb,0,none⟩) len cap) lv cnt Lv ev tv).length=13:=rfl
 refine W.k ?_
 (refine SW.l [12] [0,1,2,3,4,5,6,7,8,9,10,11] ?_;refine cQ 12 ?_)
 refine aH (aIJ hD h8 k hk2 u b hb) ?_ (hpre:=fun w2 hs=>hu2.rd (Hc:=Hd) hs)
 rintro _ H1 ⟨rfl,hD1⟩
 (refine SL.l [13,14] ?_)
 refine W.k ?_
 refine Fin.to ((fp,cl (bK d tr s bk p t kind (.slice (some ⟨bb,0,none⟩) len cap) lv cnt Lv ev tv) 295)::(H1++([(bb,cl (vs++junk) 23)]++Ht))) ?_
 exact F.f1 ⟨rfl,H1,hD1,rfl⟩
def DS.Wl(a:DS):Prop:=∀ σ,(a σ).2.ws.length=σ.ws.length
theorem DS.Wl.and{a b:DS}(ha:a.Wl)(hb:b.Wl):(a.and b).Wl:=fun σ=>by
 unfold DS.and
 split
 ·rw [hb,ha]
 ·exact ha σ
theorem aKl(x:Nat)(bs:List UInt8):(stS x bs).Wl:=fun σ=>aAD σ _ _
theorem aJo(x n:Nat):(flS x n).Wl:=fun σ=>aCw σ _ _
theorem aBw:feS.Wl:=fun σ=>sQ σ
theorem aEe(k:Nat)(b:List UInt8):(fU k b).Wl:=(aKl _ _).and (aJo _ _)
theorem mL:∀ l,(putL l).Wl
 | []=>fun σ=>rfl
 | x::r=>(aEe _ _).and (mL r)
theorem aFi(k n:Nat):(gM k n).Wl:=(aEe _ _).and aBw
theorem qV(k:Nat)(l:List (List UInt8))(b:List UInt8):gJ k (l++[b])=gJ k l++[(k+l.length,b)]:=by unfold gJ;rw [oO]
theorem wI(k:Nat)(l m:List (List UInt8)):gJ k (l++m)=gJ k l++gJ (k+l.length) m:=by
 induction m generalizing l with
 | nil=>simp [gJ]
 | cons x r ih=>
  rw [show l++x::r=(l++[x])++r by simp,ih,qV,show gJ (k+l.length) (x::r)=(k+l.length,x)::gJ (k+l.length+1) r by unfold gJ;rw [List.mapIdx_cons];congr 1;apply List.mapIdx_eq_mapIdx_iff.2;intro i h;congr 1;omega]
  simp [pQ]
theorem aEr{fp d tr s bk p t:Nat}{kind cnt:Int}{bv lv Lv ev tv:Value}{bss:List (List UInt8)}{σ:Dv}{Hd Hb:Hp}(hD:gO d σ Hd)(h8:σ.ws.length%8=0)(hB:Bls bv bss Hb)(o1:One lv)(o2:One Lv)(o3:One ev)(o4:One tv)(hn:bss.length≤1000)(hb:∀ b∈bss,b.length=256) :
  Tri prog 174 [ptv fp] ((fp,cl (bK d tr s bk p t kind bv lv cnt Lv ev tv) 295)::(Hd++Hb)) (fun _=>True)
  (fun r H=>r=.int .i64 (gG bss σ).1∧∃ Hd',gO d (gG bss σ).2 Hd'∧H=(fp,cl (bK d tr s bk p t kind bv lv cnt Lv ev tv) 295)::(Hd'++Hb)):=by
 have hB0:=hB
 obtain⟨vs,Hv,Ht,hS,hR,rfl⟩:=hB
 have hbo:=hS.isOne
 have hvl:=hR.1
 obtain⟨ba,bl,bc,rfl,hbl⟩:=hS.form
 rw [Nat.mul_one,hvl] at hbl
 subst hbl
 refine Tri.mk func174 rfl ntmps174 rfl fun w hw=>?_
 refine W.j ?_
 refine bZ [0] Hd (fun _:Dv×Hp=>[]) (fun x=>x.2) (fun x=>gO d x.1 x.2∧putL (gJ 0 bss) σ=(0,x.1)) ?_ ?_
 ·refine W.k ?_
  refine bH [0,9] (fun x:Nat×Dv×Hp=>[(10,.int .i64 (x.1:Int))]) (fun x=>x.2.2) (fun x=>bss.length-x.1) (fun x=>x.1≤bss.length∧gO d x.2.1 x.2.2∧putL (gJ 0 (bss.take x.1)) σ=(0,x.2.1)) (0,σ,Hd) ⟨Nat.zero_le _,hD,by rw [dF];rfl⟩ ?_
  rintro⟨k,σ2,Hd⟩ ⟨hk,hD,hp⟩
  dsimp only at hk hD hp ⊢
  by_cases h:k<bss.length
  ·have hbk:=aA h
   have hbl:=hb _ (dO h)
   have hwl:σ2.ws.length=σ.ws.length:=by have:=mL (gJ 0 (bss.take k)) σ;rw [hp] at this;exact this
   have hpt:=aJD (fp:=fp) (tr:=tr) (s:=s) (bk:=bk) (p:=p) (t:=t) (kind:=kind) (cnt:=cnt) hD (by rw [hwl];exact h8) hB0 o1 o2 o3 o4 k hbk oQ oQ
   have hsp:bss=bss.take k++bss[k]::bss.drop (k+1):=by rw [← bS h,dE]
   have htl:(bss.take k).length=k:=by rw [aI];omega
   have hs1:putL (gJ 0 (bss.take (k+1))) σ=if (fU k bss[k] σ2).1=0 then (0,(fU k bss[k] σ2).2) else fU k bss[k] σ2:=by
    rw [bG,hbk,dT,qV,nI,htl,eX]
    show DS.and _ ((fU k bss[k]).and fun σ=>(0,σ)) σ=_
    unfold DS.and
    rw [hp]
    simp
   have hs2:(fU k bss[k] σ2).1≠0→putL (gJ 0 bss) σ=fU k bss[k] σ2:=fun hne=>by
    have e:gJ 0 bss=gJ 0 (bss.take (k+1))++gJ (0+(bss.take (k+1)).length) (bss.drop (k+1)):=by rw [← wI,dE]
    rw [e,nI]
    unfold DS.and
    rw [hs1,if_neg hne,if_neg hne]
   generalize bss[k]=b at *
   refine W.k ?_
   refine aH hpt ?_
   rintro _ _ ⟨rfl,Hd2,hD2,rfl⟩
   by_cases h0:(fU k b σ2).1=0
   ·rw [if_pos h0] at hs1
    refine W.k ?_
    refine aP.mk (k+1,(fU k b σ2).2,Hd2) ?_
    exact⟨h,hD2,hs1⟩
   ·have he:=hs2 h0
    have hwd:gG bss σ=fU k b σ2:=by
     unfold gG
     show (if (putL (gJ 0 bss) σ).1=0 then _ else _)=_
     rw [he,if_neg h0]
    rw [hwd]
    refine W.k ?_
    refine Fin.to ((fp,cl (bK d tr s bk p t kind (.slice ba bss.length bc) lv cnt Lv ev tv) 295)::(Hd2++(Hv++Ht))) ?_
    exact F.f1 ⟨rfl,Hd2,hD2,rfl⟩
  ·have hkn:k=bss.length:=oQ
   rw [hkn,cK] at hp
   subst hkn
   refine W.k ?_
   refine bU.mk (σ2,Hd) ?_
   exact⟨hD,hp⟩
 rintro⟨σ2,Hd⟩ ⟨hD,hp⟩
 dsimp only at hD hp ⊢
 have hwd:gG bss σ=feS σ2:=by
  unfold gG
  show (if (putL (gJ 0 bss) σ).1=0 then _ else _)=_
  rw [hp];rfl
 have hfe:=aDY hD
 rw [hwd]
 refine W.k ?_
 refine aH hfe ?_
 rintro _ Hd2 ⟨rfl,hD2⟩
 refine W.k ?_
 refine Fin.to ((fp,cl (bK d tr s bk p t kind (.slice ba bss.length bc) lv cnt Lv ev tv) 295)::(Hd2++(Hv++Ht))) ?_
 exact F.f1 ⟨rfl,Hd2,hD2,rfl⟩
theorem aCI{fp d tr s bk p t:Nat}(h:Gm.Ok p t){kind cnt:Int}{bv lv Lv ev tv:Value}{σ:Dv}{Hd:Hp}(hD:gO d σ Hd)(h8:σ.ws.length%8=0)(o0:One bv)(o1:One lv)(o2:One Lv)(o3:One ev)(o4:One tv) :
  Tri prog 175 [ptv fp] ((fp,cl (bK d tr s bk p t kind bv lv cnt Lv ev tv) 295)::Hd) (fun _=>True)
  (fun r H=>r=.int .i64 (gM (Gm.leaves p) (1+t) σ).1∧∃ Hd',gO d (gM (Gm.leaves p) (1+t) σ).2 Hd'∧H=(fp,cl (bK d tr s bk p t kind bv lv cnt Lv ev tv) 295)::Hd'):=by
 refine Tri.mk func175 rfl ntmps175 rfl fun w hw=>?_
 have ht:=h.2.2.2
 have hsc:=aIl (tr:=tr) (s:=s) (bk:=bk) h hD h8 (1+t) oQ
 rw [show ((1+t:Nat):Int)=1+(t:Int) by omega] at hsc
 have hl3:(bK d tr s bk p t kind bv lv cnt Lv ev tv).length=13:=rfl
 refine W.k ?_
 (refine SW.l [11] [0,1,2,3,4,5,6,7,8,9,10] ?_;refine cQ 11 ?_)
 refine aH hsc ?_
 rintro _ H1 ⟨rfl,hD1⟩
 (refine SL.l [12,13] ?_)
 refine W.k ?_
 refine Fin.to ((fp,cl (bK d tr s bk p t kind bv lv cnt Lv ev tv) 295)::H1) ?_
 exact F.f1 ⟨rfl,H1,hD1,rfl⟩
theorem aFQ{fp d tr s bk p t:Nat}{kind cnt:Int}{bv lv Lv ev tv:Value}{σ:Dv}{r:Rg}{Hd:Hp}(hD:gO d σ Hd)(hr:r.Ok)(hlt:r.c<18446744073709551615)(o0:One bv)(o1:One lv)(o2:One Lv)(o3:One ev)(o4:One tv) :
  Tri prog 173 [ptv fp] ((fp,cl (bK d tr s bk p t kind bv lv cnt Lv ev tv) 295)::(tr,cl (trc d r) 200)::Hd) (fun _=>True)
  (fun v H=>v=.int .i64 (fV (σ,r)).1∧∃ Hd',gO d (fV (σ,r)).2.1 Hd'∧H=(fp,cl (bK d tr s bk p t kind bv lv cnt Lv ev tv) 295)::(tr,cl (trc d (fV (σ,r)).2.2) 200)::Hd'):=by
 refine Tri.mk func173 rfl ntmps173 rfl fun w hw=>?_
 have hrd:=aAm tr d r hr
 have hc0:=hr.c0
 have hr2:({ r with c:=r.c+1 }:Rg).Ok:=⟨hr.len,by show 0≤r.c+1;omega,by show r.c+1≤_;omega⟩
 have hst:=aIN tr d r { r with c:=r.c+1 } hr hr2 hD
 have hl:=mY hr
 have hl2:=mY hr2
 haveI i1:U64 r.c (UInt64.ofNat r.c.toNat):=⟨by rw [aV];omega⟩
 have e1:(((UInt64.ofNat r.c.toNat+1).toNat:Nat):Int)=r.c+1:=by
  rw [iI,aV,show (1:UInt64).toNat=1 from rfl];omega
 refine W.k ?_
 refine W.cw hrd ?_;intro b_
 rw [e1,show (rgc r).set 0 (.int .u64 (r.c+1))=rgc { r with c:=r.c+1 } from rfl]
 have eb:fV (σ,r)=(sE σ r { r with c:=r.c+1 },sD σ r { r with c:=r.c+1 },pG σ r { r with c:=r.c+1 }):=rfl
 rw [eb]
 generalize ({ r with c:=r.c+1 }:Rg)=r2 at *
 (refine SW.l [6] [0,1,2,3,4,5] ?_;refine cQ 6 ?_)
 refine aH hst ?_
 rintro _ _ ⟨rfl,H2,rfl,hD2⟩
 (refine SL.l [7,8] ?_)
 refine W.k ?_
 refine Fin.to ((fp,cl (bK d tr s bk p t kind bv lv cnt Lv ev tv) 295)::(tr,cl (trc d (pG σ r r2)) 200)::H2) ?_
 exact F.f1 ⟨rfl,H2,hD2,rfl⟩
def aAl(β:Bk)(bss:List (List UInt8)):Bk:=(β.adds (pS bss)).adds (rN (eR bss) (dep (eR bss).length))
theorem aCB(l:List (List UInt8))(b:List UInt8):pS (l++[b])=pS l++[jG l.length b]:=by unfold pS;rw [oO]
theorem aAE(l:List (List UInt8))(b:List UInt8):eR (l++[b])=eR l++[Sha.sum (jG l.length b)]:=by unfold eR;rw [oO]
theorem xN{fp d tr s bk tb p t:Nat}(h:Gm.Ok p t){kind cnt:Int}{bv lv Lv ev tv:Value}{bss:List (List UInt8)}{β:Bk}{Hk Hb:Hp}(hK:fB bk tb β Hk)(hB:Bls bv bss Hb)(o1:One lv)(o2:One Lv)(o3:One ev)(o4:One tv)(hn:bss.length=Gm.leaves p)(hb:∀ b∈bss,b.length=256) :
  Tri prog 216 [ptv fp] ((fp,cl (bK d tr s bk p t kind bv lv cnt Lv ev tv) 295)::(Hk++Hb)) (fun _=>True)
  (fun v H=>∃ tp be Ht Hk',v=.tuple #[ptv tp,.slice (some ⟨be,0,none⟩) (Gm.sealed p) (Gm.sealed p)]∧H=(fp,cl (bK d tr s bk p t kind bv lv cnt Lv ev tv) 295)::(be,cl (uv (rG ((bss.drop 1).take (Gm.epochs p)).flatten (Gm.sealed p))) 33)::(Ht++(Hk'++Hb)) ∧
   uE tp bk (eR bss) Ht∧fB bk tb (aAl β bss) Hk'):=by
 obtain⟨vs,Hv,Ht,hS,hR,rfl⟩:=hB
 have hbo:=hS.isOne
 have hvl:=hR.1
 obtain⟨ba,bl,bc,rfl,hbl⟩:=hS.form
 rw [Nat.mul_one,hvl] at hbl
 subst hbl
 have hlc:bss.length≤bc:=by
  rcases hS with ⟨hz,hz2,-⟩|⟨bb,len,cap,junk,hz,hxl,hj,hlc,-⟩
  ·simp only [Value.slice.injEq] at hz;omega
  ·simp only [Value.slice.injEq] at hz;omega
 have hll:=Gm.leaves_le h
 have hL:Gm.leaves p=1+Gm.epochs p+Gm.sealed p:=rfl
 have hep:=vA h
 have hRp:=hR.part 1 (Gm.epochs p)
 have hEp:=fun v=>aFh h v _ _ hRp (by rw [aI,aW];omega) (fun b hbm=>hb b (jC (eE hbm)))
 have hl1:1≤bss.length:=oQ
 refine Tri.mk func216 rfl ntmps216 rfl fun w hw=>?_
 refine W.j ?_
 refine bZ [0] Hk (fun x:Value×Hp×Hp=>[(4,x.1)]) (fun x=>x.2.1++x.2.2) (fun x=>Sl 55 32 x.1 (cbs (eR bss).flatten) x.2.2∧fB bk tb (β.adds (pS bss)) x.2.1) ?_ ?_
 ·refine W.k ?_
  refine bH [0,15,16] (fun x:Nat×Value×Hp×Hp=>[(4,x.2.1),(17,.int .i64 (x.1:Int))]) (fun x=>x.2.2.1++x.2.2.2) (fun x=>bss.length-x.1) (fun x=>x.1≤bss.length∧Sl 55 32 x.2.1 (cbs (eR (bss.take x.1)).flatten) x.2.2.2∧fB bk tb (β.adds (pS (bss.take x.1))) x.2.2.1) (0,.slice none 0 0,Hk,[]) ⟨Nat.zero_le _,by rw [dF];exact Sl.nil _ _,by rw [dF];exact hK⟩ ?_
  rintro⟨k,v2,Hk2,Hl2⟩ ⟨hk,hS2,hK2⟩
  dsimp only at hk hS2 hK2 ⊢
  have hS21:=hS2.isOne
  by_cases hkn:k<bss.length
  ·obtain⟨u,hu1,hu2⟩:=hR.2 k _ (aA hkn)
   have hbl:=hb _ (dO hkn)
   have htl:(bss.take k).length=k:=by rw [aI];omega
   have hts:bss.take (k+1)=bss.take k++[bss[k]]:=by rw [bG,aA hkn];rfl
   have hls:pS (bss.take (k+1))=pS (bss.take k)++[jG k bss[k]]:=by rw [hts,aCB,htl]
   have hss:eR (bss.take (k+1))=eR (bss.take k)++[Sha.sum (jG k bss[k])]:=by rw [hts,aAE,htl]
   have hfl:=eI (L:=eR (bss.take k)) (nL _)
   rw [iZ,htl] at hfl
   rcases hS with ⟨hz,hz2,-⟩|⟨bb,len,cap,junk,hz,hxl,hj,hlc2,rfl⟩
   ·simp only [Value.slice.injEq] at hz;omega
   simp only [Value.slice.injEq] at hz
   obtain⟨rfl,rfl,rfl⟩:=hz
   have hv:(vs++junk)[k]?=some u:=by rw [aK oQ];exact hu1
   have huo:=hu2.one
   have hlf:=aGe hK2 k u bss[k] oQ
   rw [show (β.adds (pS (bss.take k))).add (jG k bss[k])=β.adds (pS (bss.take (k+1))) by rw [hls];exact Bk.adds_one ..] at hlf
   have h32:(Sha.sum (jG k bss[k])).length=32:=Sha.sum_len _
   generalize Sha.sum (jG k bss[k])=y at *
   have hb1:=b1d h32
   have hc:=nR h32
   refine W.k ?_
   refine aH hlf ?_ (hpre:=fun w2 hs=>hu2.rd (Hc:=Hk2) hs)
   rintro _ Hk3 ⟨rfl,hK3⟩
   refine W.k fun b_=>?_
   refine W.ap (ys:=cbs y) (mm:=1) hS2 (fun w2 hs=>(Sl.own 55 32 b_ (xs:=cbs y) hc).srcAt hs inferInstance) (fun v3 H3 h3=>?_) (hys:=hc) (hbytes:=by rw [hc,aF,hfl];omega)
   have h31:=h3.isOne
   rw [show cbs (eR (bss.take k)).flatten++cbs y=cbs (eR (bss.take k)++[y]).flatten by simp,← hss] at h3
   refine W.k ?_
   refine aP.mk (k+1,v3,Hk3,H3) ?_
   exact⟨hkn,h3,hK3⟩
  ·have hk2:k=bss.length:=oQ
   rw [hk2,cK] at hS2 hK2
   subst hk2
   refine W.k ?_
   refine bU.mk (v2,Hk2,Hl2) ?_
   exact⟨hS2,hK2⟩
 rintro⟨v2,Hk2,Hl2⟩ ⟨hS2,hK2⟩
 dsimp only at hS2 hK2 ⊢
 have hS21:=hS2.isOne
 refine W.k ?_
 refine aH (aKS hK2 v2 (eR bss) (nL _) (by rw [iZ];omega) (by rw [iZ];omega)) ?_ (hpre:=fun w2 hs=>Rd.own (Hc:=Hk2) hS2 hs inferInstance)
 rintro _ _ ⟨tp,Htr,Hk3,rfl,rfl,hT,hK3⟩
 refine W.k ?_
 refine W.cw hep ?_
 (refine SW.l [12] [0,1,2,3,4,5,6,7,8,9,10] ?_;refine eW 11 rfl (aGy (lo:=none) (hi:=none) rfl rfl rfl rfl oQ oQ) ?_;refine cQ 12 ?_)
 rw [cN]
 refine dL (hEp _) rfl ?_ (hpre:=fun w2 hs=>by
  have:=(Rd.own (Hc:=Ht) hS hs inferInstance).cutN bc 1 (1+Gm.epochs p) (bc-1) oQ oQ oQ oQ
  rw [cN,Nat.mul_one,Nat.mul_one] at this
  exact this)
 rintro _ _ ⟨be,rfl,rfl⟩
 (refine SL.l [13,14,15,16,17,18] ?_)
 refine W.k ?_
 refine Fin.to ((fp,cl (bK d tr s bk p t kind (.slice ba bss.length bc) lv cnt Lv ev tv) 295)::(be,cl (uv (rG ((bss.drop 1).take (Gm.epochs p)).flatten (Gm.sealed p))) 33)::(Htr++(Hk3++(Hv++Ht)))) ?_
 exact F.f2 ⟨tp,be,Htr,Hk3,rfl,rfl,hT,hK3⟩
theorem aDe(c:Int){x:List UInt8}(h:x.length=32):bP (fun i=>[(0,1),(1,32)][i]?) ([.int .u64 0]++List.replicate 32 (.int .u8 0)) [(0,.int .u64 c),(1,dgV x)]=some (rgc { c:=c,root:=x }):=
 rF (off:=0) (n:=1) ([.int .u64 c]++List.replicate 32 (.int .u8 0)) rfl rfl (by simp) rfl (rF (off:=1) (n:=32) (rgc { c:=c,root:=x }) rfl (by simp [vl,h]) (by simp) (by simp [vl,h,rgc,cbs,bv]) rfl)
def rZ(β:Bk)(bss:List (List UInt8)):Bk:=(aAl β bss).add (lJ (eR bss).length (aBT (eR bss)))
theorem aFX{fp d tr s bk tb p t:Nat}(h:Gm.Ok p t){kind cnt:Int}{bv lv Lv ev tv:Value}{bss:List (List UInt8)}{β:Bk}{σ:Dv}{r:Rg}{Hd Hk Hb:Hp}(hD:gO d σ Hd)(hr:r.Ok)(hlt:r.c<18446744073709551615)(hK:fB bk tb β Hk)(hB:Bls bv bss Hb)(o1:One lv)(o2:One Lv)(o3:One ev)(o4:One tv)(hn:bss.length=Gm.leaves p)(hb:∀ b∈bss,b.length=256) :
  Tri prog 176 [ptv fp] ((fp,cl (bK d tr s bk p t kind bv lv cnt Lv ev tv) 295)::(tr,cl (trc d r) 200)::(Hd++(Hk++Hb))) (fun _=>True)
  (fun v H=>v=.int .i64 (aAM ⟨r.c+1,fS bss⟩ (σ,r)).1∧∃ Hd' Hk' Hx,gO d (aAM ⟨r.c+1,fS bss⟩ (σ,r)).2.1 Hd'∧fB bk tb (rZ β bss) Hk' ∧
   H=(fp,cl (bK d tr s bk p t kind bv lv cnt Lv ev tv) 295)::(tr,cl (trc d (aAM ⟨r.c+1,fS bss⟩ (σ,r)).2.2) 200)::(Hd'++(Hk'++(Hb++Hx)))):=by
 have hbo:One bv:=by obtain⟨vs,Hv,Ht,hS,hR,rfl⟩:=hB;exact hS.isOne
 refine Tri.mk func176 rfl ntmps176 rfl fun w hw=>?_
 have hpl:=xN (fp:=fp) (d:=d) (tr:=tr) (s:=s) (kind:=kind) (cnt:=cnt) h hK hB o1 o2 o3 o4 hn hb
 have hll:=Gm.leaves_le h
 have hrd:=aAm tr d r hr
 have hc0:=hr.c0
 have hsl:(eR bss).length≤1024:=by rw [iZ];omega
 have hr2:({ c:=r.c+1,root:=fS bss }:Rg).Ok:=⟨Sha.sum_len _,by show 0≤r.c+1;omega,by show r.c+1≤_;omega⟩
 have hst:=aIN tr d r { c:=r.c+1,root:=fS bss } hr hr2 hD
 have hl:=mY hr
 haveI i1:U64 r.c (UInt64.ofNat r.c.toNat):=⟨by rw [aV];omega⟩
 have e1:(((UInt64.ofNat r.c.toNat+1).toNat:Nat):Int)=r.c+1:=by
  rw [iI,aV,show (1:UInt64).toNat=1 from rfl];omega
 have eb:aAM ⟨r.c+1,fS bss⟩ (σ,r)=(sE σ r { c:=r.c+1,root:=fS bss },sD σ r { c:=r.c+1,root:=fS bss },pG σ r { c:=r.c+1,root:=fS bss }):=rfl
 rw [eb]
 have hrl:(fS bss).length=32:=Sha.sum_len _
 have hroot:uP (eR bss)=fS bss:=rfl
 have hbd:bP (fun i=>[(0,1),(1,32)][i]?) ([.int .u64 0]++List.replicate 32 (.int .u8 0)) [(0,.int .u64 (((UInt64.ofNat r.c.toNat+1).toNat:Nat):Int)),(1,dgV (fS bss))]=some (rgc { c:=r.c+1,root:=fS bss }):=by rw [e1];exact aDe _ hrl
 refine W.k ?_
 refine aH hpl ?_
 rintro _ _ ⟨tp,be,Ht,Hk2,rfl,rfl,hT,hK2⟩
 have hro:=aFs hT hK2 hsl
 rw [hroot] at hro
 refine W.k ?_
 (refine SW.l [16] [0,1,2,3,4,5,6,7,8,9,13] ?_;refine aU 10 ?_)
 refine W.cq hrd ?_
 (refine SL.l [11,12] ?_;refine aU 14 ?_)
 refine aH hro ?_
 rintro _ _ ⟨Hk3,rfl,rfl,hK3⟩
 (refine SL.l [15] ?_;refine cQ 16 ?_)
 refine aH hst ?_
 rintro _ _ ⟨rfl,H2,rfl,hD2⟩
 (refine SL.l [17,18] ?_)
 refine W.k ?_
 refine Fin.to ((fp,cl (bK d tr s bk p t kind bv lv cnt Lv ev tv) 295)::(tr,cl (trc d (pG σ r { c:=r.c+1,root:=fS bss })) 200)::(H2++(Hk3++(Hb++[])))) ?_
 exact F.f1 ⟨rfl,H2,Hk3,[],hD2,hK3,rfl⟩
def lG(s:Sr)(e:UInt64)(n:Nat):Sr:=(List.range n).foldl (fun s k=>s.hid (e,k) (List.replicate 256 0)) s
theorem aBs(s:Sr)(e:UInt64)(n:Nat):lG s e (n+1)=(lG s e n).hid (e,n) (List.replicate 256 0):=by unfold lG;rw [bJ,jB];rfl
theorem Bls.one{v:Value}{bss:List (List UInt8)}{H:Hp}(h:Bls v bss H):One v:=by obtain⟨vs,Hv,Ht,hS,hR,rfl⟩:=h;exact hS.isOne
theorem aDs{d tr s bk p t:Nat}(h:Gm.Ok p t){σ:Dv}{Hd:Hp}(hD:gO d σ Hd)(hlen:σ.len=256*Gm.total p t) :
  Tri prog 169 [uG d tr s bk p t] Hd (fun _=>True) (fun v H=>v=.int .i64 0∧H=Hd):=by
 refine Tri.mk func169 rfl ntmps169 rfl fun w hw=>?_
 have hck:=nF h
 have hln:=aGf hD
 have htt:=aCA h
 have htl:=Gm.total_le2 h
 have hby:=qH (k:=Gm.total p t) oQ
 rw [hlen] at hln
 generalize Gm.total p t=m at *
 refine W.k fun b_=>?_
 (refine SW.l [2,10,11] [0,1] ?_;refine cQ 2 ?_)
 refine W.cq hck ?_
 (refine SL.l [3,4,5,6,8,9] ?_;(first|refine dU 7 rfl ?_;(first|refine dU 10 rfl ?_;(first|refine dU 11 rfl ?_;refine SG.l [12,13,14,15] ?_|refine cQ 11 ?_)|refine cQ 10 ?_)|refine aU 7 ?_))
 refine aH hln ?_
 rintro _ Hd ⟨rfl,rfl⟩
 (refine bI [] ?_;(first|refine dU 10 rfl ?_;(first|refine dU 11 rfl ?_;refine SG.l [12,13,14,15] ?_|refine cQ 11 ?_)|refine cQ 10 ?_))
 refine W.cq htt ?_
 (refine bI [] ?_;(first|refine dU 11 rfl ?_;refine SG.l [12,13,14,15] ?_|refine cQ 11 ?_))
 refine W.cq hby ?_
 (refine SL.l [12,13,14,15] ?_)
 refine W.k ?_
 refine Fin.to Hd ?_
 exact F.f1 ⟨rfl,rfl⟩
theorem aHz{fp d tr sp bk p t c b n:Nat}{ws:List (List UInt8)}(h:Gm.Ok p t){kind cnt:Int}{bv lv Lv ev tv:Value}{s:Sr}{Hs:Hp}(hS:mE sp c b n ws s Hs)(hK:nT n ws)(o0:One bv)(o1:One lv)(o2:One Lv)(o3:One ev)(o4:One tv)(e:UInt64) :
  Tri prog 171 [ptv fp,dX e] ((fp,cl (bK d tr sp bk p t kind bv lv cnt Lv ev tv) 295)::Hs) (fun _=>True)
  (fun v H=>v=.int .i64 0∧∃ bv' Hs' Hb,mE sp c b n ws (lG s e (Gm.sealed p)) Hs'∧Bls bv' (fI p t (dH (Aes.enc ws n)) e) Hb∧H=(fp,cl (bK d tr sp bk p t kind bv' lv cnt Lv ev tv) 295)::(Hs'++Hb)):=by
 refine Tri.mk func171 rfl ntmps171 rfl fun w hw=>?_
 have hsb:=aCX h
 have hse:=rK h
 have hep:=vA h
 have hsl:=Gm.sealed_le h
 have hel:=Gm.epochs_le h
 have hbk:=fun k (hk:k<Gm.epochs p) v=>aCW h k hk v (List.replicate (Gm.sealed p) e) aM
 have hset:∀ v v':Value,(bK d tr sp bk p t kind v lv cnt Lv ev tv).set 7 v'=bK d tr sp bk p t kind v' lv cnt Lv ev tv:=fun v v'=>rfl
 have hbln:fI p t (dH (Aes.enc ws n)) e=(gA p t::(List.range (Gm.epochs p)).map fun k=>epB k (List.replicate (Gm.sealed p) e))++(List.range (Gm.sealed p)).map fun k=>dH (Aes.enc ws n) e k (List.replicate 256 0):=rfl
 rw [hbln]
 clear hbln
 generalize Gm.sealed p=m at *
 generalize Gm.epochs p=q at *
 refine W.k ?_
 refine aH hsb ?_
 rintro _ _ ⟨b1,rfl,rfl⟩
 have hb29:bP (fun i=>some (i*1,1)) (zs [.slice none 0 0] 1) [(0,.slice (some ⟨b1,0,none⟩) 256 256)]=some [.slice (some ⟨b1,0,none⟩) 256 256]:=rfl
 refine W.k fun b_=>?_
 rw [hset]
 refine W.cq hse ?_
 refine W.j fun b_=>?_
 rename_i b2
 rw [show zs [Value.int .u64 0] m=uv (List.replicate 0 e)++List.replicate (m-0) (.int .u64 0) by rw [kG];rfl]
 generalize b_=b3 at *
 refine SW.cut [0,1,7] [b3] (fun _:Unit=>[]) (fun _=>[(b3,cl (uv (List.replicate m e)) 33)]) (fun _=>True) ?_ ?_
 ·refine W.k ?_
  refine bX [0,1,7,40] [b3] (fun k:Nat=>[(41,.int .i64 (k:Int))]) (fun k=>[(b3,cl (uv (List.replicate k e)++List.replicate (m-k) (.int .u64 0)) 33)]) (fun k=>m-k) (fun k=>k≤m) 0 (Nat.zero_le _) ?_
  intro k hk
  by_cases hkm:k<m
  ·have hlt:k<(uv (List.replicate k e)++List.replicate (m-k) (Value.int .u64 0)).length:=by rw [aB,iA,aM,aM];omega
   have hf:=xD (uv (List.replicate k e)) (m-(k+1)) (.int .u64 0) (dX e)
   rw [show m-(k+1)+1=m-k by omega,iA,aM,show uv (List.replicate k e)++[dX e]=uv (List.replicate (k+1) e) by rw [nA];simp] at hf
   refine W.k ?_
   rw [hf]
   refine aP.mk (k+1) ?_
   omega
  ·have:k=m:=oQ
   subst this
   rw [cZ,List.replicate_zero,aE]
   refine W.k ?_
   refine bU.mk () ?_
   trivial
 rintro _ -
 refine W.k ?_
 refine W.cq hep ?_
 refine W.j ?_
 refine bZ [0,1,7] [(fp,cl (bK d tr sp bk p t kind (.slice (some ⟨b2,0,none⟩) 1 1) lv cnt Lv ev tv) 295),(b2,cl [.slice (some ⟨b1,0,none⟩) 256 256] 23),(b1,cl (cbs (gA p t)) 5)] (fun _:Value×Hp=>[]) (fun x=>(fp,cl (bK d tr sp bk p t kind x.1 lv cnt Lv ev tv) 295)::x.2) (fun x=>Bls x.1 (gA p t::(List.range q).map fun k=>epB k (List.replicate m e)) x.2) ?_ ?_
 ·have hE0:Sl 23 1 (.slice (some ⟨b2,0,none⟩) 1 1) [.slice (some ⟨b1,0,none⟩) 256 256] [(b2,cl [.slice (some ⟨b1,0,none⟩) 256 256] 23)]:=Sl.own _ 1 b2 (len:=1) rfl
  have hR0:RB [(b1,cl (cbs (gA p t)) 5)] [.slice (some ⟨b1,0,none⟩) 256 256] (gA p t::(List.range 0).map fun k=>epB k (List.replicate m e)):=(RB.nil _).snoc (RdH.of (Sl.own 5 1 b1 (len:=256) (xs:=cbs (gA p t)) (by rw [aF,vI])))
  refine W.k ?_
  refine bH [0,1,7,54] (fun x:Nat×Value×List Value×Hp×Hp=>[(55,.int .i64 (x.1:Int))]) (fun x=>(fp,cl (bK d tr sp bk p t kind x.2.1 lv cnt Lv ev tv) 295)::(x.2.2.2.1++x.2.2.2.2)) (fun x=>q-x.1) (fun x=>x.1≤q∧Sl 23 1 x.2.1 x.2.2.1 x.2.2.2.1∧RB x.2.2.2.2 x.2.2.1 (gA p t::(List.range x.1).map fun k=>epB k (List.replicate m e))) (0,.slice (some ⟨b2,0,none⟩) 1 1,[.slice (some ⟨b1,0,none⟩) 256 256],[(b2,cl [.slice (some ⟨b1,0,none⟩) 256 256] 23)],[(b1,cl (cbs (gA p t)) 5)]) ⟨Nat.zero_le _,hE0,hR0⟩ ?_
  rintro⟨j,v2,vs,Hv,Ht⟩ ⟨hj,hS2,hR2⟩
  dsimp only at hj hS2 hR2 ⊢
  have hS21:=hS2.isOne
  have hvl:vs.length=1+j:=by rw [hR2.1];simp;omega
  have hl3:(bK d tr sp bk p t kind v2 lv cnt Lv ev tv).length=13:=rfl
  by_cases hjq:j<q
  ·refine W.k ?_
   refine aH (hbk j hjq (.slice (some ⟨b3,0,none⟩) m m)) ?_ (hpre:=fun w2 hs=>Rd.own (Hc:=[]) (Sl.own 33 1 b3 (len:=m) (xs:=uv (List.replicate m e)) (by rw [iA,aM,Nat.mul_one])) hs inferInstance)
   rintro _ _ ⟨b5,rfl,rfl⟩
   have hb78:bP (fun i=>some (i*1,1)) (zs [.slice none 0 0] 1) [(0,.slice (some ⟨b5,0,none⟩) 256 256)]=some [.slice (some ⟨b5,0,none⟩) 256 256]:=rfl
   refine W.k fun b_=>?_
   refine W.ap hS2 (ys:=[.slice (some ⟨b5,0,none⟩) 256 256]) (mm:=1) (fun w2 hs=>(Sl.own 23 1 b_ (xs:=[.slice (some ⟨b5,0,none⟩) 256 256]) rfl).srcAt hs inferInstance) (fun v3 H3 h3=>?_) (hys:=rfl) (hbytes:=by rw [hvl];simp;omega)
   have h31:=h3.isOne
   refine W.k ?_
   rw [hset]
   refine aP.mk (j+1,v3,vs++[.slice (some ⟨b5,0,none⟩) 256 256],H3,(b5,cl (cbs (epB j (List.replicate m e))) 5)::Ht) ?_
   refine⟨hjq,h3,?_⟩
   show RB _ _ (gA p t::(List.range (j+1)).map fun k=>epB k (List.replicate m e))
   rw [bJ,bC,← eD]
   exact (hR2.mono fun x hx=>cC _ hx).snoc ((RdH.of (Sl.own 5 1 b5 (len:=256) (xs:=cbs (epB j (List.replicate m e))) (by rw [aF,yT]))).mono fun x hx=>by simp at hx;subst hx;simp)
  ·have:j=q:=oQ
   subst this
   refine W.k ?_
   refine bU.mk (v2,Hv++Ht) ?_
   exact⟨vs,Hv,Ht,hS2,hR2,rfl⟩
 rintro⟨v2,Hb2⟩ hB2
 dsimp only at hB2 ⊢
 have hB21:=hB2.one
 refine W.j ?_
 have hAl:(gA p t::(List.range q).map fun k=>epB k (List.replicate m e)).length≤1000000:=by simp;omega
 generalize (gA p t::(List.range q).map fun k=>epB k (List.replicate m e))=A at *
 refine bZ [] ((fp,cl (bK d tr sp bk p t kind v2 lv cnt Lv ev tv) 295)::(Hs++Hb2)) (fun _:Value×Hp×Hp=>[]) (fun x=>(fp,cl (bK d tr sp bk p t kind x.1 lv cnt Lv ev tv) 295)::(x.2.1++x.2.2)) (fun x=>mE sp c b n ws (lG s e m) x.2.1∧Bls x.1 (A++(List.range m).map fun k=>dH (Aes.enc ws n) e k (List.replicate 256 0)) x.2.2) ?_ ?_
 ·obtain⟨vs,Hv,Ht,hS2,hR2,rfl⟩:=hB2
  refine W.k ?_
  refine bH [0,1,84] (fun x:Nat×Value×List Value×Hp×Hp×Hp=>[(85,.int .i64 (x.1:Int))]) (fun x=>(fp,cl (bK d tr sp bk p t kind x.2.1 lv cnt Lv ev tv) 295)::(x.2.2.2.2.2++(x.2.2.2.1++x.2.2.2.2.1))) (fun x=>m-x.1) (fun x=>x.1≤m∧Sl 23 1 x.2.1 x.2.2.1 x.2.2.2.1∧RB x.2.2.2.2.1 x.2.2.1 (A++(List.range x.1).map fun k=>dH (Aes.enc ws n) e k (List.replicate 256 0))∧mE sp c b n ws (lG s e x.1) x.2.2.2.2.2) (0,v2,vs,Hv,Ht,Hs) ⟨Nat.zero_le _,hS2,by rw [List.range_zero,mC,aE];exact hR2,hS⟩ ?_
  rintro⟨j,v2,vs,Hv,Ht,Hs⟩ ⟨hj,hS2,hR2,hS⟩
  dsimp only at hj hS2 hR2 hS ⊢
  have hS21:=hS2.isOne
  have hvl:vs.length=A.length+j:=by rw [hR2.1,aB,aJ,dS]
  by_cases hjm:j<m
  ·have hbl:=aG9 hS hK e j oQ
   rw [← aBs] at hbl
   have hxl:=qC (E:=Aes.enc ws n) (fun x=>Aes.enc_len ..) e j (List.replicate 256 0)
   rw [aM] at hxl
   have hrs:A++(List.range (j+1)).map (fun k=>dH (Aes.enc ws n) e k (List.replicate 256 0))=(A++(List.range j).map fun k=>dH (Aes.enc ws n) e k (List.replicate 256 0))++[dH (Aes.enc ws n) e j (List.replicate 256 0)]:=by rw [bJ,bC,bF];rfl
   generalize dH (Aes.enc ws n) e j (List.replicate 256 0)=y at *
   refine W.k ?_
   refine aH hbl ?_
   rintro _ _ ⟨b5,Hs2,rfl,rfl,hS3⟩
   have hb78:bP (fun i=>some (i*1,1)) (zs [.slice none 0 0] 1) [(0,.slice (some ⟨b5,0,none⟩) 256 256)]=some [.slice (some ⟨b5,0,none⟩) 256 256]:=rfl
   refine W.k fun b_=>?_
   refine W.ap hS2 (ys:=[.slice (some ⟨b5,0,none⟩) 256 256]) (mm:=1) (fun w2 hs=>(Sl.own 23 1 b_ (xs:=[.slice (some ⟨b5,0,none⟩) 256 256]) rfl).srcAt hs inferInstance) (fun v3 H3 h3=>?_) (hys:=rfl) (hbytes:=by rw [hvl];simp;omega)
   have h31:=h3.isOne
   refine W.k ?_
   rw [hset]
   refine aP.mk (j+1,v3,vs++[.slice (some ⟨b5,0,none⟩) 256 256],H3,(b5,cl (cbs y) 5)::Ht,Hs2) ?_
   refine⟨hjm,h3,?_,hS3⟩
   show RB _ _ (A++(List.range (j+1)).map fun k=>dH (Aes.enc ws n) e k (List.replicate 256 0))
   rw [hrs]
   exact (hR2.mono fun x hx=>cC _ hx).snoc ((RdH.of (Sl.own 5 1 b5 (len:=256) (xs:=cbs y) (by rw [aF,hxl]))).mono fun x hx=>by simp at hx;subst hx;simp)
  ·have:j=m:=oQ
   subst this
   refine W.k ?_
   refine bU.mk (v2,Hs,Hv++Ht) ?_
   exact⟨hS,vs,Hv,Ht,hS2,hR2,rfl⟩
 rintro⟨v3,Hs3,Hb3⟩ ⟨hS3,hB3⟩
 dsimp only at hS3 hB3 ⊢
 have hB31:=hB3.one
 refine W.k ?_
 refine Fin.to ((fp,cl (bK d tr sp bk p t kind v3 lv cnt Lv ev tv) 295)::(Hs3++Hb3)) ?_
 exact F.f1 ⟨rfl,v3,Hs3,Hb3,hS3,hB3,rfl⟩
def jR(r:Rg):UInt64:=UInt64.ofNat (r.c+2).toNat
abbrev mN(p t n:Nat)(ws:List (List UInt8))(r:Rg):List (List UInt8):=fI p t (dH (Aes.enc ws n)) (jR r)
theorem oS(p t:Nat)(X:UInt64→Nat→List UInt8→List UInt8)(e:UInt64):(fI p t X e).length=Gm.leaves p:=by
 unfold fI Gm.leaves
 rw [aY,aB,aJ,aJ,dS,dS]
 omega
theorem mS{p t:Nat}{E:List UInt8→List UInt8}(hE:∀ x,(E x).length=16)(e:UInt64):∀ b∈fI p t (dH E) e,b.length=256:=fun b hb=>by
 unfold fI at hb
 rcases cB.1 hb with rfl|hb
 ·exact vI _ _
 ·rcases bQ.1 hb with hb|hb
  ·obtain⟨k,-,rfl⟩:=cA.1 hb;exact yT _ _
  ·obtain⟨k,-,rfl⟩:=cA.1 hb;rw [qC hE,aM]
def rV(p:Nat)(σ:Dv)(r:Rg)(s:Sr):Sr:=if 18446744073709551613<r.c then s else if (fV (σ,r)).1=0 then lG s (jR r) (Gm.sealed p) else s
def yN(p t n:Nat)(ws:List (List UInt8))(σ:Dv)(r:Rg)(β:Bk):Bk:=
 if 18446744073709551613<r.c then β else if (fV.and (cX p t (mN p t n ws r)).t (σ,r)).1=0 then rZ β (mN p t n ws r) else β
section
variable (d tr sp bk tb p t c b n:Nat)(ws:List (List UInt8))(σ:Dv)(r:Rg)(s:Sr)(β:Bk)(fp b4 b5:Nat)
abbrev fmH(bv:Value)(r':Rg)(Hd Hs Hk Hb:Hp):Hp:=(fp,cl (bK d tr sp bk p t 0 bv (.slice none 0 0) 0 (.slice none 0 0) (.slice none 0 0) (.pointer none)) 295)::(b5,cl [ptv fp] 293)::(b4,cl [.int .u64 r.c] 33)::(tr,cl (trc d r') 200)::(Hd++(Hs++(Hk++Hb)))
def fmJ(i:Nat)(H:Hp):Prop:=∃ (σ':Dv) (r':Rg) (s':Sr) (β':Bk) (bv:Value) (Hd Hs Hk Hb:Hp),gO d σ' Hd∧mE sp c b n ws s' Hs∧fB bk tb β' Hk∧One bv∧H.Perm (fmH d tr sp bk p t r fp b4 b5 bv r' Hd Hs Hk Hb) ∧
 match i with
 | 0=>σ'=σ∧r'=r∧s'=s∧β'=β∧Hb=[]
 | 1=>fV (σ,r)=(0,(σ',r'))∧s'=s∧β'=β∧Hb=[]
 | 2=>fV (σ,r)=(0,(σ',r'))∧s'=lG s (jR r) (Gm.sealed p)∧β'=β∧Bls bv (mN p t n ws r) Hb
 | 3=>(∃ σ1,fV (σ,r)=(0,(σ1,r'))∧gG (mN p t n ws r) σ1=(0,σ'))∧s'=lG s (jR r) (Gm.sealed p)∧β'=β∧Bls bv (mN p t n ws r) Hb
 | 4=>(∃ σ1,fV (σ,r)=(0,(σ1,r'))∧cX p t (mN p t n ws r) σ1=(0,σ'))∧s'=lG s (jR r) (Gm.sealed p)∧β'=β∧Bls bv (mN p t n ws r) Hb
 | _=>mH p t (dH (Aes.enc ws n)) (σ,r)=(0,(σ',r'))∧s'=rV p σ r s∧β'=yN p t n ws σ r β
def fmE(e:Int)(H:Hp):Prop:=∃ (σ':Dv) (r':Rg) (bv:Value) (Hd Hs Hk Hb:Hp),gO d σ' Hd∧mE sp c b n ws (rV p σ r s) Hs∧fB bk tb (yN p t n ws σ r β) Hk∧H.Perm (fmH d tr sp bk p t r fp b4 b5 bv r' Hd Hs Hk Hb)∧mH p t (dH (Aes.enc ws n)) (σ,r)=(e,(σ',r'))
end
theorem fZ{H H':Hp} [hp:eY H H' []]:H.Perm H':=by have:=hp.perm;rwa [aE] at this
theorem TS.and_ne{a b:TS}{x:Dv×Rg}(h:(a x).1≠0):(a.and b) x=a x:=by unfold TS.and;rw [if_neg h]
theorem TS.and_eq{a b:TS}{x y:Dv×Rg}(h:a x=(0,y)):(a.and b) x=b y:=by unfold TS.and;rw [h];rfl
theorem DS.and_ne{a b:DS}{x:Dv}(h:(a x).1≠0):(a.and b) x=a x:=by unfold DS.and;rw [if_neg h]
theorem DS.and_eq{a b:DS}{x y:Dv}(h:a x=(0,y)):(a.and b) x=b y:=by unfold DS.and;rw [h];rfl
theorem wD{α:Type}{x:Int×α}(h:x.1=0):x=(0,x.2):=by rw [← h]
theorem yQ(x:Dv×Rg):(fV x).2.1.ws.length=x.1.ws.length:=by
 show (sD _ _ _).ws.length=_
 unfold sD
 split
 ·rfl
 ·split
  ·rfl
  ·exact aJk _
theorem aFP{x y:Dv×Rg}(h:fV x=(0,y)):y.2.c=x.2.c+1∧y.2.root=x.2.root:=by
 have h1:sE x.1 x.2 { x.2 with c:=x.2.c+1 }=0:=congrArg Prod.fst h
 have h2:pG x.1 x.2 { x.2 with c:=x.2.c+1 }=y.2:=congrArg (fun z=>z.2.2) h
 rw [← h2]
 unfold sE at h1
 unfold pG
 split at h1
 ·omega
 ·rename_i h3
  rw [if_neg h3]
  split at h1
  ·omega
  ·rename_i h4
   rw [if_neg h4,if_pos h1]
   exact⟨rfl,rfl⟩
section
variable {d tr sp bk tb p t c b n:Nat}{ws:List (List UInt8)}{σ:Dv}{r:Rg}{s:Sr}{β:Bk}{fp b4 b5:Nat}
theorem fm0(hr:r.Ok)(hc:r.c≤18446744073709551613):qA prog (.func (.func 173) [ptv fp].toArray [].toArray) (fmJ d tr sp bk tb p t c b n ws σ r s β fp b4 b5 0) (fmJ d tr sp bk tb p t c b n ws σ r s β fp b4 b5 1) (fmE d tr sp bk tb p t c b n ws σ r s β fp b4 b5):=by
 refine⟨_,[ptv fp],[],rfl,inferInstance,fun Hc hJ=>?_⟩
 obtain⟨σ',r',s',β',bv,Hd,Hs,Hk,Hb,hD,hS,hK,o0,hp,rfl,rfl,rfl,rfl,rfl⟩:=hJ
 refine ((Tri.perm hp ((aFQ (fp:=fp) (tr:=tr) (s:=sp) (bk:=bk) (p:=p) (t:=t) (kind:=0) (cnt:=0) (bv:=bv) (lv:=.slice none 0 0) (Lv:=.slice none 0 0) (ev:=.slice none 0 0) (tv:=.pointer none) hD hr oQ o0 ⟨rfl⟩ ⟨rfl⟩ ⟨rfl⟩ ⟨rfl⟩).frame (r:=(b5,cl [ptv fp] 293)::(b4,cl [.int .u64 r'.c] 33)::(Hs++(Hk++[]))) fZ (fun _ _ _=>trivial)))).mono ?_
 rintro v H ⟨H1,rfl,rfl,Hd',hD',rfl⟩
 by_cases h0:(fV (σ',r')).1=0
 ·refine .inl ⟨by rw [h0],(fV (σ',r')).2.1,(fV (σ',r')).2.2,s',β',bv,Hd',Hs,Hk,[],hD',hS,hK,o0,fZ,wD h0,rfl,rfl,rfl⟩
 ·refine .inr ⟨_,h0,rfl,(fV (σ',r')).2.1,(fV (σ',r')).2.2,bv,Hd',Hs,Hk,[],hD',?_,?_,fZ,?_⟩
  ·unfold rV;rw [if_neg oQ,if_neg h0];exact hS
  ·unfold yN;rw [if_neg oQ,TS.and_ne h0,if_neg h0];exact hK
  ·unfold mH
   rw [if_neg (by show ¬ _<r'.c;omega)]
   exact TS.and_ne h0
theorem aD0{c0:Int}(h0:0≤c0)(h1:c0≤18446744073709551613):UInt64.ofNat c0.toNat+2=UInt64.ofNat (c0+2).toNat:=by
 apply UInt64.toNat_inj.1
 rw [iI,aV,aV,show (2:UInt64).toNat=2 from rfl]
 omega
theorem aJr(h:Gm.Ok p t)(h0:0≤r.c)(h1:r.c≤18446744073709551613){bv:Value}{s:Sr}{Hs:Hp}(hS:mE sp c b n ws s Hs)(hK:nT n ws)(o0:One bv) :
  Tri prog 170 [ptv b5,ptv b4] ((fp,cl (bK d tr sp bk p t 0 bv (.slice none 0 0) 0 (.slice none 0 0) (.slice none 0 0) (.pointer none)) 295)::(b5,cl [ptv fp] 293)::(b4,cl [.int .u64 r.c] 33)::Hs) (fun _=>True)
  (fun v H=>v=.int .i64 0∧∃ bv' Hs' Hb,mE sp c b n ws (lG s (jR r) (Gm.sealed p)) Hs'∧Bls bv' (mN p t n ws r) Hb∧H=(fp,cl (bK d tr sp bk p t 0 bv' (.slice none 0 0) 0 (.slice none 0 0) (.slice none 0 0) (.pointer none)) 295)::(b5,cl [ptv fp] 293)::(b4,cl [.int .u64 r.c] 33)::(Hs'++Hb)):=by
 refine Tri.mk func170 rfl ntmps170 rfl fun w hw=>?_
 have hbl:=aHz (fp:=fp) (d:=d) (tr:=tr) (bk:=bk) (kind:=0) (cnt:=0) (bv:=bv) (lv:=.slice none 0 0) (Lv:=.slice none 0 0) (ev:=.slice none 0 0) (tv:=.pointer none) h hS hK o0 ⟨rfl⟩ ⟨rfl⟩ ⟨rfl⟩ ⟨rfl⟩ (jR r)
 haveI i1:U64 r.c (UInt64.ofNat r.c.toNat):=⟨by rw [aV];omega⟩
 haveI i2:U64 2 2:=⟨rfl⟩
 unfold jR at hbl ⊢
 unfold mN jR
 rw [← aD0 h0 h1] at hbl ⊢
 refine W.k ?_
 refine aH hbl ?_
 rintro _ _ ⟨rfl,bv',Hs',Hb,hS',hB',rfl⟩
 refine W.k ?_
 refine Fin.to ((fp,cl (bK d tr sp bk p t 0 bv' (.slice none 0 0) 0 (.slice none 0 0) (.slice none 0 0) (.pointer none)) 295)::(b5,cl [ptv fp] 293)::(b4,cl [.int .u64 r.c] 33)::(Hs'++Hb)) ?_
 exact F.f1 ⟨rfl,bv',Hs',Hb,hS',hB',rfl⟩
theorem fm1(h:Gm.Ok p t)(hr:r.Ok)(hc:r.c≤18446744073709551613)(hK:nT n ws):qA prog (.func (.func 170) [].toArray [ptv b5,ptv b4].toArray) (fmJ d tr sp bk tb p t c b n ws σ r s β fp b4 b5 1) (fmJ d tr sp bk tb p t c b n ws σ r s β fp b4 b5 2) (fmE d tr sp bk tb p t c b n ws σ r s β fp b4 b5):=by
 refine⟨_,[],[ptv b5,ptv b4],rfl,inferInstance,fun Hc hJ=>?_⟩
 obtain⟨σ',r',s',β',bv,Hd,Hs,Hk,Hb,hD,hS,hB,o0,hp,hbm,rfl,rfl,rfl⟩:=hJ
 refine ((Tri.perm hp ((aJr (fp:=fp) (d:=d) (tr:=tr) (bk:=bk) (b4:=b4) (b5:=b5) (bv:=bv) h hr.c0 hc hS hK o0).frame (r:=(tr,cl (trc d r') 200)::(Hd++(Hk++[]))) fZ (fun _ _ _=>trivial)))).mono ?_
 rintro v H ⟨H1,rfl,rfl,bv',Hs',Hb,hS',hB',rfl⟩
 exact .inl ⟨rfl,σ',r',lG s' (jR r) (Gm.sealed p),β',bv',Hd,Hs',Hk,Hb,hD,hS',hB,hB'.one,fZ,hbm,rfl,rfl,hB'⟩
theorem fm2(h:Gm.Ok p t)(hc:r.c≤18446744073709551613)(h8:σ.ws.length%8=0):qA prog (.func (.func 174) [ptv fp].toArray [].toArray) (fmJ d tr sp bk tb p t c b n ws σ r s β fp b4 b5 2) (fmJ d tr sp bk tb p t c b n ws σ r s β fp b4 b5 3) (fmE d tr sp bk tb p t c b n ws σ r s β fp b4 b5):=by
 refine⟨_,[ptv fp],[],rfl,inferInstance,fun Hc hJ=>?_⟩
 obtain⟨σ',r',s',β',bv,Hd,Hs,Hk,Hb,hD,hS,hB,o0,hp,hbm,rfl,rfl,hBl⟩:=hJ
 have hw:=yQ (σ,r)
 rw [hbm] at hw
 have hll:=Gm.leaves_le h
 refine ((Tri.perm hp ((aEr (fp:=fp) (d:=d) (tr:=tr) (s:=sp) (bk:=bk) (p:=p) (t:=t) (kind:=0) (cnt:=0) (bv:=bv) (lv:=.slice none 0 0) (Lv:=.slice none 0 0) (ev:=.slice none 0 0) (tv:=.pointer none) hD (by rw [hw];exact h8) hBl ⟨rfl⟩ ⟨rfl⟩ ⟨rfl⟩ ⟨rfl⟩ (by rw [oS];omega) (mS (fun x=>Aes.enc_len ..) _)).frame (r:=(b5,cl [ptv fp] 293)::(b4,cl [.int .u64 r.c] 33)::(tr,cl (trc d r') 200)::(Hs++Hk)) fZ (fun _ _ _=>trivial)))).mono ?_
 rintro v H ⟨H1,rfl,rfl,Hd',hD',rfl⟩
 by_cases h0:(gG (mN p t n ws r) σ').1=0
 ·exact .inl ⟨by rw [h0],(gG (mN p t n ws r) σ').2,r',_,β',bv,Hd',Hs,Hk,Hb,hD',hS,hB,o0,fZ,⟨σ',hbm,wD h0⟩,rfl,rfl,hBl⟩
 ·have e1:(cX p t (mN p t n ws r)).t (σ',r')=((gG (mN p t n ws r) σ').1,(gG (mN p t n ws r) σ').2,r'):=by
   show (((gG (mN p t n ws r)).and _ σ').1,((gG (mN p t n ws r)).and _ σ').2,r')=_
   rw [DS.and_ne h0]
  refine .inr ⟨_,h0,rfl,(gG (mN p t n ws r) σ').2,r',bv,Hd',Hs,Hk,Hb,hD',?_,?_,fZ,?_⟩
  ·unfold rV;rw [if_neg oQ,if_pos (by rw [hbm])];exact hS
  ·unfold yN;rw [if_neg oQ,TS.and_eq hbm,e1,if_neg h0];exact hB
  ·unfold mH
   rw [if_neg (by show ¬ _<r.c;omega),TS.and_eq hbm,TS.and_ne (by rw [show (cX p t (fI p t (dH (Aes.enc ws n)) (UInt64.ofNat ((σ,r).2.c+2).toNat))).t (σ',r')=_ from e1];exact h0)]
   exact e1
theorem fm3(h:Gm.Ok p t)(hc:r.c≤18446744073709551613)(h8:σ.ws.length%8=0):qA prog (.func (.func 175) [ptv fp].toArray [].toArray) (fmJ d tr sp bk tb p t c b n ws σ r s β fp b4 b5 3) (fmJ d tr sp bk tb p t c b n ws σ r s β fp b4 b5 4) (fmE d tr sp bk tb p t c b n ws σ r s β fp b4 b5):=by
 refine⟨_,[ptv fp],[],rfl,inferInstance,fun Hc hJ=>?_⟩
 obtain⟨σ',r',s',β',bv,Hd,Hs,Hk,Hb,hD,hS,hB,o0,hp,⟨σ1,hbm,hwd⟩,rfl,rfl,hBl⟩:=hJ
 have hw:=yQ (σ,r)
 rw [hbm] at hw
 have hw2:=((mL (gJ 0 (mN p t n ws r))).and aBw) σ1
 rw [show ((putL (gJ 0 (mN p t n ws r))).and feS) σ1=(0,σ') from hwd] at hw2
 dsimp only at hw hw2
 refine ((Tri.perm hp ((aCI (fp:=fp) (d:=d) (tr:=tr) (s:=sp) (bk:=bk) (kind:=0) (cnt:=0) (bv:=bv) (lv:=.slice none 0 0) (Lv:=.slice none 0 0) (ev:=.slice none 0 0) (tv:=.pointer none) h hD (by rw [hw2,hw];exact h8) o0 ⟨rfl⟩ ⟨rfl⟩ ⟨rfl⟩ ⟨rfl⟩).frame (r:=(b5,cl [ptv fp] 293)::(b4,cl [.int .u64 r.c] 33)::(tr,cl (trc d r') 200)::(Hs++(Hk++Hb))) fZ (fun _ _ _=>trivial)))).mono ?_
 rintro v H ⟨H1,rfl,rfl,Hd',hD',rfl⟩
 have e0:cX p t (mN p t n ws r) σ1=gM (Gm.leaves p) (1+t) σ':=DS.and_eq hwd
 by_cases h0:(gM (Gm.leaves p) (1+t) σ').1=0
 ·exact .inl ⟨by rw [h0],(gM (Gm.leaves p) (1+t) σ').2,r',_,β',bv,Hd',Hs,Hk,Hb,hD',hS,hB,o0,fZ,⟨σ1,hbm,by rw [e0];exact wD h0⟩,rfl,rfl,hBl⟩
 ·have e1:(cX p t (mN p t n ws r)).t (σ1,r')=((gM (Gm.leaves p) (1+t) σ').1,(gM (Gm.leaves p) (1+t) σ').2,r'):=by
   show ((cX p t (mN p t n ws r) σ1).1,(cX p t (mN p t n ws r) σ1).2,r')=_
   rw [e0]
  refine .inr ⟨_,h0,rfl,(gM (Gm.leaves p) (1+t) σ').2,r',bv,Hd',Hs,Hk,Hb,hD',?_,?_,fZ,?_⟩
  ·unfold rV;rw [if_neg oQ,if_pos (by rw [hbm])];exact hS
  ·unfold yN;rw [if_neg oQ,TS.and_eq hbm,e1,if_neg h0];exact hB
  ·unfold mH
   rw [if_neg (by show ¬ _<r.c;omega),TS.and_eq hbm,TS.and_ne (by rw [show (cX p t (fI p t (dH (Aes.enc ws n)) (UInt64.ofNat ((σ,r).2.c+2).toNat))).t (σ1,r')=_ from e1];exact h0)]
   exact e1
theorem fm4(h:Gm.Ok p t)(hr:r.Ok)(hc:r.c≤18446744073709551613):qA prog (.func (.func 176) [ptv fp].toArray [].toArray) (fmJ d tr sp bk tb p t c b n ws σ r s β fp b4 b5 4) (fmJ d tr sp bk tb p t c b n ws σ r s β fp b4 b5 5) (fmE d tr sp bk tb p t c b n ws σ r s β fp b4 b5):=by
 refine⟨_,[ptv fp],[],rfl,inferInstance,fun Hc hJ=>?_⟩
 obtain⟨σ',r',s',β',bv,Hd,Hs,Hk,Hb,hD,hS,hB,o0,hp,⟨σ1,hbm,hwd⟩,rfl,rfl,hBl⟩:=hJ
 obtain⟨hbc,hbr⟩:=aFP hbm
 dsimp only at hbc hbr
 have hr0:=hr.c0
 refine ((Tri.perm hp ((aFX (fp:=fp) (d:=d) (tr:=tr) (s:=sp) (kind:=0) (cnt:=0) (bv:=bv) (lv:=.slice none 0 0) (Lv:=.slice none 0 0) (ev:=.slice none 0 0) (tv:=.pointer none) (r:=r') h hD ⟨by rw [hbr];exact hr.len,by omega,by omega⟩ oQ hB hBl ⟨rfl⟩ ⟨rfl⟩ ⟨rfl⟩ ⟨rfl⟩ (oS ..) (mS (fun x=>Aes.enc_len ..) _)).frame (r:=(b5,cl [ptv fp] 293)::(b4,cl [.int .u64 r.c] 33)::Hs) fZ (fun _ _ _=>trivial)))).mono ?_
 rintro v H ⟨H1,rfl,rfl,Hd',Hk',Hx,hD',hB',rfl⟩
 have ew:(cX p t (mN p t n ws r)).t (σ1,r')=(0,σ',r'):=by
  show ((cX p t (mN p t n ws r) σ1).1,(cX p t (mN p t n ws r) σ1).2,r')=_
  rw [hwd]
 have ef:mH p t (dH (Aes.enc ws n)) (σ,r)=aAM ⟨r'.c+1,fS (mN p t n ws r)⟩ (σ',r'):=by
  unfold mH
  rw [if_neg (by show ¬ _<r.c;omega),TS.and_eq hbm]
  exact TS.and_eq ew
 have ek:yN p t n ws σ r β'=rZ β' (mN p t n ws r):=by
  unfold yN;rw [if_neg oQ,TS.and_eq hbm,ew,if_pos rfl]
 have es:rV p σ r s=lG s (jR r) (Gm.sealed p):=by
  unfold rV;rw [if_neg oQ,if_pos (by rw [hbm])]
 rw [← ef] at hD' ⊢
 rw [← ek] at hB'
 rw [← es] at hS
 generalize hF:mH p t (dH (Aes.enc ws n)) (σ,r)=F at *
 obtain⟨e,σ2,r2⟩:=F
 by_cases h0:e=0
 ·subst h0
  exact .inl ⟨rfl,σ2,r2,_,_,bv,Hd',Hs,Hk',Hb++Hx,hD',hS,hB',o0,fZ,hF,es.symm▸rfl,rfl⟩
 ·exact .inr ⟨e,h0,rfl,σ2,r2,bv,Hd',Hs,Hk',Hb++Hx,hD',hS,hB',fZ,hF⟩
end
def aJp(fp b5 b4:Nat):List Value:=[.func (.func 173) #[ptv fp] #[],.func (.func 170) #[] #[ptv b5,ptv b4],.func (.func 174) #[ptv fp] #[],.func (.func 175) #[ptv fp] #[],.func (.func 176) #[ptv fp] #[]]
theorem aJq(fp b5 b4:Nat):bP (fun i=>some (i*1,1)) (zs [.nilFunc] 5) [(0,.func (.func 173) #[ptv fp] #[]),(1,.func (.func 170) #[] #[ptv b5,ptv b4]),(2,.func (.func 174) #[ptv fp] #[]),(3,.func (.func 175) #[ptv fp] #[]),(4,.func (.func 176) #[ptv fp] #[])]=some (aJp fp b5 b4):=rfl
theorem aFm{d tr sp bk tb p t c b n:Nat}{ws:List (List UInt8)}{σ:Dv}{r:Rg}{s:Sr}{β:Bk}{Hd Hs Hk:Hp}(h:Gm.Ok p t)(hD:gO d σ Hd)(hlen:σ.len=256*Gm.total p t)(hr:r.Ok)(hS:mE sp c b n ws s Hs)(hK:nT n ws)(hB:fB bk tb β Hk) :
  Tri prog 125 [uG d tr sp bk p t] ((tr,cl (trc d r) 200)::(Hd++(Hs++Hk))) (fun _=>True)
  (fun v H=>v=.int .i64 (mH p t (dH (Aes.enc ws n)) (σ,r)).1∧∃ Hd' Hs' Hk' Hx,gO d (mH p t (dH (Aes.enc ws n)) (σ,r)).2.1 Hd'∧mE sp c b n ws (rV p σ r s) Hs'∧fB bk tb (yN p t n ws σ r β) Hk' ∧
   H=(tr,cl (trc d (mH p t (dH (Aes.enc ws n)) (σ,r)).2.2) 200)::(Hd'++(Hs'++(Hk'++Hx)))):=by
 refine Tri.mk func125 rfl ntmps125 rfl fun w hw=>?_
 have hmy:=aDs (tr:=tr) (s:=sp) (bk:=bk) h hD hlen
 have hrd:=aAm tr d r hr
 have h8:σ.ws.length%8=0:=by unfold Dv.len at hlen;omega
 have h0:=hr.c0
 have h1:=hr.c1
 refine W.k fun b_=>?_
 refine aH hmy ?_
 rintro _ Hd ⟨rfl,rfl⟩
 refine W.k ?_
 refine W.cq hrd ?_
 by_cases hc:r.c≤18446744073709551613
 ·have hbf:bP (fun i=>[(0,6),(6,1),(7,1),(8,1),(9,2),(11,1),(12,1)][i]?) (List.replicate 4 (.pointer none)++[.int .i64 0,.int .i64 0,.int .i64 0]++[.slice none 0 0,.slice none 0 0]++[.int .u64 0]++[.slice none 0 0,.slice none 0 0]++[.pointer none]) [(0,uG d tr sp bk p t)]=some (bK d tr sp bk p t 0 (.slice none 0 0) (.slice none 0 0) 0 (.slice none 0 0) (.slice none 0 0) (.pointer none)):=rfl
  repeat' (first|(refine iO (fun b_=>?_) (hr:=aJq _ _ _))|(refine W.go ?_;try intro b_)|fail)
  rename_i b1 b4 fp b5
  rw [show ([.pointer none]:List Value).set 0 (ptv fp)=[ptv fp] from rfl,show ([.int .u64 0]:List Value).set 0 (.int .u64 r.c)=[.int .u64 r.c] from rfl]
  have hfs:∀ i v,(aJp fp b5 b4)[i]?=some v→qA prog v (fmJ d tr sp bk tb p t c b n ws σ r s β fp b4 b5 i) (fmJ d tr sp bk tb p t c b n ws σ r s β fp b4 b5 (i+1)) (fmE d tr sp bk tb p t c b n ws σ r s β fp b4 b5):=fun i v hv=>by
   have hi:=(aD.1 hv).1
   have hi5:i<5:=hi
   rcases (by omega:i=0∨i=1∨i=2∨i=3∨i=4) with rfl|rfl|rfl|rfl|rfl
   ·cases hv;exact fm0 hr hc
   ·cases hv;exact fm1 h hr hc hK
   ·cases hv;exact fm2 h hc h8
   ·cases hv;exact fm3 h hc h8
   ·cases hv;exact fm4 h hr hc
  have hJ0:fmJ d tr sp bk tb p t c b n ws σ r s β fp b4 b5 0 (fmH d tr sp bk p t r fp b4 b5 (.slice none 0 0) r Hd Hs Hk []):=⟨σ,r,s,β,.slice none 0 0,Hd,Hs,Hk,[],hD,hS,hB,⟨rfl⟩,List.Perm.refl _,rfl,rfl,rfl,rfl,rfl⟩
  refine aH (aI9 b_ (aJp fp b5 b4) (by show 5≤1000;decide) hfs hJ0) ?_
  rintro v H ⟨H',rfl,hh⟩
  rcases hh with ⟨rfl,hJ⟩|⟨e,he,rfl,hE⟩
  ·obtain⟨σ',r',s',β',bv,Hd',Hs',Hk',Hb',hD',hS',hB',o0,hp,hF,rfl,rfl⟩:=hJ
   rw [hF]
   refine W.k ?_
   refine Fin.to H' ?_
   refine Fin.perm hp ?_
   refine Fin.to ((tr,cl (trc d r') 200)::(Hd'++(Hs'++(Hk'++Hb')))) ?_
   exact F.f1 ⟨rfl,Hd',Hs',Hk',Hb',hD',hS',hB',rfl⟩
  ·obtain⟨σ',r',bv,Hd',Hs',Hk',Hb',hD',hS',hB',hp,hF⟩:=hE
   rw [hF]
   refine W.k ?_
   refine Fin.to H' ?_
   refine Fin.perm hp ?_
   refine Fin.to ((tr,cl (trc d r') 200)::(Hd'++(Hs'++(Hk'++Hb')))) ?_
   exact F.f1 ⟨rfl,Hd',Hs',Hk',Hb',hD',hS',hB',rfl⟩
 ·have ef:mH p t (dH (Aes.enc ws n)) (σ,r)=(21,(σ,r)):=by unfold mH;rw [if_pos (by show _<r.c;omega)]
  have es:rV p σ r s=s:=by unfold rV;rw [if_pos oQ]
  have ek:yN p t n ws σ r β=β:=by unfold yN;rw [if_pos oQ]
  rw [ef,es,ek]
  refine W.k fun b_=>?_
  refine Fin.to ((tr,cl (trc d r) 200)::(Hd++(Hs++(Hk++[])))) ?_
  exact F.f1 ⟨rfl,Hd,Hs,Hk,[],hD,hS,hB,rfl⟩
end
structure So where
 es:List UInt64
 lv:List (List UInt8)
 w:Bool
 st:Int
abbrev Ks(p:Nat)(k:Nat):Nat:=1+Gm.epochs p+k
def rdS(p:Nat)(X:UInt64→Nat→List UInt8→List UInt8)(k:Int)(σ:Dv)(s:So):Int×List UInt8×So:=
 if s.st≠0 then (s.st,[],s) else if ¬ (0≤k∧k<(Gm.sealed p:Nat)) then (3,[],s) else
 if σ.down=true then (8,[],{ s with st:=8 }) else
 if Sha.sum (jG (Ks p k.toNat) (σ.blk (Ks p k.toNat)))≠qL s.lv (Ks p k.toNat) then (20,[],{ s with st:=20 }) else
 (0,X (s.es.getD k.toNat 0) k.toNat (σ.blk (Ks p k.toNat)),s)
theorem tY(c:UInt64)(l:List Ent):∀ es:List UInt64,(lO c es l).length=es.length:=by
 unfold lO
 induction l with
 | nil=>intro es;rfl
 | cons x l ih=>intro es;rw [gK,ih,cT]
structure Dv.Sta(σ:Dv)(n:Nat)(M:List UInt8):Prop where
 l:σ.Live
 ok:∀ w∈σ.ws,w.Ok
 n:σ.ws.length=n
 m:lQ σ.ws=M
theorem Dv.Sta.ml{σ:Dv}{n:Nat}{M:List UInt8}(h:σ.Sta n M):M.length=8*n:=by rw [← h.m,tB h.ok,h.n]
theorem Dv.Sta.len{σ:Dv}{n:Nat}{M:List UInt8}(h:σ.Sta n M):σ.len=8*n:=by unfold Dv.len;rw [h.n]
theorem Dv.Sta.store{σ:Dv}{n:Nat}{M:List UInt8}(h:σ.Sta n M){i:Nat}{bs:List UInt8}(hl:i+bs.length≤8*n):σ.actR i bs.length=0∧(σ.store i bs).Sta n (spl M i bs):=by
 obtain⟨h1,h2,h3⟩:=h.l.store (i:=i) (bs:=bs) (by rw [h.len];exact hl)
 refine⟨h3,h1,?_,?_,?_⟩
 ·rw [h2];exact aA7 (fun j c w h=>Wd.ps_ok j c h) bs _ _ h.ok
 ·rw [h2,nG];exact h.n
 ·rw [h2,(aEf bs σ.ws i h.ok (by rw [h.n];exact hl)).1,h.m]
theorem Dv.Sta.flush{σ:Dv}{n:Nat}{M:List UInt8}(h:σ.Sta n M){i m:Nat}(hl:i+m≤8*n):σ.actR i m=0∧(σ.flush i m).Sta n M:=by
 obtain⟨h1,h2,h3⟩:=h.l.flush (i:=i) (n:=m) (by rw [h.len];exact hl)
 refine⟨h3,h1,?_,?_,?_⟩
 ·rw [h2];unfold jP;split
  ·exact h.ok
  ·exact tT (fun w=>Wd.flushed_ok) _ _ h.ok
 ·rw [aCw];exact h.n
 ·rw [h2,(aDj _ _ _).1,h.m]
theorem Dv.Sta.fence{σ:Dv}{n:Nat}{M:List UInt8}(h:σ.Sta n M):(feS σ).1=0∧(feS σ).2.Sta n M:=by
 obtain⟨h1,h2,h3⟩:=h.l.fence
 refine⟨h3,h1,?_,?_,?_⟩
 ·show ∀ w∈σ.fence.ws,_
  rw [h2];intro w hw;obtain⟨u,hu,rfl⟩:=cA.1 hw;exact Wd.fenced_ok (h.ok u hu)
 ·show σ.fence.ws.length=_
  rw [sQ];exact h.n
 ·show lQ σ.fence.ws=_
  rw [h2,← h.m]
  unfold lQ
  rw [List.flatMap_map]
  congr 1;funext w;exact zZ w
theorem Dv.Sta.doo{σ:Dv}{n:Nat}{M:List UInt8}(h:σ.Sta n M):σ.dooE=0∧σ.doo.Sta n M:=by
 obtain⟨h1,h2,h3⟩:=h.l.act (4,0,0)
 have e:σ.doo=σ.act (4,0,0):=by unfold Dv.doo;rw [if_neg (by rw [h.l.d];decide)]
 have e2:σ.dooE=0:=by unfold Dv.dooE;rw [if_neg (by rw [h.l.d];decide)];exact h3
 rw [e,e2]
 exact⟨rfl,h1,by rw [h2];exact h.ok,by rw [h2];exact h.n,by rw [h2];exact h.m⟩
theorem DS.and_sta{a b:DS}{σ:Dv}{n:Nat}{M N:List UInt8}(ha:(a σ).1=0∧(a σ).2.Sta n M)(hb:∀ τ:Dv,τ.Sta n M→(b τ).1=0∧(b τ).2.Sta n N):((a.and b) σ).1=0∧((a.and b) σ).2.Sta n N:=by
 unfold DS.and
 rw [if_pos ha.1]
 exact hb _ ha.2
theorem Dv.Sta.put{σ:Dv}{n:Nat}{M:List UInt8}(h:σ.Sta n M){k:Nat}{bs:List UInt8}(hl:256*k+bs.length≤8*n):(fU k bs σ).1=0∧(fU k bs σ).2.Sta n (spl M (256*k) bs):=
 DS.and_sta (a:=stS (256*k) bs) (h.store (i:=256*k) hl) fun τ ht=>ht.flush (i:=256*k) (m:=bs.length) hl
theorem aBS(M:List UInt8)(i:Nat)(a b:List UInt8)(hl:i+a.length+b.length≤M.length):spl (spl M i a) (i+a.length) b=spl M i (a++b):=by
 unfold spl
 have e1:(M.take i).length=i:=by rw [aI];omega
 have e2:(M.take i++a).length=i+a.length:=by rw [aB,e1]
 rw [dG e2,aB,show i+a.length+b.length=(M.take i++a).length+b.length by rw [e2],fK,cG,e2,(cD oQ:List.drop (i+a.length+b.length) (M.take i++a)=[])]
 rw [show i+a.length+(i+a.length+b.length-(i+a.length))=i+(a.length+b.length) by omega]
 simp only [bF,List.nil_append]
theorem Dv.Sta.putL:∀ (l:List (List UInt8)) {σ:Dv} {n:Nat} {M:List UInt8} (h:σ.Sta n M) (k:Nat) (hb:∀ b∈l,b.length=256) (hl:256*(k+l.length)≤8*n),(putL (gJ k l) σ).1=0∧(putL (gJ k l) σ).2.Sta n (spl M (256*k) l.flatten)
 | [],σ,n,M,h,k,hb,hl=>by
  refine⟨rfl,?_⟩
  show σ.Sta n _
  have:spl M (256*k) ([]:List (List UInt8)).flatten=M:=by unfold spl;simp
  rw [this]
  exact h
 | b::l,σ,n,M,h,k,hb,hl=>by
  have hb0:=hb b (by simp)
  simp only [aY] at hl
  have hrow:gJ k (b::l)=(k,b)::gJ (k+1) l:=by
   unfold gJ
   rw [List.mapIdx_cons]
   congr 1
   apply List.mapIdx_eq_mapIdx_iff.2 ?_
   intro i hi
   rw [show k+(i+1)=k+1+i by omega]
  rw [hrow]
  refine DS.and_sta (a:=fU k b) (h.put (k:=k) (bs:=b) oQ) fun τ ht=>?_
  have:=Dv.Sta.putL l ht (k+1) (fun x hx=>hb x (by simp [hx])) oQ
  have hfl:l.flatten.length=256*l.length:=by
   clear this ht hrow hl h
   induction l with
   | nil=>rfl
   | cons x r ih=>
    rw [dR,aB,hb x (by simp),ih (fun y hy=>hb y (by
     rcases cB.1 hy with rfl|hy
     ·simp
     ·simp [hy])),aY]
    omega
  have e:=aBS M (256*k) b l.flatten (by rw [h.ml,hfl,hb0];omega)
  rw [hb0,show 256*k+256=256*(k+1) by omega] at e
  rw [e] at this
  exact this
theorem zQ{σ:Dv}{r:Rg}{n:Nat}{M:List UInt8}(h:σ.Sta n M)(x:Rg)(hx:r.c<x.c):∃ σ',(aAM x) (σ,r)=(0,(σ',x))∧σ'.Sta n M:=by
 obtain⟨h1,h2⟩:=h.doo
 refine⟨σ.doo,?_,h2⟩
 unfold aAM sE sD pG
 simp only [h.l.d,jS,if_false,h1,if_true]
 rw [if_neg oQ,if_neg oQ,if_neg oQ]
theorem aHO{p t:Nat}{σ:Dv}{r:Rg}{X:UInt64→Nat→List UInt8→List UInt8}{n:Nat}{M:List UInt8}(h:σ.Sta n M)(hn:8*n=256*(Gm.leaves p+(1+t)))(hc:r.c≤18446744073709551613)
  (h256:∀ b∈fI p t X (UInt64.ofNat (r.c+2).toNat),b.length=256) (hbl:(fI p t X (UInt64.ofNat (r.c+2).toNat)).length=Gm.leaves p) :
  ∃ σ',mH p t X (σ,r)=(0,(σ',{ c:=r.c+2,root:=fS (fI p t X (UInt64.ofNat (r.c+2).toNat)) }))∧σ'.Sta n ((fI p t X (UInt64.ofNat (r.c+2).toNat)).flatten++List.replicate (256*(1+t)) 0):=by
 unfold mH
 rw [if_neg (by show ¬ _<r.c;omega)]
 generalize fI p t X (UInt64.ofNat (r.c+2).toNat)=B at *
 obtain⟨σ1,e1,h1⟩:=zQ h { r with c:=r.c+1 } (by show r.c<r.c+1;omega)
 rw [TS.and_eq (show fV (σ,r)=(0,(σ1,{ r with c:=r.c+1 })) from e1)]
 have hfl:B.flatten.length=256*B.length:=by
  clear hbl
  induction B with
  | nil=>rfl
  | cons x r ih=>rw [dR,aB,h256 x (by simp),ih (fun y hy=>h256 y (by simp [hy])),aY];omega
 have hM:=h.ml
 have hD:(cX p t B σ1).1=0∧(cX p t B σ1).2.Sta n (spl (spl M (256*0) B.flatten) (256*Gm.leaves p) (List.replicate (256*(1+t)) 0)):=by
  refine DS.and_sta (DS.and_sta (Dv.Sta.putL B h1 0 h256 (by rw [hbl];omega)) fun τ ht=>ht.fence) fun τ ht=>?_
  refine DS.and_sta (a:=fU (Gm.leaves p) (List.replicate (256*(1+t)) 0)) (ht.put (by rw [aM];omega)) fun τ' ht'=>ht'.fence
 have es:spl (spl M (256*0) B.flatten) (256*Gm.leaves p) (List.replicate (256*(1+t)) 0)=B.flatten++List.replicate (256*(1+t)) 0:=by
  rw [show 256*Gm.leaves p=256*0+B.flatten.length by rw [hfl,hbl];omega,aBS _ _ _ _ (by rw [hfl,hbl,aM];omega)]
  unfold spl
  rw [show 256*0=0 from rfl,dF,List.nil_append,cD (by rw [aB,hfl,hbl,aM];omega),aE]
 rw [es] at hD
 obtain⟨e2,h2⟩:=hD
 rw [TS.and_eq (y:=((cX p t B σ1).2,{ r with c:=r.c+1 })) (by unfold DS.t;dsimp only;rw [e2])]
 obtain⟨σ3,e3,h3⟩:=zQ (r:={ r with c:=r.c+1 }) h2 { c:=r.c+2,root:=fS B } (by show r.c+1<r.c+2;omega)
 refine⟨σ3,?_,h3⟩
 show aAM ⟨r.c+1+1,fS B⟩ ((cX p t B σ1).2,{ r with c:=r.c+1 })=_
 rw [show r.c+1+1=r.c+2 by omega]
 exact e3
theorem aDZ{l:List (List UInt8)}(hl:∀ b∈l,b.length=256)(R:List UInt8):∀ {k:Nat} {b:List UInt8},l[k]?=some b→((l.flatten++R).drop (256*k)).take 256=b:=by
 induction l with
 | nil=>intro k b h;simp at h
 | cons x r ih=>
  intro k b h
  have hx:=hl x (by simp)
  cases k with
  | zero=>
   simp at h;subst h
   rw [Nat.mul_zero,bN,dR,bF,dG hx]
  | succ k=>
   rw [dR,bF,show 256*(k+1)=x.length+256*k by rw [hx];omega,fK,← ih (fun y hy=>hl y (by simp [hy])) h,(cD oQ:List.drop (x.length+256*k) x=[]),List.nil_append,cN]
theorem Dv.Sta.blk{σ:Dv}{n:Nat}{B:List (List UInt8)}{R:List UInt8}(h:σ.Sta n (B.flatten++R))(hB:∀ b∈B,b.length=256){k:Nat}{b:List UInt8}(hk:B[k]?=some b)(hl:256*(k+1)≤8*n):σ.blk k=b:=by
 unfold Dv.blk Dv.loadB
 rw [if_pos (h.l.rdy oQ oQ (by rw [h.len];omega)),h.m,aX]
 exact aDZ hB R hk
theorem Dv.Sta.blks{σ:Dv}{n:Nat}{B:List (List UInt8)}{R:List UInt8}(h:σ.Sta n (B.flatten++R))(hB:∀ b∈B,b.length=256)(hl:256*B.length≤8*n):σ.blks 0 B.length=B:=by
 unfold Dv.blks
 apply cJ
 intro i
 rw [aL]
 by_cases hi:i<B.length
 ·rw [dY hi,Option.map_some,aA hi,eX]
  exact congrArg some (h.blk hB (aA hi) oQ)
 ·rw [bE (l:=List.range B.length) (by rw [dS];omega),bE (l:=B) oQ];rfl
theorem aD7(n:Nat)(hn:n≤1024):(Dv.new (n:Int)).Sta (8*n) (List.replicate (64*n) 0):=by
 have e:(8*min (max (n:Int) 0) 1024).toNat=8*n:=oQ
 refine⟨⟨rfl,rfl⟩,(Dv.new_ok _).ok,by unfold Dv.new;rw [e,aM],?_⟩
 unfold Dv.new lQ
 rw [e]
 show (List.replicate (8*n) Wd.zero).flatMap Wd.now=_
 have:∀ m,(List.replicate m Wd.zero).flatMap Wd.now=List.replicate (8*m) 0:=fun m=>by
  induction m with
  | zero=>rfl
  | succ m ih=>rw [eL,eQ,ih,show 8*(m+1)=8+8*m by omega,← fF];rfl
 rw [this,show 8*(8*n)=64*n by omega]
section
section
variable {P:Program}{C:Ctx}{ρ:Fr}{H:Hp}{t t' len:Nat}{x y:Operand}{a b:List UInt8}{o:Oper}
theorem aHU(ho:o.op=.binOp .eql t x y t')(hx:ev ρ x=some (.agg (cbs a).toArray))(hy:ev ρ y=some (.agg (cbs b).toArray)) [h:EqB P t len](h1:a.length=len)(h2:b.length=len)(he:¬ a=b):Pu P C ρ H o (.bool false):=by
 have:=aIG (P:=P) (C:=C) (H:=H) ho hx hy h1 h2
 rwa [decide_eq_false he] at this
theorem aEc(ho:o.op=.binOp .neq t x y t')(hx:ev ρ x=some (.agg (cbs a).toArray))(hy:ev ρ y=some (.agg (cbs b).toArray)) [h:EqB P t len](h1:a.length=len)(h2:b.length=len)(he:¬ a=b):Pu P C ρ H o (.bool true):=fun ac w hf _=>by
 unfold execOp;rw [ho];simp [hf.eval hx,hf.eval hy,run_eqGuard_agg _ _ _ _ _ _ _ h.guard,binOp,EqB.eq w a b h1 h2,he]
end
attribute [local irreducible] SW SL SQ SH SA SS Pu Fin bU aP
theorem Dv.blks_len(σ:Dv)(a n:Nat):(σ.blks a n).length=n:=by unfold Dv.blks;simp
theorem Dv.blks_succ(σ:Dv)(a n:Nat):σ.blks a (n+1)=σ.blks a n++[σ.blk (a+n)]:=by unfold Dv.blks;rw [bJ,bC];rfl
end
end Go.Proofs.YtmceanmblcadcaaGreat
