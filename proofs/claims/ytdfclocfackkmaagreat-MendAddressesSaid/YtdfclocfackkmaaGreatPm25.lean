/- A block is put; the log is scrubbed. -/
import Derived.Test.YtdfclocfackkmaaGreatPm23
import Derived.Test.YtdfclocfackkmaaGreatPm24
set_option linter.unusedVariables false
set_option linter.unusedSimpArgs false
set_option linter.unusedSectionVars false
set_option maxHeartbeats 4000000
namespace Go.Proofs.YtdfclocfackkmaaGreat
open Go Go.Proofs.Tryz
section
attribute [local irreducible] SW SL SQ SH SA SS Pu Fin bS aN
theorem aGj{d tr s bk p t:Nat}{C:Dv}{Hd:Hp}(hD:eX d C Hd)(h8:C.ws.length%8=0)(k:Nat)(hk:k<65536)(v:Value)(b:LB)(hb:b.length<=1048576):Tri prog 178 [vW d tr s bk p t,.int .i64 (k:Int),v] Hd (fun w=>Rd (Hd.map Prod.fst) w 1 v (cbs b)) (fun r H=>r=.int .i64 (fM k b C).1/\eX d (fM k b C).2 H):=by
 refine Tri.mt func178 ntmps178 fun w hw=>?_;have hby:=tD (k:=k) hk;have hst:=aM5 hD ((256*k:Nat):Int) v b hb;obtain⟨a,la,ca,rfl,hl1,hc1,hr1⟩:=hw.get;rw [aI,Nat.mul_one] at hl1;subst hl1;have hY:One (Value.slice a b.length ca):=⟨rfl⟩;refine W.k fun b_=>?_;refine W.cw hby ?_;refine aF hst ?_ (hpre:=fun w2 hs=>hw.ro (Hc:=Hd) hs);rintro _ H1 ⟨rfl,hD1⟩;have e1:(stS (256*k) b C).1=C.actR ((256*k:Nat):Int) b.length:=rfl;have e2:(stS (256*k) b C).2=C.store ((256*k:Nat):Int) b:=rfl;unfold fM DS.and;rw [e1,e2];by_cases h0:C.actR ((256*k:Nat):Int) b.length=0
 ·rw [if_pos h0];have hfl:=aMh hD1 (by rw [aC9];exact h8) ((256*k:Nat):Int) (b.length:Int);refine W.k ?_;refine aF hfl ?_;rintro _ H2 ⟨rfl,hD2⟩;refine W.k ?_;refine Fin.to H2 ?_;exact F.f1 ⟨rfl,hD2⟩
 rw [if_neg h0];refine W.k ?_;refine Fin.to H1 ?_;exact F.f1 ⟨rfl,hD1⟩
theorem aED(m:Nat):List.replicate m (Value.int .u8 0)=cbs (List.replicate m 0):=by simp [cbs]
theorem aIp{d tr s bk p t:Nat}(h:Gm.Ok p t){C:Dv}{Hd:Hp}(hD:eX d C Hd)(h8:C.ws.length%8=0)(n:Nat)(hn:n<=100):Tri prog 147 [vW d tr s bk p t,.int .i64 (n:Int)] Hd NT (fun r H=>r=.int .i64 (fU (Gm.leaves p) n C).1/\eX d (fU (Gm.leaves p) n C).2 H):=by
 refine Tri.mt func147 ntmps147 fun w hw=>?_;have hla:=aCx h 0;have hll:=Gm.leaves_le h;rw [show Gm.atK (1+t) (Gm.leaves p) 0=((Gm.leaves p:Nat):Int) by unfold Gm.atK;rw [if_pos oQ];omega] at hla;have hby:=tD (k:=n) oQ;generalize Gm.leaves p=l at *;have hput:=fun v=>aGj (tr:=tr) (s:=s) (bk:=bk) (p:=p) (t:=t) hD h8 l oQ v (List.replicate (256*n) 0) (by rw [bA];omega);refine W.k fun b_=>?_;(refine SW.l [7] [0,1,2,4] ?_;refine aX 3 ?_);refine W.cq hla ?_;(refine bB [] ?_;refine aX 5 ?_);refine W.cq hby ?_;(refine bB [] ?_;refine aX 6 ?_);refine W.ma (fun bz=>?_);rw [lJ,aED];(refine bB [] ?_;refine bL 7 ?_);refine aF (hput _) ?_ (hpre:=fun w2 hs=>Rd.my (Hc:=Hd) (T:=5) bz _ hs (bA));rintro _ H1 ⟨rfl,hD1⟩;(refine SL.l [8,9] ?_);unfold fU DS.and;by_cases h0:(fM l (List.replicate (256*n) 0) C).1=0
 ·rw [if_pos h0];have hfe:=aBS hD1;refine W.k ?_;refine aF hfe ?_;rintro _ H2 ⟨rfl,hD2⟩;refine W.k ?_;refine Fin.to H2 ?_;exact F.f1 ⟨rfl,hD2⟩
 rw [if_neg h0];refine W.k ?_;refine Fin.to H1 ?_;exact F.f1 ⟨rfl,hD1⟩
abbrev qS(d tr s p t:Nat):Value:=.agg #[ptv d,ptv tr,ptv s,.int .i64 (p:Int),.int .i64 (t:Int)]
theorem aBq{d tr s p t:Nat}{C:Dv}{Hd:Hp}(hD:gS d C Hd)(h8:C.ws.length%8=0)(k:Nat)(hk:k<65536)(v:Value)(b:LB)(hb:b.length<=1048576):Tri prog 122 [qS d tr s p t,.int .i64 (k:Int),v] Hd (fun w=>Rd (Hd.map Prod.fst) w 1 v (cbs b)) (fun r H=>r=.int .i64 (fM k b C).1/\gS d (fM k b C).2 H):=by
 refine Tri.mt func122 ntmps122 fun w hw=>?_;have hst:=aLb hD ((256*k:Nat):Int) v b hb;obtain⟨a,la,ca,rfl,hl1,hc1,hr1⟩:=hw.get;rw [aI,Nat.mul_one] at hl1;subst hl1;have hY:One (Value.slice a b.length ca):=⟨rfl⟩;have e:(256:Int)*(k:Int)=((256*k:Nat):Int):=oQ;rw [<-e] at hst;refine W.k fun b_=>?_;refine aF hst ?_ (hpre:=fun w2 hs=>hw.ro (Hc:=Hd) hs);rintro _ H1 ⟨rfl,hD1⟩;rw [e] at hD1 |-;have e1:(stS (256*k) b C).1=C.actR ((256*k:Nat):Int) b.length:=rfl;have e2:(stS (256*k) b C).2=C.store ((256*k:Nat):Int) b:=rfl;unfold fM DS.and;rw [e1,e2];by_cases h0:C.actR ((256*k:Nat):Int) b.length=0
 ·rw [if_pos h0];have hfl:=aK6 hD1 (by rw [aC9];exact h8) ((256*k:Nat):Int) (b.length:Int);rw [<-e] at hfl;refine W.k ?_;refine aF hfl ?_;rintro _ H2 ⟨rfl,hD2⟩;rw [e] at hD2 |-;refine W.k ?_;refine Fin.to H2 ?_;exact F.f1 ⟨rfl,hD2⟩
 rw [if_neg h0];refine W.k ?_;refine Fin.to H1 ?_;exact F.f1 ⟨rfl,hD1⟩
theorem aC1{d tr s p t:Nat}(h:Gm.Ok p t){C:Dv}{Hd:Hp}(hD:gS d C Hd)(h8:C.ws.length%8=0)(n:Nat)(hn:n<=100):Tri prog 124 [qS d tr s p t,.int .i64 (n:Int)] Hd NT (fun r H=>r=.int .i64 (fU (Gm.leaves p) n C).1/\gS d (fU (Gm.leaves p) n C).2 H):=by
 refine Tri.mt func124 ntmps124 fun w hw=>?_;have hla:=zF h (K:=4) (n:=1+t) (base:=Gm.leaves p) (.inr (.inr ⟨rfl,rfl,rfl⟩)) 0;have hll:=Gm.leaves_le h;rw [show Gm.atK (1+t) (Gm.leaves p) 0=((Gm.leaves p:Nat):Int) by unfold Gm.atK;rw [if_pos oQ];omega] at hla;generalize Gm.leaves p=l at *;have hput:=fun v=>aBq (tr:=tr) (s:=s) (p:=p) (t:=t) hD h8 l oQ v (List.replicate (256*n) 0) (by rw [bA];omega);haveI i0:eB (256*(n:Int)) (256*n):=⟨oQ⟩;refine W.k fun b_=>?_;(refine SW.l [] [0,1,2,4,5] ?_;skip );refine iV 3 6 ?_ ?_ rfl rfl;case' refine_1=>
  refine eC hla rfl ?_;rintro _ _ ⟨rfl,rfl⟩;refine dU ?_;refine aX 6 ?_;refine W.ma (fun bz=>?_);refine dU ?_
 case' refine_2=>
  refine W.ma (fun bz=>?_);refine dU ?_;refine aX 3 ?_;refine eC hla rfl ?_;rintro _ _ ⟨rfl,rfl⟩;refine dU ?_
 all_goals
  refine aX 7 ?_;rw [lJ,aED];refine aF (hput _) ?_ (hpre:=fun w2 hs=>Rd.my (Hc:=Hd) (T:=5) bz _ hs (bA));rintro _ H1 ⟨rfl,hD1⟩;(refine SL.l [8,9] ?_);unfold fU DS.and;by_cases h0:(fM l (List.replicate (256*n) 0) C).1=0
  ·rw [if_pos h0];have hfe:=wO hD1;refine W.k ?_;refine aF hfe ?_;rintro _ H2 ⟨rfl,hD2⟩;refine W.k ?_;refine Fin.to H2 ?_;exact F.f1 ⟨rfl,hD2⟩
  rw [if_neg h0];refine W.k ?_;refine Fin.to H1 ?_;exact F.f1 ⟨rfl,hD1⟩
def sX(P:Program)(v:Value)(J J':Hp->Prop)(E:Int->Hp->Prop):Prop:=
 ∃ (f:FuncId) (us cs:LV),v=.func (.func f) us.toArray cs.toArray/\bC P f/\∀ Hc,J Hc->Tri P f (us++[]++cs) Hc NT (fun r H=>(r=.int .i64 0/\J' H)\/∃ e:Int,e≠0/\r=.int .i64 e/\E e H)
theorem aNY{J:Nat->Hp->Prop}{E:Int->Hp->Prop}(sb:Nat)(fs:LV)(hn:fs.length<=1000)(hfs:∀ i v,fs[i]?=some v->sX prog v (J i) (J (i+1)) E){H0:Hp}(h0:J 0 H0):Tri prog 75 [.slice (some ⟨sb,0,none⟩) fs.length fs.length] ((sb,cl fs 140)::H0) NT (fun r H=>∃ H',H=(sb,cl fs 140)::H'/\((r=.int .i64 0/\J fs.length H')\/∃ e:Int,e≠0/\r=.int .i64 e/\E e H')):=by
 refine Tri.mt func75 ntmps75 fun w hw=>?_;refine W.k ?_;refine bE [6,7] (fun x:Nat×Hp=>[(8,.int .i64 (x.1:Int))]) (fun x=>(sb,cl fs 140)::x.2) (fun x=>fs.length-x.1) (fun x=>x.1<=fs.length/\J x.1 x.2) (0,H0) ⟨Nat.zero_le _,h0⟩ ?_;rintro⟨k,Hk⟩ ⟨hk,hJ⟩;dsimp only at hk hJ |-;by_cases h:k<fs.length
 ·have hv:=aA h;obtain⟨f,us,cs,hfv,iF,hT⟩:=hfs k _ hv;rw [hfv] at hv;clear hfv;have hT2:=hT Hk hJ;refine W.k ?_;refine dN Hk rfl rfl rfl rfl rfl rfl hT2 (fun _ _=>trivial) ?_;rintro _ H2 (⟨rfl,hJ2⟩|⟨e,he,rfl,hE⟩)
  ·refine W.k ?_;refine aN.mk (k+1,H2) ?_;exact⟨h,hJ2⟩
  refine W.k ?_;refine Fin.to ((sb,cl fs 140)::H2) ?_;exact F.f1 ⟨H2,rfl,.inr ⟨e,he,rfl,hE⟩⟩
 have:k=fs.length:=oQ;subst this;refine W.k ?_;refine Fin.to ((sb,cl fs 140)::Hk) ?_;exact F.f1 ⟨Hk,rfl,.inl ⟨rfl,hJ⟩⟩
abbrev bZ(d tr s bk p t:Nat)(kind:Int)(bv lv:Value)(cnt:Int)(Lv ev tv:Value):LV:=[ptv d,ptv tr,ptv s,ptv bk,.int .i64 (p:Int),.int .i64 (t:Int),.int .i64 kind,bv,lv,.int .u64 cnt,Lv,ev,tv]
def Bls(v:Value)(bss:LL)(H:Hp):Prop:=∃ vs Hv Ht,Sl 31 1 v vs Hv/\RB Ht vs bss/\H=Hv++Ht
theorem aOu{fp d tr s bk p t:Nat}{kind cnt:Int}{bv lv Lv ev tv:Value}{bss:LL}{C:Dv}{Hd Hb:Hp}(hD:eX d C Hd)(h8:C.ws.length%8=0)(hB:Bls bv bss Hb)(o1:One lv)(o2:One Lv)(o3:One ev)(o4:One tv)(k:Nat){b:LB}(hk:bss[k]?=some b)(hk2:k<65536)(hb:b.length<=1048576):Tri prog 145 [ptv fp,.int .i64 (k:Int)] ((fp,cl (bZ d tr s bk p t kind bv lv cnt Lv ev tv) 157)::(Hd++Hb)) NT (fun r H=>r=.int .i64 (fM k b C).1/\∃ Hd',eX d (fM k b C).2 Hd'/\H=(fp,cl (bZ d tr s bk p t kind bv lv cnt Lv ev tv) 157)::(Hd'++Hb)):=by
 obtain⟨vs,Hv,Ht,hS,hR,rfl⟩:=hB;refine Tri.mt func145 ntmps145 fun w hw=>?_;obtain⟨u,hu1,hu2⟩:=hR.2 k b hk;have hkl:=(aD.1 hk).1;have hvl:=hR.1;rcases hS with ⟨-,hz,-⟩|⟨bb,len,cap,junk,rfl,hxl,hj,hlc,rfl⟩
 ·rw [hz] at hvl;simp at hvl;omega
 have hv:(vs++junk)[k]?=some u:=by rw [aJ oQ];exact hu1
 have huo:=hu2.one;have hl3:(bZ d tr s bk p t kind (.slice (some ⟨bb,0,none⟩) len cap) lv cnt Lv ev tv).length=13:=rfl;refine W.k ?_;(refine SW.l [12] [0,1,2,3,4,5,6,7,8,9,10,11] ?_;refine bL 12 ?_);refine aF (aGj hD h8 k hk2 u b hb) ?_ (hpre:=fun w2 hs=>hu2.rd (Hc:=Hd) hs);rintro _ H1 ⟨rfl,hD1⟩;(refine SL.l [13,14] ?_);refine W.k ?_;refine Fin.to ((fp,cl (bZ d tr s bk p t kind (.slice (some ⟨bb,0,none⟩) len cap) lv cnt Lv ev tv) 157)::(H1++([(bb,cl (vs++junk) 31)]++Ht))) ?_;exact F.f1 ⟨rfl,H1,hD1,rfl⟩
def DS.Wl(a:DS):Prop:=∀ C,(a C).2.ws.length=C.ws.length
theorem DS.Wl.and{a b:DS}(ha:a.Wl)(hb:b.Wl):(a.and b).Wl:=fun C=>by
 unfold DS.and
 split
 ·rw [hb,ha]
 ·exact ha C
theorem aPk(x:Nat)(bs:LB):(stS x bs).Wl:=fun C=>aC9 C _ _
theorem aOh(x n:Nat):(flS x n).Wl:=fun C=>aFP C _ _
theorem yW:feS.Wl:=fun C=>wB C
theorem aIb(k:Nat)(b:LB):(fM k b).Wl:=(aPk _ _).and (aOh _ _)
theorem iZ:∀ l,(putL l).Wl
 | []=>fun C=>rfl
 | x::r=>(aIb _ _).and (iZ r)
theorem aBt(k n:Nat):(fU k n).Wl:=(aIb _ _).and yW
theorem xQ(k:Nat)(l:LL)(b:LB):gB k (l++[b])=gB k l++[(k+l.length,b)]:=by unfold gB;rw [rG]
theorem aCY(k:Nat)(l m:LL):gB k (l++m)=gB k l++gB (k+l.length) m:=by
 induction m generalizing l with
 | nil=>simp [gB]
 | cons x r ih=>
  rw [show l++x::r=(l++[x])++r by simp,ih,xQ,show gB (k+l.length) (x::r)=(k+l.length,x)::gB (k+l.length+1) r by unfold gB;rw [List.mapIdx_cons];congr 1;apply List.mapIdx_eq_mapIdx_iff.2;intro i h;congr 1;omega]
  simp [lQ]
theorem aIv{fp d tr s bk p t:Nat}{kind cnt:Int}{bv lv Lv ev tv:Value}{bss:LL}{C:Dv}{Hd Hb:Hp}(hD:eX d C Hd)(h8:C.ws.length%8=0)(hB:Bls bv bss Hb)(o1:One lv)(o2:One Lv)(o3:One ev)(o4:One tv)(hn:bss.length<=1000)(hb:∀ b∈bss,b.length=256):Tri prog 72 [ptv fp] ((fp,cl (bZ d tr s bk p t kind bv lv cnt Lv ev tv) 157)::(Hd++Hb)) NT (fun r H=>r=.int .i64 (iP bss C).1/\∃ Hd',eX d (iP bss C).2 Hd'/\H=(fp,cl (bZ d tr s bk p t kind bv lv cnt Lv ev tv) 157)::(Hd'++Hb)):=by
 have hB0:=hB;obtain⟨vs,Hv,Ht,hS,hR,rfl⟩:=hB;have hbo:=hS.isOne;have hvl:=hR.1;obtain⟨ba,bl,bc,rfl,hbl⟩:=hS.form;rw [Nat.mul_one,hvl] at hbl;subst hbl;refine Tri.mt func72 ntmps72 fun w hw=>?_;refine W.j ?_;refine bP [0] Hd (fun _:Dv×Hp=>[]) (fun x=>x.2) (fun x=>eX d x.1 x.2/\putL (gB 0 bss) C=(0,x.1)) ?_ ?_
 ·refine W.k ?_;refine bE [0,9] (fun x:Nat×Dv×Hp=>[(10,.int .i64 (x.1:Int))]) (fun x=>x.2.2) (fun x=>bss.length-x.1) (fun x=>x.1<=bss.length/\eX d x.2.1 x.2.2/\putL (gB 0 (bss.take x.1)) C=(0,x.2.1)) (0,C,Hd) ⟨Nat.zero_le _,hD,by rw [cU];rfl⟩ ?_;rintro⟨k,σ2,Hd⟩ ⟨hk,hD,hp⟩;dsimp only at hk hD hp |-;by_cases h:k<bss.length
  ·have hbk:=aA h;have hbl:=hb _ (dG h);have hwl:σ2.ws.length=C.ws.length:=by have:=iZ (gB 0 (bss.take k)) C;rw [hp] at this;exact this
   have hpt:=aOu (fp:=fp) (tr:=tr) (s:=s) (bk:=bk) (p:=p) (t:=t) (kind:=kind) (cnt:=cnt) hD (by rw [hwl];exact h8) hB0 o1 o2 o3 o4 k hbk oQ oQ;have hsp:bss=bss.take k++bss[k]::bss.drop (k+1):=by rw [<-bK h,dF]
   have htl:(bss.take k).length=k:=by rw [aH];omega
   have hs1:putL (gB 0 (bss.take (k+1))) C=if (fM k bss[k] σ2).1=0 then (0,(fM k bss[k] σ2).2) else fM k bss[k] σ2:=by rw [aY,hbk,dI,xQ,qG,htl,fT];show DS.and _ ((fM k bss[k]).and fun C=>(0,C)) C=_;unfold DS.and;rw [hp];simp
   have hs2:(fM k bss[k] σ2).1≠0->putL (gB 0 bss) C=fM k bss[k] σ2:=fun hne=>by
    have e:gB 0 bss=gB 0 (bss.take (k+1))++gB (0+(bss.take (k+1)).length) (bss.drop (k+1)):=by rw [<-aCY,dF]
    rw [e,qG];unfold DS.and;rw [hs1,if_neg hne,if_neg hne]
   generalize bss[k]=b at *;refine W.k ?_;refine aF hpt ?_;rintro _ _ ⟨rfl,Hd2,hD2,rfl⟩;by_cases h0:(fM k b σ2).1=0
   ·rw [if_pos h0] at hs1;refine W.k ?_;refine aN.mk (k+1,(fM k b σ2).2,Hd2) ?_;exact⟨h,hD2,hs1⟩
   have he:=hs2 h0;have hwd:iP bss C=fM k b σ2:=by unfold iP;show (if (putL (gB 0 bss) C).1=0 then _ else _)=_;rw [he,if_neg h0]
   rw [hwd];refine W.k ?_;refine Fin.to ((fp,cl (bZ d tr s bk p t kind (.slice ba bss.length bc) lv cnt Lv ev tv) 157)::(Hd2++(Hv++Ht))) ?_;exact F.f1 ⟨rfl,Hd2,hD2,rfl⟩
  have hkn:k=bss.length:=oQ;rw [hkn,bO] at hp;subst hkn;refine W.k ?_;refine bS.mk (σ2,Hd) ?_;exact⟨hD,hp⟩
 rintro⟨σ2,Hd⟩ ⟨hD,hp⟩;dsimp only at hD hp |-;have hwd:iP bss C=feS σ2:=by unfold iP;show (if (putL (gB 0 bss) C).1=0 then _ else _)=_;rw [hp];rfl
 have hfe:=aBS hD;rw [hwd];refine W.k ?_;refine aF hfe ?_;rintro _ Hd2 ⟨rfl,hD2⟩;refine W.k ?_;refine Fin.to ((fp,cl (bZ d tr s bk p t kind (.slice ba bss.length bc) lv cnt Lv ev tv) 157)::(Hd2++(Hv++Ht))) ?_;exact F.f1 ⟨rfl,Hd2,hD2,rfl⟩
theorem aF8{fp d tr s bk p t:Nat}(h:Gm.Ok p t){kind cnt:Int}{bv lv Lv ev tv:Value}{C:Dv}{Hd:Hp}(hD:eX d C Hd)(h8:C.ws.length%8=0)(o0:One bv)(o1:One lv)(o2:One Lv)(o3:One ev)(o4:One tv):Tri prog 73 [ptv fp] ((fp,cl (bZ d tr s bk p t kind bv lv cnt Lv ev tv) 157)::Hd) NT (fun r H=>r=.int .i64 (fU (Gm.leaves p) (1+t) C).1/\∃ Hd',eX d (fU (Gm.leaves p) (1+t) C).2 Hd'/\H=(fp,cl (bZ d tr s bk p t kind bv lv cnt Lv ev tv) 157)::Hd'):=by refine Tri.mt func73 ntmps73 fun w hw=>?_;have ht:=h.2.2.2;have hsc:=aIp (tr:=tr) (s:=s) (bk:=bk) h hD h8 (1+t) oQ;rw [show ((1+t:Nat):Int)=1+(t:Int) by omega] at hsc;have hl3:(bZ d tr s bk p t kind bv lv cnt Lv ev tv).length=13:=rfl;refine W.k ?_;(refine SW.l [11] [0,1,2,3,4,5,6,7,8,9,10] ?_;refine bL 11 ?_);refine aF hsc ?_;rintro _ H1 ⟨rfl,hD1⟩;(refine SL.l [12,13] ?_);refine W.k ?_;refine Fin.to ((fp,cl (bZ d tr s bk p t kind bv lv cnt Lv ev tv) 157)::H1) ?_;exact F.f1 ⟨rfl,H1,hD1,rfl⟩
theorem aJ0{fp d tr s bk p t:Nat}{kind cnt:Int}{bv lv Lv ev tv:Value}{C:Dv}{r:Rg}{Hd:Hp}(hD:eX d C Hd)(hr:r.Ok)(hlt:r.c<18446744073709551615)(o0:One bv)(o1:One lv)(o2:One Lv)(o3:One ev)(o4:One tv):Tri prog 74 [ptv fp] ((fp,cl (bZ d tr s bk p t kind bv lv cnt Lv ev tv) 157)::(tr,cl (trc d r) 201)::Hd) NT (fun v H=>v=.int .i64 (gA (C,r)).1/\∃ Hd',eX d (gA (C,r)).2.1 Hd'/\H=(fp,cl (bZ d tr s bk p t kind bv lv cnt Lv ev tv) 157)::(tr,cl (trc d (gA (C,r)).2.2) 201)::Hd'):=by
 refine Tri.mt func74 ntmps74 fun w hw=>?_;have hrd:=uR tr d r hr;have hc0:=hr.c0;have hr2:({ r with c:=r.c+1 }:Rg).Ok:=⟨hr.len,by show 0<=r.c+1;omega,by show r.c+1<=_;omega⟩;have hst:=aLm tr d r { r with c:=r.c+1 } hr hr2 hD;have hl:=mR hr;have hl2:=mR hr2;haveI i1:U64 r.c (UInt64.ofNat r.c.toNat):=⟨by rw [aU];omega⟩;have e1:(((UInt64.ofNat r.c.toNat+1).toNat:Nat):Int)=r.c+1:=by rw [gR,aU,show (1:UInt64).toNat=1 from rfl];omega
 refine W.k ?_;refine W.cw hrd ?_;intro b_;rw [e1,show (rgc r).set 0 (.int .u64 (r.c+1))=rgc { r with c:=r.c+1 } from rfl];have eb:gA (C,r)=(qL C r { r with c:=r.c+1 },qK C r { r with c:=r.c+1 },oM C r { r with c:=r.c+1 }):=rfl;rw [eb];generalize ({ r with c:=r.c+1 }:Rg)=r2 at *;(refine SW.l [6] [0,1,2,3,4,5] ?_;refine bL 6 ?_);refine aF hst ?_;rintro _ _ ⟨rfl,H2,rfl,hD2⟩;(refine SL.l [7,8] ?_);refine W.k ?_;refine Fin.to ((fp,cl (bZ d tr s bk p t kind bv lv cnt Lv ev tv) 157)::(tr,cl (trc d (oM C r r2)) 201)::H2) ?_;exact F.f1 ⟨rfl,H2,hD2,rfl⟩
def aCS(D:Bk)(bss:LL):Bk:=(D.adds (sM bss)).adds (uX (gF bss) (dep (gF bss).length))
theorem aFX(l:LL)(b:LB):sM (l++[b])=sM l++[fV l.length b]:=by unfold sM;rw [rG]
theorem aDa(l:LL)(b:LB):gF (l++[b])=gF l++[Sha.sum (fV l.length b)]:=by unfold gF;rw [rG]
theorem aBi{fp d tr s bk tb p t:Nat}(h:Gm.Ok p t){kind cnt:Int}{bv lv Lv ev tv:Value}{bss:LL}{D:Bk}{Hk Hb:Hp}(hK:eP bk tb D Hk)(hB:Bls bv bss Hb)(o1:One lv)(o2:One Lv)(o3:One ev)(o4:One tv)(hn:bss.length=Gm.leaves p)(hb:∀ b∈bss,b.length=256):Tri prog 194 [ptv fp] ((fp,cl (bZ d tr s bk p t kind bv lv cnt Lv ev tv) 157)::(Hk++Hb)) NT (fun v H=>∃ tp be Ht Hk',v=.tuple #[ptv tp,.slice (some ⟨be,0,none⟩) (Gm.sealed p) (Gm.sealed p)]/\H=(fp,cl (bZ d tr s bk p t kind bv lv cnt Lv ev tv) 157)::(be,cl (uv (uH ((bss.drop 1).take (Gm.epochs p)).flatten (Gm.sealed p))) 23)::(Ht++(Hk'++Hb)) /\ rJ tp bk (gF bss) Ht/\eP bk tb (aCS D bss) Hk'):=by
 obtain⟨vs,Hv,Ht,hS,hR,rfl⟩:=hB;have hbo:=hS.isOne;have hvl:=hR.1;obtain⟨ba,bl,bc,rfl,hbl⟩:=hS.form;rw [Nat.mul_one,hvl] at hbl;subst hbl;have hlc:bss.length<=bc:=by
  rcases hS with ⟨hz,hz2,-⟩|⟨bb,len,cap,junk,hz,hxl,hj,hlc,-⟩
  ·simp only [Value.slice.injEq] at hz;omega
  simp only [Value.slice.injEq] at hz;omega
 have hll:=Gm.leaves_le h;have hL:Gm.leaves p=1+Gm.epochs p+Gm.sealed p:=rfl;have hep:=yZ h;have hRp:=hR.part 1 (Gm.epochs p);have hEp:=fun v=>aJt h v _ _ hRp (by rw [aH,bG];omega) (fun b hbm=>hb b (kH (dM hbm)));have hl1:1<=bss.length:=oQ;refine Tri.mt func194 ntmps194 fun w hw=>?_;refine W.j ?_;refine bP [0] Hk (fun x:Value×Hp×Hp=>[(4,x.1)]) (fun x=>x.2.1++x.2.2) (fun x=>Sl 91 32 x.1 (cbs (gF bss).flatten) x.2.2/\eP bk tb (D.adds (sM bss)) x.2.1) ?_ ?_
 ·refine W.k ?_;refine bE [0,15,16] (fun x:Nat×Value×Hp×Hp=>[(4,x.2.1),(17,.int .i64 (x.1:Int))]) (fun x=>x.2.2.1++x.2.2.2) (fun x=>bss.length-x.1) (fun x=>x.1<=bss.length/\Sl 91 32 x.2.1 (cbs (gF (bss.take x.1)).flatten) x.2.2.2/\eP bk tb (D.adds (sM (bss.take x.1))) x.2.2.1) (0,.slice none 0 0,Hk,[]) ⟨Nat.zero_le _,by rw [cU];exact Sl.nil _ _,by rw [cU];exact hK⟩ ?_;rintro⟨k,v2,Hk2,Hl2⟩ ⟨hk,hS2,hK2⟩;dsimp only at hk hS2 hK2 |-;have hS21:=hS2.isOne;by_cases hkn:k<bss.length
  ·obtain⟨u,hu1,hu2⟩:=hR.2 k _ (aA hkn);have hbl:=hb _ (dG hkn);have htl:(bss.take k).length=k:=by rw [aH];omega
   have hts:bss.take (k+1)=bss.take k++[bss[k]]:=by rw [aY,aA hkn];rfl
   have hls:sM (bss.take (k+1))=sM (bss.take k)++[fV k bss[k]]:=by rw [hts,aFX,htl]
   have hss:gF (bss.take (k+1))=gF (bss.take k)++[Sha.sum (fV k bss[k])]:=by rw [hts,aDa,htl]
   have hfl:=dH (L:=gF (bss.take k)) (qN _);rw [lB,htl] at hfl;rcases hS with ⟨hz,hz2,-⟩|⟨bb,len,cap,junk,hz,hxl,hj,hlc2,rfl⟩
   ·simp only [Value.slice.injEq] at hz;omega
   simp only [Value.slice.injEq] at hz;obtain⟨rfl,rfl,rfl⟩:=hz;have hv:(vs++junk)[k]?=some u:=by rw [aJ oQ];exact hu1
   have huo:=hu2.one;have hlf:=aG7 hK2 k u bss[k] oQ;rw [show (D.adds (sM (bss.take k))).add (fV k bss[k])=D.adds (sM (bss.take (k+1))) by rw [hls];exact Bk.adds_one ..] at hlf;have h32:(Sha.sum (fV k bss[k])).length=32:=Sha.sum_len _;generalize Sha.sum (fV k bss[k])=y at *;have hb1:=b1d h32;have hc:=lN h32;refine W.k ?_;refine aF hlf ?_ (hpre:=fun w2 hs=>hu2.rd (Hc:=Hk2) hs);rintro _ Hk3 ⟨rfl,hK3⟩;refine W.k fun b_=>?_;refine W.ap (ys:=cbs y) (mm:=1) hS2 (fun w2 hs=>(Sl.own 91 32 b_ (xs:=cbs y) hc).srcAt hs inferInstance) (fun v3 H3 h3=>?_) (hys:=hc) (hbytes:=by rw [hc,aI,hfl];omega);have h31:=h3.isOne;rw [show cbs (gF (bss.take k)).flatten++cbs y=cbs (gF (bss.take k)++[y]).flatten by simp,<-hss] at h3;refine W.k ?_;refine aN.mk (k+1,v3,Hk3,H3) ?_;exact⟨hkn,h3,hK3⟩
  have hk2:k=bss.length:=oQ;rw [hk2,bO] at hS2 hK2;subst hk2;refine W.k ?_;refine bS.mk (v2,Hk2,Hl2) ?_;exact⟨hS2,hK2⟩
 rintro⟨v2,Hk2,Hl2⟩ ⟨hS2,hK2⟩;dsimp only at hS2 hK2 |-;have hS21:=hS2.isOne;refine W.k ?_;refine aF (aPZ hK2 v2 (gF bss) (qN _) (by rw [lB];omega) (by rw [lB];omega)) ?_ (hpre:=fun w2 hs=>Rd.own (Hc:=Hk2) hS2 hs inferInstance);rintro _ _ ⟨tp,Htr,Hk3,rfl,rfl,hT,hK3⟩;refine W.k ?_;refine W.cw hep ?_;(refine SW.l [12] [0,1,2,3,4,5,6,7,8,9,10] ?_;refine dS 11 rfl (aKQ (lo:=none) (hi:=none) rfl rfl rfl rfl oQ oQ) ?_;refine bL 12 ?_);rw [dB];refine eC (hEp _) rfl ?_ (hpre:=fun w2 hs=>by have:=(Rd.own (Hc:=Ht) hS hs inferInstance).cutN bc 1 (1+Gm.epochs p) (bc-1) oQ oQ oQ oQ;rw [dB,Nat.mul_one,Nat.mul_one] at this;exact this);rintro _ _ ⟨be,rfl,rfl⟩;(refine SL.l [13,14,15,16,17,18] ?_);refine W.k ?_;refine Fin.to ((fp,cl (bZ d tr s bk p t kind (.slice ba bss.length bc) lv cnt Lv ev tv) 157)::(be,cl (uv (uH ((bss.drop 1).take (Gm.epochs p)).flatten (Gm.sealed p))) 23)::(Htr++(Hk3++(Hv++Ht)))) ?_;exact F.f2 ⟨tp,be,Htr,Hk3,rfl,rfl,hT,hK3⟩
theorem aCi(c:Int){x:LB}(h:x.length=32):bV (fun i=>[(0,1),(1,32)][i]?) ([.int .u64 0]++List.replicate 32 (.int .u8 0)) [(0,.int .u64 c),(1,dgV x)]=some (rgc { c:=c,root:=x }):=
 uC (off:=0) (n:=1) ([.int .u64 c]++List.replicate 32 (.int .u8 0)) rfl rfl (by simp) rfl (uC (off:=1) (n:=32) (rgc { c:=c,root:=x }) rfl (by simp [vl,h]) (by simp) (by simp [vl,h,rgc,cbs,bv]) rfl)
def vI(D:Bk)(bss:LL):Bk:=(aCS D bss).add (mW (gF bss).length (aE2 (gF bss)))
theorem aJ6{fp d tr s bk tb p t:Nat}(h:Gm.Ok p t){kind cnt:Int}{bv lv Lv ev tv:Value}{bss:LL}{D:Bk}{C:Dv}{r:Rg}{Hd Hk Hb:Hp}(hD:eX d C Hd)(hr:r.Ok)(hlt:r.c<18446744073709551615)(hK:eP bk tb D Hk)(hB:Bls bv bss Hb)(o1:One lv)(o2:One Lv)(o3:One ev)(o4:One tv)(hn:bss.length=Gm.leaves p)(hb:∀ b∈bss,b.length=256):Tri prog 117 [ptv fp] ((fp,cl (bZ d tr s bk p t kind bv lv cnt Lv ev tv) 157)::(tr,cl (trc d r) 201)::(Hd++(Hk++Hb))) NT (fun v H=>v=.int .i64 (jX ⟨r.c+1,gE bss⟩ (C,r)).1/\∃ Hd' Hk' Hx,eX d (jX ⟨r.c+1,gE bss⟩ (C,r)).2.1 Hd'/\eP bk tb (vI D bss) Hk' /\ H=(fp,cl (bZ d tr s bk p t kind bv lv cnt Lv ev tv) 157)::(tr,cl (trc d (jX ⟨r.c+1,gE bss⟩ (C,r)).2.2) 201)::(Hd'++(Hk'++(Hb++Hx)))):=by
 have hbo:One bv:=by obtain⟨vs,Hv,Ht,hS,hR,rfl⟩:=hB;exact hS.isOne
 refine Tri.mt func117 ntmps117 fun w hw=>?_;have hpl:=aBi (fp:=fp) (d:=d) (tr:=tr) (s:=s) (kind:=kind) (cnt:=cnt) h hK hB o1 o2 o3 o4 hn hb;have hll:=Gm.leaves_le h;have hrd:=uR tr d r hr;have hc0:=hr.c0;have hsl:(gF bss).length<=1024:=by rw [lB];omega
 have hr2:({ c:=r.c+1,root:=gE bss }:Rg).Ok:=⟨Sha.sum_len _,by show 0<=r.c+1;omega,by show r.c+1<=_;omega⟩;have hst:=aLm tr d r { c:=r.c+1,root:=gE bss } hr hr2 hD;have hl:=mR hr;haveI i1:U64 r.c (UInt64.ofNat r.c.toNat):=⟨by rw [aU];omega⟩;have e1:(((UInt64.ofNat r.c.toNat+1).toNat:Nat):Int)=r.c+1:=by rw [gR,aU,show (1:UInt64).toNat=1 from rfl];omega
 have eb:jX ⟨r.c+1,gE bss⟩ (C,r)=(qL C r { c:=r.c+1,root:=gE bss },qK C r { c:=r.c+1,root:=gE bss },oM C r { c:=r.c+1,root:=gE bss }):=rfl;rw [eb];have hrl:(gE bss).length=32:=Sha.sum_len _;have hroot:fN (gF bss)=gE bss:=rfl;have hbd:bV (fun i=>[(0,1),(1,32)][i]?) ([.int .u64 0]++List.replicate 32 (.int .u8 0)) [(0,.int .u64 (((UInt64.ofNat r.c.toNat+1).toNat:Nat):Int)),(1,dgV (gE bss))]=some (rgc { c:=r.c+1,root:=gE bss }):=by rw [e1];exact aCi _ hrl
 refine W.k ?_;refine aF hpl ?_;rintro _ _ ⟨tp,be,Ht,Hk2,rfl,rfl,hT,hK2⟩;have hro:=aD8 hT hK2 hsl;rw [hroot] at hro;refine W.k ?_;(refine SW.l [16] [0,1,2,3,4,5,6,7,8,9,13] ?_;refine aX 10 ?_);refine W.cq hrd ?_;(refine SL.l [11,12] ?_;refine aX 14 ?_);refine aF hro ?_;rintro _ _ ⟨Hk3,rfl,rfl,hK3⟩;(refine SL.l [15] ?_;refine bL 16 ?_);refine aF hst ?_;rintro _ _ ⟨rfl,H2,rfl,hD2⟩;(refine SL.l [17,18] ?_);refine W.k ?_;refine Fin.to ((fp,cl (bZ d tr s bk p t kind bv lv cnt Lv ev tv) 157)::(tr,cl (trc d (oM C r { c:=r.c+1,root:=gE bss })) 201)::(H2++(Hk3++(Hb++[])))) ?_;exact F.f1 ⟨rfl,H2,Hk3,[],hD2,hK3,rfl⟩
def kN(s:Sr)(e:UInt64)(n:Nat):Sr:=(List.range n).foldl (fun s k=>s.hid (e,k) (List.replicate 256 0)) s
theorem aEi(s:Sr)(e:UInt64)(n:Nat):kN s e (n+1)=(kN s e n).hid (e,n) (List.replicate 256 0):=by unfold kN;rw [bT,iH];rfl
theorem Bls.one{v:Value}{bss:LL}{H:Hp}(h:Bls v bss H):One v:=by obtain⟨vs,Hv,Ht,hS,hR,rfl⟩:=h;exact hS.isOne
theorem aHa{d tr s bk p t:Nat}(h:Gm.Ok p t){C:Dv}{Hd:Hp}(hD:eX d C Hd)(hlen:C.len=256*Gm.total p t):Tri prog 70 [vW d tr s bk p t] Hd NT (fun v H=>v=.int .i64 0/\H=Hd):=by refine Tri.mt func70 ntmps70 fun w hw=>?_;have hck:=qC h;have hln:=aCA hD;have htt:=aFT h;have htl:=Gm.total_le2 h;have hby:=tD (k:=Gm.total p t) oQ;rw [hlen] at hln;generalize Gm.total p t=m at *;refine W.k fun b_=>?_;(refine SW.l [2,10,11] [0,1] ?_;refine bL 2 ?_);refine W.cq hck ?_;(refine SL.l [3,4,5,6,8,9] ?_;(first|refine cY 7 rfl ?_;(first|refine cY 10 rfl ?_;(first|refine cY 11 rfl ?_;refine SG.l [12,13,14,15] ?_|refine bL 11 ?_)|refine bL 10 ?_)|refine aX 7 ?_));refine aF hln ?_;rintro _ Hd ⟨rfl,rfl⟩;(refine bB [] ?_;(first|refine cY 10 rfl ?_;(first|refine cY 11 rfl ?_;refine SG.l [12,13,14,15] ?_|refine bL 11 ?_)|refine bL 10 ?_));refine W.cq htt ?_;(refine bB [] ?_;(first|refine cY 11 rfl ?_;refine SG.l [12,13,14,15] ?_|refine bL 11 ?_));refine W.cq hby ?_;(refine SL.l [12,13,14,15] ?_);refine W.k ?_;refine Fin.to Hd ?_;exact F.f1 ⟨rfl,rfl⟩
theorem aL3{fp d tr sp bk p t c b n:Nat}{ws:LL}(h:Gm.Ok p t){kind cnt:Int}{bv lv Lv ev tv:Value}{s:Sr}{Hs:Hp}(hS:lL sp c b n ws s Hs)(hK:kA n ws)(o0:One bv)(o1:One lv)(o2:One Lv)(o3:One ev)(o4:One tv)(e:UInt64):Tri prog 116 [ptv fp,dZ e] ((fp,cl (bZ d tr sp bk p t kind bv lv cnt Lv ev tv) 157)::Hs) NT (fun v H=>v=.int .i64 0/\∃ bv' Hs' Hb,lL sp c b n ws (kN s e (Gm.sealed p)) Hs'/\Bls bv' (iI p t (dY (Aes.enc ws n)) e) Hb/\H=(fp,cl (bZ d tr sp bk p t kind bv' lv cnt Lv ev tv) 157)::(Hs'++Hb)):=by
 refine Tri.mt func116 ntmps116 fun w hw=>?_;have hsb:=aGv h;have hse:=uL h;have hep:=yZ h;have hsl:=Gm.sealed_le h;have hel:=Gm.epochs_le h;have hbk:=fun k (hk:k<Gm.epochs p) v=>aAF h k hk v (List.replicate (Gm.sealed p) e) bA;have hset:∀ v v':Value,(bZ d tr sp bk p t kind v lv cnt Lv ev tv).set 7 v'=bZ d tr sp bk p t kind v' lv cnt Lv ev tv:=fun v v'=>rfl;have hbln:iI p t (dY (Aes.enc ws n)) e=(iC p t::(List.range (Gm.epochs p)).map fun k=>epB k (List.replicate (Gm.sealed p) e))++(List.range (Gm.sealed p)).map fun k=>dY (Aes.enc ws n) e k (List.replicate 256 0):=rfl;rw [hbln];clear hbln;generalize Gm.sealed p=m at *;generalize Gm.epochs p=q at *;refine W.k ?_;refine aF hsb ?_;rintro _ _ ⟨b1,rfl,rfl⟩;have hb29:bV (fun i=>some (i*1,1)) (zs [.slice none 0 0] 1) [(0,.slice (some ⟨b1,0,none⟩) 256 256)]=some [.slice (some ⟨b1,0,none⟩) 256 256]:=rfl;refine W.k fun b_=>?_;rw [hset];refine W.cq hse ?_;refine W.j fun b_=>?_;rename_i b2;rw [show zs [Value.int .u64 0] m=uv (List.replicate 0 e)++List.replicate (m-0) (.int .u64 0) by rw [lJ];rfl];generalize b_=b3 at *;refine SW.cut [0,1,7] [b3] (fun _:Unit=>[]) (fun _=>[(b3,cl (uv (List.replicate m e)) 23)]) NT ?_ ?_
 ·refine W.k ?_;refine cI [0,1,7,40] [b3] (fun k:Nat=>[(41,.int .i64 (k:Int))]) (fun k=>[(b3,cl (uv (List.replicate k e)++List.replicate (m-k) (.int .u64 0)) 23)]) (fun k=>m-k) (fun k=>k<=m) 0 (Nat.zero_le _) ?_;intro k hk;by_cases hkm:k<m
  ·have hlt:k<(uv (List.replicate k e)++List.replicate (m-k) (Value.int .u64 0)).length:=by rw [aB,eN,bA,bA];omega
   have hf:=aAZ (uv (List.replicate k e)) (m-(k+1)) (.int .u64 0) (dZ e);rw [show m-(k+1)+1=m-k by omega,eN,bA,show uv (List.replicate k e)++[dZ e]=uv (List.replicate (k+1) e) by rw [pV];simp] at hf;refine W.k ?_;rw [hf];refine aN.mk (k+1) ?_;omega
  have:k=m:=oQ;subst this;rw [dO,List.replicate_zero,aG];refine W.k ?_;refine bS.mk () ?_;trivial
 rintro _ -;refine W.k ?_;refine W.cq hep ?_;refine W.j ?_;refine bP [0,1,7] [(fp,cl (bZ d tr sp bk p t kind (.slice (some ⟨b2,0,none⟩) 1 1) lv cnt Lv ev tv) 157),(b2,cl [.slice (some ⟨b1,0,none⟩) 256 256] 31),(b1,cl (cbs (iC p t)) 5)] (fun _:Value×Hp=>[]) (fun x=>(fp,cl (bZ d tr sp bk p t kind x.1 lv cnt Lv ev tv) 157)::x.2) (fun x=>Bls x.1 (iC p t::(List.range q).map fun k=>epB k (List.replicate m e)) x.2) ?_ ?_
 ·have hE0:Sl 31 1 (.slice (some ⟨b2,0,none⟩) 1 1) [.slice (some ⟨b1,0,none⟩) 256 256] [(b2,cl [.slice (some ⟨b1,0,none⟩) 256 256] 31)]:=Sl.own _ 1 b2 (len:=1) rfl;have hR0:RB [(b1,cl (cbs (iC p t)) 5)] [.slice (some ⟨b1,0,none⟩) 256 256] (iC p t::(List.range 0).map fun k=>epB k (List.replicate m e)):=(RB.nil _).snoc (RdH.of (Sl.own 5 1 b1 (len:=256) (xs:=cbs (iC p t)) (by rw [aI,zK])));refine W.k ?_;refine bE [0,1,7,54] (fun x:Nat×Value×LV×Hp×Hp=>[(55,.int .i64 (x.1:Int))]) (fun x=>(fp,cl (bZ d tr sp bk p t kind x.2.1 lv cnt Lv ev tv) 157)::(x.2.2.2.1++x.2.2.2.2)) (fun x=>q-x.1) (fun x=>x.1<=q/\Sl 31 1 x.2.1 x.2.2.1 x.2.2.2.1/\RB x.2.2.2.2 x.2.2.1 (iC p t::(List.range x.1).map fun k=>epB k (List.replicate m e))) (0,.slice (some ⟨b2,0,none⟩) 1 1,[.slice (some ⟨b1,0,none⟩) 256 256],[(b2,cl [.slice (some ⟨b1,0,none⟩) 256 256] 31)],[(b1,cl (cbs (iC p t)) 5)]) ⟨Nat.zero_le _,hE0,hR0⟩ ?_;rintro⟨j,v2,vs,Hv,Ht⟩ ⟨hj,hS2,hR2⟩;dsimp only at hj hS2 hR2 |-;have hS21:=hS2.isOne;have hvl:vs.length=1+j:=by rw [hR2.1];simp;omega
  have hl3:(bZ d tr sp bk p t kind v2 lv cnt Lv ev tv).length=13:=rfl;by_cases hjq:j<q
  ·refine W.k ?_;refine aF (hbk j hjq (.slice (some ⟨b3,0,none⟩) m m)) ?_ (hpre:=fun w2 hs=>Rd.own (Hc:=[]) (Sl.own 23 1 b3 (len:=m) (xs:=uv (List.replicate m e)) (by rw [eN,bA,Nat.mul_one])) hs inferInstance);rintro _ _ ⟨b5,rfl,rfl⟩;have hb78:bV (fun i=>some (i*1,1)) (zs [.slice none 0 0] 1) [(0,.slice (some ⟨b5,0,none⟩) 256 256)]=some [.slice (some ⟨b5,0,none⟩) 256 256]:=rfl;refine W.k fun b_=>?_;refine W.ap hS2 (ys:=[.slice (some ⟨b5,0,none⟩) 256 256]) (mm:=1) (fun w2 hs=>(Sl.own 31 1 b_ (xs:=[.slice (some ⟨b5,0,none⟩) 256 256]) rfl).srcAt hs inferInstance) (fun v3 H3 h3=>?_) (hys:=rfl) (hbytes:=by rw [hvl];simp;omega);have h31:=h3.isOne;refine W.k ?_;rw [hset];refine aN.mk (j+1,v3,vs++[.slice (some ⟨b5,0,none⟩) 256 256],H3,(b5,cl (cbs (epB j (List.replicate m e))) 5)::Ht) ?_;refine⟨hjq,h3,?_⟩;show RB _ _ (iC p t::(List.range (j+1)).map fun k=>epB k (List.replicate m e));rw [bT,aZ,<-dX];exact (hR2.mono fun x hx=>cV _ hx).snoc ((RdH.of (Sl.own 5 1 b5 (len:=256) (xs:=cbs (epB j (List.replicate m e))) (by rw [aI,pP]))).mono fun x hx=>by simp at hx;subst hx;simp)
  have:j=q:=oQ;subst this;refine W.k ?_;refine bS.mk (v2,Hv++Ht) ?_;exact⟨vs,Hv,Ht,hS2,hR2,rfl⟩
 rintro⟨v2,Hb2⟩ hB2;dsimp only at hB2 |-;have hB21:=hB2.one;refine W.j ?_;have hAl:(iC p t::(List.range q).map fun k=>epB k (List.replicate m e)).length<=1000000:=by simp;omega
 generalize (iC p t::(List.range q).map fun k=>epB k (List.replicate m e))=A at *;refine bP [] ((fp,cl (bZ d tr sp bk p t kind v2 lv cnt Lv ev tv) 157)::(Hs++Hb2)) (fun _:Value×Hp×Hp=>[]) (fun x=>(fp,cl (bZ d tr sp bk p t kind x.1 lv cnt Lv ev tv) 157)::(x.2.1++x.2.2)) (fun x=>lL sp c b n ws (kN s e m) x.2.1/\Bls x.1 (A++(List.range m).map fun k=>dY (Aes.enc ws n) e k (List.replicate 256 0)) x.2.2) ?_ ?_
 ·obtain⟨vs,Hv,Ht,hS2,hR2,rfl⟩:=hB2;refine W.k ?_;refine bE [0,1,84] (fun x:Nat×Value×LV×Hp×Hp×Hp=>[(85,.int .i64 (x.1:Int))]) (fun x=>(fp,cl (bZ d tr sp bk p t kind x.2.1 lv cnt Lv ev tv) 157)::(x.2.2.2.2.2++(x.2.2.2.1++x.2.2.2.2.1))) (fun x=>m-x.1) (fun x=>x.1<=m/\Sl 31 1 x.2.1 x.2.2.1 x.2.2.2.1/\RB x.2.2.2.2.1 x.2.2.1 (A++(List.range x.1).map fun k=>dY (Aes.enc ws n) e k (List.replicate 256 0))/\lL sp c b n ws (kN s e x.1) x.2.2.2.2.2) (0,v2,vs,Hv,Ht,Hs) ⟨Nat.zero_le _,hS2,by rw [List.range_zero,mO,aG];exact hR2,hS⟩ ?_;rintro⟨j,v2,vs,Hv,Ht,Hs⟩ ⟨hj,hS2,hR2,hS⟩;dsimp only at hj hS2 hR2 hS |-;have hS21:=hS2.isOne;have hvl:vs.length=A.length+j:=by rw [hR2.1,aB,aC,dR]
  by_cases hjm:j<m
  ·have hbl:=aLB hS hK e j oQ;rw [<-aEi] at hbl;have hxl:=mJ (E:=Aes.enc ws n) (fun x=>Aes.enc_len ..) e j (List.replicate 256 0);rw [bA] at hxl;have hrs:A++(List.range (j+1)).map (fun k=>dY (Aes.enc ws n) e k (List.replicate 256 0))=(A++(List.range j).map fun k=>dY (Aes.enc ws n) e k (List.replicate 256 0))++[dY (Aes.enc ws n) e j (List.replicate 256 0)]:=by rw [bT,aZ,aT];rfl
   generalize dY (Aes.enc ws n) e j (List.replicate 256 0)=y at *;refine W.k ?_;refine aF hbl ?_;rintro _ _ ⟨b5,Hs2,rfl,rfl,hS3⟩;have hb78:bV (fun i=>some (i*1,1)) (zs [.slice none 0 0] 1) [(0,.slice (some ⟨b5,0,none⟩) 256 256)]=some [.slice (some ⟨b5,0,none⟩) 256 256]:=rfl;refine W.k fun b_=>?_;refine W.ap hS2 (ys:=[.slice (some ⟨b5,0,none⟩) 256 256]) (mm:=1) (fun w2 hs=>(Sl.own 31 1 b_ (xs:=[.slice (some ⟨b5,0,none⟩) 256 256]) rfl).srcAt hs inferInstance) (fun v3 H3 h3=>?_) (hys:=rfl) (hbytes:=by rw [hvl];simp;omega);have h31:=h3.isOne;refine W.k ?_;rw [hset];refine aN.mk (j+1,v3,vs++[.slice (some ⟨b5,0,none⟩) 256 256],H3,(b5,cl (cbs y) 5)::Ht,Hs2) ?_;refine⟨hjm,h3,?_,hS3⟩;show RB _ _ (A++(List.range (j+1)).map fun k=>dY (Aes.enc ws n) e k (List.replicate 256 0));rw [hrs];exact (hR2.mono fun x hx=>cV _ hx).snoc ((RdH.of (Sl.own 5 1 b5 (len:=256) (xs:=cbs y) (by rw [aI,hxl]))).mono fun x hx=>by simp at hx;subst hx;simp)
  have:j=m:=oQ;subst this;refine W.k ?_;refine bS.mk (v2,Hs,Hv++Ht) ?_;exact⟨hS,vs,Hv,Ht,hS2,hR2,rfl⟩
 rintro⟨v3,Hs3,Hb3⟩ ⟨hS3,hB3⟩;dsimp only at hS3 hB3 |-;have hB31:=hB3.one;refine W.k ?_;refine Fin.to ((fp,cl (bZ d tr sp bk p t kind v3 lv cnt Lv ev tv) 157)::(Hs3++Hb3)) ?_;exact F.f1 ⟨rfl,v3,Hs3,Hb3,hS3,hB3,rfl⟩
def kI(r:Rg):UInt64:=UInt64.ofNat (r.c+2).toNat
abbrev oK(p t n:Nat)(ws:LL)(r:Rg):LL:=iI p t (dY (Aes.enc ws n)) (kI r)
theorem pE(p t:Nat)(X:UInt64->Nat->LB->LB)(e:UInt64):(iI p t X e).length=Gm.leaves p:=by unfold iI Gm.leaves;rw [aW,aB,aC,aC,dR,dR];omega
theorem rL{p t:Nat}{E:LB->LB}(hE:∀ x,(E x).length=16)(e:UInt64):∀ b∈iI p t (dY E) e,b.length=256:=fun b hb=>by
 unfold iI at hb
 rcases cD.1 hb with rfl|hb
 ·exact zK _ _
 ·rcases bJ.1 hb with hb|hb
  ·obtain⟨k,-,rfl⟩:=bM.1 hb;exact pP _ _
  ·obtain⟨k,-,rfl⟩:=bM.1 hb;rw [mJ hE,bA]
def oP(p:Nat)(C:Dv)(r:Rg)(s:Sr):Sr:=if 18446744073709551613<r.c then s else if (gA (C,r)).1=0 then kN s (kI r) (Gm.sealed p) else s
def aA1(p t n:Nat)(ws:LL)(C:Dv)(r:Rg)(D:Bk):Bk:=
 if 18446744073709551613<r.c then D else if (gA.and (bX p t (oK p t n ws r)).t (C,r)).1=0 then vI D (oK p t n ws r) else D
section
variable (d tr sp bk tb p t c b n:Nat)(ws:LL)(C:Dv)(r:Rg)(s:Sr)(D:Bk)(fp b4 b5:Nat)
abbrev fmH(bv:Value)(r':Rg)(Hd Hs Hk Hb:Hp):Hp:=(fp,cl (bZ d tr sp bk p t 0 bv (.slice none 0 0) 0 (.slice none 0 0) (.slice none 0 0) (.pointer none)) 157)::(b5,cl [ptv fp] 150)::(b4,cl [.int .u64 r.c] 23)::(tr,cl (trc d r') 201)::(Hd++(Hs++(Hk++Hb)))
def fmJ(i:Nat)(H:Hp):Prop:=∃ (σ':Dv) (r':Rg) (s':Sr) (β':Bk) (bv:Value) (Hd Hs Hk Hb:Hp),eX d σ' Hd/\lL sp c b n ws s' Hs/\eP bk tb β' Hk/\One bv/\H.Perm (fmH d tr sp bk p t r fp b4 b5 bv r' Hd Hs Hk Hb) /\
 match i with
 | 0=>σ'=C/\r'=r/\s'=s/\β'=D/\Hb=[]
 | 1=>gA (C,r)=(0,(σ',r'))/\s'=s/\β'=D/\Hb=[]
 | 2=>gA (C,r)=(0,(σ',r'))/\s'=kN s (kI r) (Gm.sealed p)/\β'=D/\Bls bv (oK p t n ws r) Hb
 | 3=>(∃ σ1,gA (C,r)=(0,(σ1,r'))/\iP (oK p t n ws r) σ1=(0,σ'))/\s'=kN s (kI r) (Gm.sealed p)/\β'=D/\Bls bv (oK p t n ws r) Hb
 | 4=>(∃ σ1,gA (C,r)=(0,(σ1,r'))/\bX p t (oK p t n ws r) σ1=(0,σ'))/\s'=kN s (kI r) (Gm.sealed p)/\β'=D/\Bls bv (oK p t n ws r) Hb
 | _=>kJ p t (dY (Aes.enc ws n)) (C,r)=(0,(σ',r'))/\s'=oP p C r s/\β'=aA1 p t n ws C r D
def fmE(e:Int)(H:Hp):Prop:=∃ (σ':Dv) (r':Rg) (bv:Value) (Hd Hs Hk Hb:Hp),eX d σ' Hd/\lL sp c b n ws (oP p C r s) Hs/\eP bk tb (aA1 p t n ws C r D) Hk/\H.Perm (fmH d tr sp bk p t r fp b4 b5 bv r' Hd Hs Hk Hb)/\kJ p t (dY (Aes.enc ws n)) (C,r)=(e,(σ',r'))
end
theorem fG{H H':Hp} [hp:eY H H' []]:H.Perm H':=by have:=hp.perm;rwa [aG] at this
theorem TS.and_ne{a b:TS}{x:Dv×Rg}(h:(a x).1≠0):(a.and b) x=a x:=by unfold TS.and;rw [if_neg h]
theorem TS.and_eq{a b:TS}{x y:Dv×Rg}(h:a x=(0,y)):(a.and b) x=b y:=by unfold TS.and;rw [h];rfl
theorem DS.and_ne{a b:DS}{x:Dv}(h:(a x).1≠0):(a.and b) x=a x:=by unfold DS.and;rw [if_neg h]
theorem DS.and_eq{a b:DS}{x y:Dv}(h:a x=(0,y)):(a.and b) x=b y:=by unfold DS.and;rw [h];rfl
theorem yJ{J:Type}{x:Int×J}(h:x.1=0):x=(0,x.2):=by rw [<-h]
theorem zZ(x:Dv×Rg):(gA x).2.1.ws.length=x.1.ws.length:=by
 show (qK _ _ _).ws.length=_;unfold qK;split
 ·rfl
 split
 ·rfl
 exact aKd _
theorem aJZ{x y:Dv×Rg}(h:gA x=(0,y)):y.2.c=x.2.c+1/\y.2.root=x.2.root:=by
 have h1:qL x.1 x.2 { x.2 with c:=x.2.c+1 }=0:=congrArg Prod.fst h;have h2:oM x.1 x.2 { x.2 with c:=x.2.c+1 }=y.2:=congrArg (fun z=>z.2.2) h;rw [<-h2];unfold qL at h1;unfold oM;split at h1
 ·omega
 rename_i h3;rw [if_neg h3];split at h1
 ·omega
 rename_i h4;rw [if_neg h4,if_pos h1];exact⟨rfl,rfl⟩
section
variable {d tr sp bk tb p t c b n:Nat}{ws:LL}{C:Dv}{r:Rg}{s:Sr}{D:Bk}{fp b4 b5:Nat}
theorem fm0(hr:r.Ok)(hc:r.c<=18446744073709551613):sX prog (.func (.func 74) [ptv fp].toArray [].toArray) (fmJ d tr sp bk tb p t c b n ws C r s D fp b4 b5 0) (fmJ d tr sp bk tb p t c b n ws C r s D fp b4 b5 1) (fmE d tr sp bk tb p t c b n ws C r s D fp b4 b5):=by
 refine⟨_,[ptv fp],[],rfl,inferInstance,fun Hc hJ=>?_⟩;obtain⟨σ',r',s',β',bv,Hd,Hs,Hk,Hb,hD,hS,hK,o0,hp,rfl,rfl,rfl,rfl,rfl⟩:=hJ;refine ((Tri.perm hp ((aJ0 (fp:=fp) (tr:=tr) (s:=sp) (bk:=bk) (p:=p) (t:=t) (kind:=0) (cnt:=0) (bv:=bv) (lv:=.slice none 0 0) (Lv:=.slice none 0 0) (ev:=.slice none 0 0) (tv:=.pointer none) hD hr oQ o0 ⟨rfl⟩ ⟨rfl⟩ ⟨rfl⟩ ⟨rfl⟩).frame (r:=(b5,cl [ptv fp] 150)::(b4,cl [.int .u64 r'.c] 23)::(Hs++(Hk++[]))) fG (fun _ _ _=>trivial)))).mono ?_;rintro v H ⟨H1,rfl,rfl,Hd',hD',rfl⟩;by_cases h0:(gA (σ',r')).1=0
 ·refine .inl ⟨by rw [h0],(gA (σ',r')).2.1,(gA (σ',r')).2.2,s',β',bv,Hd',Hs,Hk,[],hD',hS,hK,o0,fG,yJ h0,rfl,rfl,rfl⟩
 refine .inr ⟨_,h0,rfl,(gA (σ',r')).2.1,(gA (σ',r')).2.2,bv,Hd',Hs,Hk,[],hD',?_,?_,fG,?_⟩
 ·unfold oP;rw [if_neg oQ,if_neg h0];exact hS
 ·unfold aA1;rw [if_neg oQ,TS.and_ne h0,if_neg h0];exact hK
 unfold kJ;rw [if_neg (by show ¬ _<r'.c;omega)];exact TS.and_ne h0
theorem aHN{c0:Int}(h0:0<=c0)(h1:c0<=18446744073709551613):UInt64.ofNat c0.toNat+2=UInt64.ofNat (c0+2).toNat:=by apply sY.1;rw [gR,aU,aU,show (2:UInt64).toNat=2 from rfl];omega
theorem aOk(h:Gm.Ok p t)(h0:0<=r.c)(h1:r.c<=18446744073709551613){bv:Value}{s:Sr}{Hs:Hp}(hS:lL sp c b n ws s Hs)(hK:kA n ws)(o0:One bv):Tri prog 115 [ptv b5,ptv b4] ((fp,cl (bZ d tr sp bk p t 0 bv (.slice none 0 0) 0 (.slice none 0 0) (.slice none 0 0) (.pointer none)) 157)::(b5,cl [ptv fp] 150)::(b4,cl [.int .u64 r.c] 23)::Hs) NT (fun v H=>v=.int .i64 0/\∃ bv' Hs' Hb,lL sp c b n ws (kN s (kI r) (Gm.sealed p)) Hs'/\Bls bv' (oK p t n ws r) Hb/\H=(fp,cl (bZ d tr sp bk p t 0 bv' (.slice none 0 0) 0 (.slice none 0 0) (.slice none 0 0) (.pointer none)) 157)::(b5,cl [ptv fp] 150)::(b4,cl [.int .u64 r.c] 23)::(Hs'++Hb)):=by refine Tri.mt func115 ntmps115 fun w hw=>?_;have hbl:=aL3 (fp:=fp) (d:=d) (tr:=tr) (bk:=bk) (kind:=0) (cnt:=0) (bv:=bv) (lv:=.slice none 0 0) (Lv:=.slice none 0 0) (ev:=.slice none 0 0) (tv:=.pointer none) h hS hK o0 ⟨rfl⟩ ⟨rfl⟩ ⟨rfl⟩ ⟨rfl⟩ (kI r);haveI i1:U64 r.c (UInt64.ofNat r.c.toNat):=⟨by rw [aU];omega⟩;haveI i2:U64 2 2:=⟨rfl⟩;unfold kI at hbl |-;unfold oK kI;rw [<-aHN h0 h1] at hbl |-;refine W.k ?_;refine aF hbl ?_;rintro _ _ ⟨rfl,bv',Hs',Hb,hS',hB',rfl⟩;refine W.k ?_;refine Fin.to ((fp,cl (bZ d tr sp bk p t 0 bv' (.slice none 0 0) 0 (.slice none 0 0) (.slice none 0 0) (.pointer none)) 157)::(b5,cl [ptv fp] 150)::(b4,cl [.int .u64 r.c] 23)::(Hs'++Hb)) ?_;exact F.f1 ⟨rfl,bv',Hs',Hb,hS',hB',rfl⟩
theorem fm1(h:Gm.Ok p t)(hr:r.Ok)(hc:r.c<=18446744073709551613)(hK:kA n ws):sX prog (.func (.func 115) [].toArray [ptv b5,ptv b4].toArray) (fmJ d tr sp bk tb p t c b n ws C r s D fp b4 b5 1) (fmJ d tr sp bk tb p t c b n ws C r s D fp b4 b5 2) (fmE d tr sp bk tb p t c b n ws C r s D fp b4 b5):=by refine⟨_,[],[ptv b5,ptv b4],rfl,inferInstance,fun Hc hJ=>?_⟩;obtain⟨σ',r',s',β',bv,Hd,Hs,Hk,Hb,hD,hS,hB,o0,hp,hbm,rfl,rfl,rfl⟩:=hJ;refine ((Tri.perm hp ((aOk (fp:=fp) (d:=d) (tr:=tr) (bk:=bk) (b4:=b4) (b5:=b5) (bv:=bv) h hr.c0 hc hS hK o0).frame (r:=(tr,cl (trc d r') 201)::(Hd++(Hk++[]))) fG (fun _ _ _=>trivial)))).mono ?_;rintro v H ⟨H1,rfl,rfl,bv',Hs',Hb,hS',hB',rfl⟩;exact .inl ⟨rfl,σ',r',kN s' (kI r) (Gm.sealed p),β',bv',Hd,Hs',Hk,Hb,hD,hS',hB,hB'.one,fG,hbm,rfl,rfl,hB'⟩
theorem fm2(h:Gm.Ok p t)(hc:r.c<=18446744073709551613)(h8:C.ws.length%8=0):sX prog (.func (.func 72) [ptv fp].toArray [].toArray) (fmJ d tr sp bk tb p t c b n ws C r s D fp b4 b5 2) (fmJ d tr sp bk tb p t c b n ws C r s D fp b4 b5 3) (fmE d tr sp bk tb p t c b n ws C r s D fp b4 b5):=by
 refine⟨_,[ptv fp],[],rfl,inferInstance,fun Hc hJ=>?_⟩;obtain⟨σ',r',s',β',bv,Hd,Hs,Hk,Hb,hD,hS,hB,o0,hp,hbm,rfl,rfl,hBl⟩:=hJ;have hw:=zZ (C,r);rw [hbm] at hw;have hll:=Gm.leaves_le h;refine ((Tri.perm hp ((aIv (fp:=fp) (d:=d) (tr:=tr) (s:=sp) (bk:=bk) (p:=p) (t:=t) (kind:=0) (cnt:=0) (bv:=bv) (lv:=.slice none 0 0) (Lv:=.slice none 0 0) (ev:=.slice none 0 0) (tv:=.pointer none) hD (by rw [hw];exact h8) hBl ⟨rfl⟩ ⟨rfl⟩ ⟨rfl⟩ ⟨rfl⟩ (by rw [pE];omega) (rL (fun x=>Aes.enc_len ..) _)).frame (r:=(b5,cl [ptv fp] 150)::(b4,cl [.int .u64 r.c] 23)::(tr,cl (trc d r') 201)::(Hs++Hk)) fG (fun _ _ _=>trivial)))).mono ?_;rintro v H ⟨H1,rfl,rfl,Hd',hD',rfl⟩;by_cases h0:(iP (oK p t n ws r) σ').1=0
 ·exact .inl ⟨by rw [h0],(iP (oK p t n ws r) σ').2,r',_,β',bv,Hd',Hs,Hk,Hb,hD',hS,hB,o0,fG,⟨σ',hbm,yJ h0⟩,rfl,rfl,hBl⟩
 have e1:(bX p t (oK p t n ws r)).t (σ',r')=((iP (oK p t n ws r) σ').1,(iP (oK p t n ws r) σ').2,r'):=by show (((iP (oK p t n ws r)).and _ σ').1,((iP (oK p t n ws r)).and _ σ').2,r')=_;rw [DS.and_ne h0]
 refine .inr ⟨_,h0,rfl,(iP (oK p t n ws r) σ').2,r',bv,Hd',Hs,Hk,Hb,hD',?_,?_,fG,?_⟩
 ·unfold oP;rw [if_neg oQ,if_pos (by rw [hbm])];exact hS
 ·unfold aA1;rw [if_neg oQ,TS.and_eq hbm,e1,if_neg h0];exact hB
 unfold kJ;rw [if_neg (by show ¬ _<r.c;omega),TS.and_eq hbm,TS.and_ne (by rw [show (bX p t (iI p t (dY (Aes.enc ws n)) (UInt64.ofNat ((C,r).2.c+2).toNat))).t (σ',r')=_ from e1];exact h0)];exact e1
theorem fm3(h:Gm.Ok p t)(hc:r.c<=18446744073709551613)(h8:C.ws.length%8=0):sX prog (.func (.func 73) [ptv fp].toArray [].toArray) (fmJ d tr sp bk tb p t c b n ws C r s D fp b4 b5 3) (fmJ d tr sp bk tb p t c b n ws C r s D fp b4 b5 4) (fmE d tr sp bk tb p t c b n ws C r s D fp b4 b5):=by
 refine⟨_,[ptv fp],[],rfl,inferInstance,fun Hc hJ=>?_⟩;obtain⟨σ',r',s',β',bv,Hd,Hs,Hk,Hb,hD,hS,hB,o0,hp,⟨σ1,hbm,hwd⟩,rfl,rfl,hBl⟩:=hJ;have hw:=zZ (C,r);rw [hbm] at hw;have hw2:=((iZ (gB 0 (oK p t n ws r))).and yW) σ1;rw [show ((putL (gB 0 (oK p t n ws r))).and feS) σ1=(0,σ') from hwd] at hw2;dsimp only at hw hw2;refine ((Tri.perm hp ((aF8 (fp:=fp) (d:=d) (tr:=tr) (s:=sp) (bk:=bk) (kind:=0) (cnt:=0) (bv:=bv) (lv:=.slice none 0 0) (Lv:=.slice none 0 0) (ev:=.slice none 0 0) (tv:=.pointer none) h hD (by rw [hw2,hw];exact h8) o0 ⟨rfl⟩ ⟨rfl⟩ ⟨rfl⟩ ⟨rfl⟩).frame (r:=(b5,cl [ptv fp] 150)::(b4,cl [.int .u64 r.c] 23)::(tr,cl (trc d r') 201)::(Hs++(Hk++Hb))) fG (fun _ _ _=>trivial)))).mono ?_;rintro v H ⟨H1,rfl,rfl,Hd',hD',rfl⟩;have e0:bX p t (oK p t n ws r) σ1=fU (Gm.leaves p) (1+t) σ':=DS.and_eq hwd;by_cases h0:(fU (Gm.leaves p) (1+t) σ').1=0
 ·exact .inl ⟨by rw [h0],(fU (Gm.leaves p) (1+t) σ').2,r',_,β',bv,Hd',Hs,Hk,Hb,hD',hS,hB,o0,fG,⟨σ1,hbm,by rw [e0];exact yJ h0⟩,rfl,rfl,hBl⟩
 have e1:(bX p t (oK p t n ws r)).t (σ1,r')=((fU (Gm.leaves p) (1+t) σ').1,(fU (Gm.leaves p) (1+t) σ').2,r'):=by show ((bX p t (oK p t n ws r) σ1).1,(bX p t (oK p t n ws r) σ1).2,r')=_;rw [e0]
 refine .inr ⟨_,h0,rfl,(fU (Gm.leaves p) (1+t) σ').2,r',bv,Hd',Hs,Hk,Hb,hD',?_,?_,fG,?_⟩
 ·unfold oP;rw [if_neg oQ,if_pos (by rw [hbm])];exact hS
 ·unfold aA1;rw [if_neg oQ,TS.and_eq hbm,e1,if_neg h0];exact hB
 unfold kJ;rw [if_neg (by show ¬ _<r.c;omega),TS.and_eq hbm,TS.and_ne (by rw [show (bX p t (iI p t (dY (Aes.enc ws n)) (UInt64.ofNat ((C,r).2.c+2).toNat))).t (σ1,r')=_ from e1];exact h0)];exact e1
theorem fm4(h:Gm.Ok p t)(hr:r.Ok)(hc:r.c<=18446744073709551613):sX prog (.func (.func 117) [ptv fp].toArray [].toArray) (fmJ d tr sp bk tb p t c b n ws C r s D fp b4 b5 4) (fmJ d tr sp bk tb p t c b n ws C r s D fp b4 b5 5) (fmE d tr sp bk tb p t c b n ws C r s D fp b4 b5):=by
 refine⟨_,[ptv fp],[],rfl,inferInstance,fun Hc hJ=>?_⟩;obtain⟨σ',r',s',β',bv,Hd,Hs,Hk,Hb,hD,hS,hB,o0,hp,⟨σ1,hbm,hwd⟩,rfl,rfl,hBl⟩:=hJ;obtain⟨hbc,hbr⟩:=aJZ hbm;dsimp only at hbc hbr;have hr0:=hr.c0;refine ((Tri.perm hp ((aJ6 (fp:=fp) (d:=d) (tr:=tr) (s:=sp) (kind:=0) (cnt:=0) (bv:=bv) (lv:=.slice none 0 0) (Lv:=.slice none 0 0) (ev:=.slice none 0 0) (tv:=.pointer none) (r:=r') h hD ⟨by rw [hbr];exact hr.len,oQ,oQ⟩ oQ hB hBl ⟨rfl⟩ ⟨rfl⟩ ⟨rfl⟩ ⟨rfl⟩ (pE ..) (rL (fun x=>Aes.enc_len ..) _)).frame (r:=(b5,cl [ptv fp] 150)::(b4,cl [.int .u64 r.c] 23)::Hs) fG (fun _ _ _=>trivial)))).mono ?_;rintro v H ⟨H1,rfl,rfl,Hd',Hk',Hx,hD',hB',rfl⟩;have ew:(bX p t (oK p t n ws r)).t (σ1,r')=(0,σ',r'):=by show ((bX p t (oK p t n ws r) σ1).1,(bX p t (oK p t n ws r) σ1).2,r')=_;rw [hwd]
 have ef:kJ p t (dY (Aes.enc ws n)) (C,r)=jX ⟨r'.c+1,gE (oK p t n ws r)⟩ (σ',r'):=by unfold kJ;rw [if_neg (by show ¬ _<r.c;omega),TS.and_eq hbm];exact TS.and_eq ew
 have ek:aA1 p t n ws C r β'=vI β' (oK p t n ws r):=by unfold aA1;rw [if_neg oQ,TS.and_eq hbm,ew,if_pos rfl]
 have es:oP p C r s=kN s (kI r) (Gm.sealed p):=by unfold oP;rw [if_neg oQ,if_pos (by rw [hbm])]
 rw [<-ef] at hD' |-;rw [<-ek] at hB';rw [<-es] at hS;generalize hF:kJ p t (dY (Aes.enc ws n)) (C,r)=F at *;obtain⟨e,σ2,r2⟩:=F;by_cases h0:e=0
 ·subst h0;exact .inl ⟨rfl,σ2,r2,_,_,bv,Hd',Hs,Hk',Hb++Hx,hD',hS,hB',o0,fG,hF,es.symm▸rfl,rfl⟩
 exact .inr ⟨e,h0,rfl,σ2,r2,bv,Hd',Hs,Hk',Hb++Hx,hD',hS,hB',fG,hF⟩
end
def aOi(fp b5 b4:Nat):LV:=[.func (.func 74) #[ptv fp] #[],.func (.func 115) #[] #[ptv b5,ptv b4],.func (.func 72) #[ptv fp] #[],.func (.func 73) #[ptv fp] #[],.func (.func 117) #[ptv fp] #[]]
theorem aOj(fp b5 b4:Nat):bV (fun i=>some (i*1,1)) (zs [.nilFunc] 5) [(0,.func (.func 74) #[ptv fp] #[]),(1,.func (.func 115) #[] #[ptv b5,ptv b4]),(2,.func (.func 72) #[ptv fp] #[]),(3,.func (.func 73) #[ptv fp] #[]),(4,.func (.func 117) #[ptv fp] #[])]=some (aOi fp b5 b4):=rfl
theorem aJE{d tr sp bk tb p t c b n:Nat}{ws:LL}{C:Dv}{r:Rg}{s:Sr}{D:Bk}{Hd Hs Hk:Hp}(h:Gm.Ok p t)(hD:eX d C Hd)(hlen:C.len=256*Gm.total p t)(hr:r.Ok)(hS:lL sp c b n ws s Hs)(hK:kA n ws)(hB:eP bk tb D Hk):Tri prog 47 [vW d tr sp bk p t] ((tr,cl (trc d r) 201)::(Hd++(Hs++Hk))) NT (fun v H=>v=.int .i64 (kJ p t (dY (Aes.enc ws n)) (C,r)).1/\∃ Hd' Hs' Hk' Hx,eX d (kJ p t (dY (Aes.enc ws n)) (C,r)).2.1 Hd'/\lL sp c b n ws (oP p C r s) Hs'/\eP bk tb (aA1 p t n ws C r D) Hk' /\ H=(tr,cl (trc d (kJ p t (dY (Aes.enc ws n)) (C,r)).2.2) 201)::(Hd'++(Hs'++(Hk'++Hx)))):=by
 refine Tri.mt func47 ntmps47 fun w hw=>?_;have hmy:=aHa (tr:=tr) (s:=sp) (bk:=bk) h hD hlen;have hrd:=uR tr d r hr;have h8:C.ws.length%8=0:=by unfold Dv.len at hlen;omega
 have h0:=hr.c0;have h1:=hr.c1;refine W.k fun b_=>?_;refine aF hmy ?_;rintro _ Hd ⟨rfl,rfl⟩;refine W.k ?_;refine W.cq hrd ?_;by_cases hc:r.c<=18446744073709551613
 ·have hbf:bV (fun i=>[(0,6),(6,1),(7,1),(8,1),(9,2),(11,1),(12,1)][i]?) (List.replicate 4 (.pointer none)++[.int .i64 0,.int .i64 0,.int .i64 0]++[.slice none 0 0,.slice none 0 0]++[.int .u64 0]++[.slice none 0 0,.slice none 0 0]++[.pointer none]) [(0,vW d tr sp bk p t)]=some (bZ d tr sp bk p t 0 (.slice none 0 0) (.slice none 0 0) 0 (.slice none 0 0) (.slice none 0 0) (.pointer none)):=rfl;repeat' (first|(refine iQ (fun b_=>?_) (hr:=aOj _ _ _))|(refine W.go ?_;try intro b_)|fail)
  rename_i b1 b4 fp b5;rw [show ([.pointer none]:LV).set 0 (ptv fp)=[ptv fp] from rfl,show ([.int .u64 0]:LV).set 0 (.int .u64 r.c)=[.int .u64 r.c] from rfl];have hfs:∀ i v,(aOi fp b5 b4)[i]?=some v->sX prog v (fmJ d tr sp bk tb p t c b n ws C r s D fp b4 b5 i) (fmJ d tr sp bk tb p t c b n ws C r s D fp b4 b5 (i+1)) (fmE d tr sp bk tb p t c b n ws C r s D fp b4 b5):=fun i v hv=>by
   have hi:=(aD.1 hv).1;have hi5:i<5:=hi;rcases (by omega:i=0\/i=1\/i=2\/i=3\/i=4) with rfl|rfl|rfl|rfl|rfl
   ·cases hv;exact fm0 hr hc
   ·cases hv;exact fm1 h hr hc hK
   ·cases hv;exact fm2 h hc h8
   ·cases hv;exact fm3 h hc h8
   cases hv;exact fm4 h hr hc
  have hJ0:fmJ d tr sp bk tb p t c b n ws C r s D fp b4 b5 0 (fmH d tr sp bk p t r fp b4 b5 (.slice none 0 0) r Hd Hs Hk []):=⟨C,r,s,D,.slice none 0 0,Hd,Hs,Hk,[],hD,hS,hB,⟨rfl⟩,List.Perm.refl _,rfl,rfl,rfl,rfl,rfl⟩;refine aF (aNY b_ (aOi fp b5 b4) (by show 5<=1000;decide) hfs hJ0) ?_;rintro v H ⟨H',rfl,hh⟩;rcases hh with ⟨rfl,hJ⟩|⟨e,he,rfl,hE⟩
  ·obtain⟨σ',r',s',β',bv,Hd',Hs',Hk',Hb',hD',hS',hB',o0,hp,hF,rfl,rfl⟩:=hJ;rw [hF];refine W.k ?_;refine Fin.to H' ?_;refine Fin.perm hp ?_;refine Fin.to ((tr,cl (trc d r') 201)::(Hd'++(Hs'++(Hk'++Hb')))) ?_;exact F.f1 ⟨rfl,Hd',Hs',Hk',Hb',hD',hS',hB',rfl⟩
  obtain⟨σ',r',bv,Hd',Hs',Hk',Hb',hD',hS',hB',hp,hF⟩:=hE;rw [hF];refine W.k ?_;refine Fin.to H' ?_;refine Fin.perm hp ?_;refine Fin.to ((tr,cl (trc d r') 201)::(Hd'++(Hs'++(Hk'++Hb')))) ?_;exact F.f1 ⟨rfl,Hd',Hs',Hk',Hb',hD',hS',hB',rfl⟩
 have ef:kJ p t (dY (Aes.enc ws n)) (C,r)=(21,(C,r)):=by unfold kJ;rw [if_pos (by show _<r.c;omega)]
 have es:oP p C r s=s:=by unfold oP;rw [if_pos oQ]
 have ek:aA1 p t n ws C r D=D:=by unfold aA1;rw [if_pos oQ]
 rw [ef,es,ek];refine W.k fun b_=>?_;refine Fin.to ((tr,cl (trc d r) 201)::(Hd++(Hs++(Hk++[])))) ?_;exact F.f1 ⟨rfl,Hd,Hs,Hk,[],hD,hS,hB,rfl⟩
end
structure Dv.Sta(C:Dv)(n:Nat)(M:LB):Prop where
 l:C.Live
 ok:∀ w∈C.ws,w.Ok
 n:C.ws.length=n
 m:lP C.ws=M
theorem Dv.Sta.ml{C:Dv}{n:Nat}{M:LB}(h:C.Sta n M):M.length=8*n:=by rw [<-h.m,rM h.ok,h.n]
theorem Dv.Sta.len{C:Dv}{n:Nat}{M:LB}(h:C.Sta n M):C.len=8*n:=by unfold Dv.len;rw [h.n]
theorem Dv.Sta.store{C:Dv}{n:Nat}{M:LB}(h:C.Sta n M){i:Nat}{bs:LB}(hl:i+bs.length<=8*n):C.actR i bs.length=0/\(C.store i bs).Sta n (spl M i bs):=by
 obtain⟨h1,h2,h3⟩:=h.l.store (i:=i) (bs:=bs) (by rw [h.len];exact hl);refine⟨h3,h1,?_,?_,?_⟩
 ·rw [h2];exact aDK (fun j c w h=>Wd.ps_ok j c h) bs _ _ h.ok
 ·rw [h2,jJ];exact h.n
 rw [h2,(aIc bs C.ws i h.ok (by rw [h.n];exact hl)).1,h.m]
theorem Dv.Sta.flush{C:Dv}{n:Nat}{M:LB}(h:C.Sta n M){i m:Nat}(hl:i+m<=8*n):C.actR i m=0/\(C.flush i m).Sta n M:=by
 obtain⟨h1,h2,h3⟩:=h.l.flush (i:=i) (n:=m) (by rw [h.len];exact hl);refine⟨h3,h1,?_,?_,?_⟩
 ·rw [h2];unfold kW;split
  ·exact h.ok
  exact xH (fun w=>Wd.flushed_ok) _ _ h.ok
 ·rw [aFP];exact h.n
 rw [h2,(aGX _ _ _).1,h.m]
theorem Dv.Sta.fence{C:Dv}{n:Nat}{M:LB}(h:C.Sta n M):(feS C).1=0/\(feS C).2.Sta n M:=by
 obtain⟨h1,h2,h3⟩:=h.l.fence;refine⟨h3,h1,?_,?_,?_⟩
 ·show ∀ w∈C.fence.ws,_;rw [h2];intro w hw;obtain⟨u,hu,rfl⟩:=bM.1 hw;exact Wd.fenced_ok (h.ok u hu)
 ·show C.fence.ws.length=_;rw [wB];exact h.n
 show lP C.fence.ws=_;rw [h2,<-h.m];unfold lP;rw [List.flatMap_map];congr 1;funext w;exact aCv w
theorem Dv.Sta.doo{C:Dv}{n:Nat}{M:LB}(h:C.Sta n M):C.dooE=0/\C.doo.Sta n M:=by
 obtain⟨h1,h2,h3⟩:=h.l.act (4,0,0);have e:C.doo=C.act (4,0,0):=by unfold Dv.doo;rw [if_neg (by rw [h.l.d];decide)]
 have e2:C.dooE=0:=by unfold Dv.dooE;rw [if_neg (by rw [h.l.d];decide)];exact h3
 rw [e,e2];exact⟨rfl,h1,by rw [h2];exact h.ok,by rw [h2];exact h.n,by rw [h2];exact h.m⟩
theorem DS.and_sta{a b:DS}{C:Dv}{n:Nat}{M N:LB}(ha:(a C).1=0/\(a C).2.Sta n M)(hb:∀ E:Dv,E.Sta n M->(b E).1=0/\(b E).2.Sta n N):((a.and b) C).1=0/\((a.and b) C).2.Sta n N:=by unfold DS.and;rw [if_pos ha.1];exact hb _ ha.2
theorem Dv.Sta.put{C:Dv}{n:Nat}{M:LB}(h:C.Sta n M){k:Nat}{bs:LB}(hl:256*k+bs.length<=8*n):(fM k bs C).1=0/\(fM k bs C).2.Sta n (spl M (256*k) bs):=
 DS.and_sta (a:=stS (256*k) bs) (h.store (i:=256*k) hl) fun E ht=>ht.flush (i:=256*k) (m:=bs.length) hl
theorem aE1(M:LB)(i:Nat)(a b:LB)(hl:i+a.length+b.length<=M.length):spl (spl M i a) (i+a.length) b=spl M i (a++b):=by
 unfold spl;have e1:(M.take i).length=i:=by rw [aH];omega
 have e2:(M.take i++a).length=i+a.length:=by rw [aB,e1]
 rw [cT e2,aB,show i+a.length+b.length=(M.take i++a).length+b.length by rw [e2],gM,cG,e2,(cQ oQ:List.drop (i+a.length+b.length) (M.take i++a)=[])];rw [show i+a.length+(i+a.length+b.length-(i+a.length))=i+(a.length+b.length) by omega];simp only [aT,List.nil_append]
theorem Dv.Sta.putL:∀ (l:LL) {C:Dv} {n:Nat} {M:LB} (h:C.Sta n M) (k:Nat) (hb:∀ b∈l,b.length=256) (hl:256*(k+l.length)<=8*n),(putL (gB k l) C).1=0/\(putL (gB k l) C).2.Sta n (spl M (256*k) l.flatten)
 | [],C,n,M,h,k,hb,hl=>by
  refine⟨rfl,?_⟩;show C.Sta n _;have:spl M (256*k) ([]:LL).flatten=M:=by unfold spl;simp
  rw [this];exact h
 | b::l,C,n,M,h,k,hb,hl=>by
  have hb0:=hb b (by simp);simp only [aW] at hl;have hrow:gB k (b::l)=(k,b)::gB (k+1) l:=by unfold gB;rw [List.mapIdx_cons];congr 1;apply List.mapIdx_eq_mapIdx_iff.2 ?_;intro i hi;rw [show k+(i+1)=k+1+i by omega]
  rw [hrow];refine DS.and_sta (a:=fM k b) (h.put (k:=k) (bs:=b) oQ) fun E ht=>?_;have:=Dv.Sta.putL l ht (k+1) (fun x hx=>hb x (by simp [hx])) oQ;have hfl:l.flatten.length=256*l.length:=by
   clear this ht hrow hl h;induction l with
   | nil=>rfl
   | cons x r ih=>
    rw [eU,aB,hb x (by simp),ih (fun y hy=>hb y (by
     rcases cD.1 hy with rfl|hy
     ·simp
     ·simp [hy])),aW]
    omega
  have e:=aE1 M (256*k) b l.flatten (by rw [h.ml,hfl,hb0];omega);rw [hb0,show 256*k+256=256*(k+1) by omega] at e;rw [e] at this;exact this
theorem aCj{C:Dv}{r:Rg}{n:Nat}{M:LB}(h:C.Sta n M)(x:Rg)(hx:r.c<x.c):∃ σ',(jX x) (C,r)=(0,(σ',x))/\σ'.Sta n M:=by obtain⟨h1,h2⟩:=h.doo;refine⟨C.doo,?_,h2⟩;unfold jX qL qK oM;simp only [h.l.d,lE,if_false,h1,if_true];rw [if_neg oQ,if_neg oQ,if_neg oQ]
theorem aMj{p t:Nat}{C:Dv}{r:Rg}{X:UInt64->Nat->LB->LB}{n:Nat}{M:LB}(h:C.Sta n M)(hn:8*n=256*(Gm.leaves p+(1+t)))(hc:r.c<=18446744073709551613) (h256:∀ b∈iI p t X (UInt64.ofNat (r.c+2).toNat),b.length=256) (hbl:(iI p t X (UInt64.ofNat (r.c+2).toNat)).length=Gm.leaves p):∃ σ',kJ p t X (C,r)=(0,(σ',{ c:=r.c+2,root:=gE (iI p t X (UInt64.ofNat (r.c+2).toNat)) }))/\σ'.Sta n ((iI p t X (UInt64.ofNat (r.c+2).toNat)).flatten++List.replicate (256*(1+t)) 0):=by
 unfold kJ;rw [if_neg (by show ¬ _<r.c;omega)];generalize iI p t X (UInt64.ofNat (r.c+2).toNat)=B at *;obtain⟨σ1,e1,h1⟩:=aCj h { r with c:=r.c+1 } (by show r.c<r.c+1;omega);rw [TS.and_eq (show gA (C,r)=(0,(σ1,{ r with c:=r.c+1 })) from e1)];have hfl:B.flatten.length=256*B.length:=by
  clear hbl;induction B with
  | nil=>rfl
  | cons x r ih=>rw [eU,aB,h256 x (by simp),ih (fun y hy=>h256 y (by simp [hy])),aW];omega
 have hM:=h.ml;have hD:(bX p t B σ1).1=0/\(bX p t B σ1).2.Sta n (spl (spl M (256*0) B.flatten) (256*Gm.leaves p) (List.replicate (256*(1+t)) 0)):=by refine DS.and_sta (DS.and_sta (Dv.Sta.putL B h1 0 h256 (by rw [hbl];omega)) fun E ht=>ht.fence) fun E ht=>?_;refine DS.and_sta (a:=fM (Gm.leaves p) (List.replicate (256*(1+t)) 0)) (ht.put (by rw [bA];omega)) fun τ' ht'=>ht'.fence
 have es:spl (spl M (256*0) B.flatten) (256*Gm.leaves p) (List.replicate (256*(1+t)) 0)=B.flatten++List.replicate (256*(1+t)) 0:=by rw [show 256*Gm.leaves p=256*0+B.flatten.length by rw [hfl,hbl];omega,aE1 _ _ _ _ (by rw [hfl,hbl,bA];omega)];unfold spl;rw [show 256*0=0 from rfl,cU,List.nil_append,cQ (by rw [aB,hfl,hbl,bA];omega),aG]
 rw [es] at hD;obtain⟨e2,h2⟩:=hD;rw [TS.and_eq (y:=((bX p t B σ1).2,{ r with c:=r.c+1 })) (by unfold DS.t;dsimp only;rw [e2])];obtain⟨σ3,e3,h3⟩:=aCj (r:={ r with c:=r.c+1 }) h2 { c:=r.c+2,root:=gE B } (by show r.c+1<r.c+2;omega);refine⟨σ3,?_,h3⟩;show jX ⟨r.c+1+1,gE B⟩ ((bX p t B σ1).2,{ r with c:=r.c+1 })=_;rw [show r.c+1+1=r.c+2 by omega];exact e3
theorem aHL{l:LL}(hl:∀ b∈l,b.length=256)(R:LB):∀ {k:Nat} {b:LB},l[k]?=some b->((l.flatten++R).drop (256*k)).take 256=b:=by
 induction l with
 | nil=>intro k b h;simp at h
 | cons x r ih=>
  intro k b h
  have hx:=hl x (by simp)
  cases k with
  | zero=>
   simp at h;subst h
   rw [Nat.mul_zero,bQ,eU,aT,cT hx]
  | succ k=>
   rw [eU,aT,show 256*(k+1)=x.length+256*k by rw [hx];omega,gM,<-ih (fun y hy=>hl y (by simp [hy])) h,(cQ oQ:List.drop (x.length+256*k) x=[]),List.nil_append,dB]
theorem Dv.Sta.blk{C:Dv}{n:Nat}{B:LL}{R:LB}(h:C.Sta n (B.flatten++R))(hB:∀ b∈B,b.length=256){k:Nat}{b:LB}(hk:B[k]?=some b)(hl:256*(k+1)<=8*n):C.blk k=b:=by unfold Dv.blk Dv.loadB;rw [if_pos (h.l.rdy oQ oQ (by rw [h.len];omega)),h.m,aS];exact aHL hB R hk
theorem Dv.Sta.blks{C:Dv}{n:Nat}{B:LL}{R:LB}(h:C.Sta n (B.flatten++R))(hB:∀ b∈B,b.length=256)(hl:256*B.length<=8*n):C.blks 0 B.length=B:=by
 unfold Dv.blks;apply cM;intro i;rw [aL];by_cases hi:i<B.length
 ·rw [eI hi,Option.map_some,aA hi,fT];exact congrArg some (h.blk hB (aA hi) oQ)
 rw [bF (l:=List.range B.length) (by rw [dR];omega),bF (l:=B) oQ];rfl
theorem aAp(n:Nat)(hn:n<=1024):(Dv.new (n:Int)).Sta (8*n) (List.replicate (64*n) 0):=by
 have e:(8*min (max (n:Int) 0) 1024).toNat=8*n:=oQ;refine⟨⟨rfl,rfl⟩,(Dv.new_ok _).ok,by unfold Dv.new;rw [e,bA],?_⟩;unfold Dv.new lP;rw [e];show (List.replicate (8*n) Wd.zero).flatMap Wd.now=_;have:∀ m,(List.replicate m Wd.zero).flatMap Wd.now=List.replicate (8*m) 0:=fun m=>by
  induction m with
  | zero=>rfl
  | succ m ih=>rw [fI,dE,ih,show 8*(m+1)=8+8*m by omega,<-gG];rfl
 rw [this,show 8*(8*n)=64*n by omega]
section
section
variable {P:Program}{C:Ctx}{A:Fr}{H:Hp}{t t' len:Nat}{x y:Operand}{a b:LB}{o:Oper}
theorem aMx(ho:o.op=.binOp .eql t x y t')(hx:ev A x=some (.agg (cbs a).toArray))(hy:ev A y=some (.agg (cbs b).toArray)) [h:EqB P t len](h1:a.length=len)(h2:b.length=len)(he:¬ a=b):Pu P C A H o (.bool false):=by have:=aNr (P:=P) (C:=C) (H:=H) ho hx hy h1 h2;rwa [decide_eq_false he] at this
theorem aEJ(ho:o.op=.binOp .neq t x y t')(hx:ev A x=some (.agg (cbs a).toArray))(hy:ev A y=some (.agg (cbs b).toArray)) [h:EqB P t len](h1:a.length=len)(h2:b.length=len)(he:¬ a=b):Pu P C A H o (.bool true):=fun ac w hf _=>by
 unfold execOp;rw [ho];simp [hf.eval hx,hf.eval hy,run_eqGuard_agg _ _ _ _ _ _ _ h.guard,binOp,EqB.eq w a b h1 h2,he]
end
attribute [local irreducible] SW SL SQ SH SA SS Pu Fin bS aN
theorem Dv.blks_len(C:Dv)(a n:Nat):(C.blks a n).length=n:=by unfold Dv.blks;simp
theorem Dv.blks_succ(C:Dv)(a n:Nat):C.blks a (n+1)=C.blks a n++[C.blk (a+n)]:=by unfold Dv.blks;rw [bT,aZ];rfl
end
end Go.Proofs.YtdfclocfackkmaaGreat
