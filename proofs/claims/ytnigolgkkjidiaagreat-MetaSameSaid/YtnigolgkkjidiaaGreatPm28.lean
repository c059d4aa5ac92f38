/- A block is put; the log is scrubbed. -/
import Derived.Test.YtnigolgkkjidiaaGreatPm26
import Derived.Test.YtnigolgkkjidiaaGreatPm27
import Derived.Test.YtnigolgkkjidiaaGreatPm18
import Derived.Test.YtnigolgkkjidiaaGreatPm24
import Derived.Test.YtnigolgkkjidiaaGreatPm10
set_option linter.unusedVariables false
set_option linter.unusedSimpArgs false
set_option linter.unusedSectionVars false
set_option maxHeartbeats 4000000
namespace Go.Proofs.YtnigolgkkjidiaaGreat
open Go
attribute [local irreducible] SW SL SQ SH SA SS Pu Fin CutF HandF
theorem put_p{d tr s bk p t:Nat}{σ:Dv}{Hd:Hp}(hD:DevP d σ Hd)(h8:σ.ws.length%8=0)(k:Nat)(hk:k<65536)(v:Value)(b:List UInt8)(hb:b.length≤1048576) :
  Tri Tryz.prog 186 [baseV d tr s bk p t,.int .i64 (k:Int),v] Hd (fun w=>Rd (Hd.map Prod.fst) w 1 v (cbs b)) (fun r H=>r=.int .i64 (putS k b σ).1∧DevP d (putS k b σ).2 H):=by
 refine Tri.mk Tryz.func186 rfl Tryz.ntmps186 rfl fun w hw=>?_
 have hby:=gbytes_p (k:=k) hk
 have hst:=store_p hD ((256*k:Nat):Int) v b hb
 obtain⟨a,la,ca,rfl,hl1,hc1,hr1⟩:=hw.get
 rw [cbs_len,Nat.mul_one] at hl1
 subst hl1
 have hY:One (Value.slice a b.length ca):=⟨rfl⟩
 repeat' (first|(refine W.go ?_;try intro b_)|fail)
 refine W.call hby ?_
 rintro _ _ ⟨rfl,rfl⟩
 repeat' (first|(refine W.go ?_;try intro b_)|fail)
 refine W.call hst ?_ (hpre:=fun w2 hs=>hw.ro (Hc:=Hd) hs)
 rintro _ H1 ⟨rfl,hD1⟩
 have e1:(stS (256*k) b σ).1=σ.actR ((256*k:Nat):Int) b.length:=rfl
 have e2:(stS (256*k) b σ).2=σ.store ((256*k:Nat):Int) b:=rfl
 unfold putS DS.and
 rw [e1,e2]
 by_cases h0:σ.actR ((256*k:Nat):Int) b.length=0
 ·rw [if_pos h0]
  have hfl:=flush_p hD1 (by rw [store_wl];exact h8) ((256*k:Nat):Int) (b.length:Int)
  repeat' (first|(refine W.go ?_;try intro b_)|fail)
  refine W.call hfl ?_
  rintro _ H2 ⟨rfl,hD2⟩
  repeat' (first|(refine W.go ?_;try intro b_)|fail)
  refine Fin.to H2 ?_
  exact F.f1 ⟨rfl,hD2⟩
 ·rw [if_neg h0]
  repeat' (first|(refine W.go ?_;try intro b_)|fail)
  refine Fin.to H1 ?_
  exact F.f1 ⟨rfl,hD1⟩
theorem noughts(m:Nat):List.replicate m (Value.int .u8 0)=cbs (List.replicate m 0):=by simp [cbs]
theorem scrub_p{d tr s bk p t:Nat}(h:Gm.Ok p t){σ:Dv}{Hd:Hp}(hD:DevP d σ Hd)(h8:σ.ws.length%8=0)(n:Nat)(hn:n≤100) :
  Tri Tryz.prog 124 [baseV d tr s bk p t,.int .i64 (n:Int)] Hd (fun _=>True) (fun r H=>r=.int .i64 (scrubS (Gm.leaves p) n σ).1∧DevP d (scrubS (Gm.leaves p) n σ).2 H):=by
 refine Tri.mk Tryz.func124 rfl Tryz.ntmps124 rfl fun w hw=>?_
 have hla:=glogAt_p h 0
 have hll:=Gm.leaves_le h
 rw [show Gm.atK (1+t) (Gm.leaves p) 0=((Gm.leaves p:Nat):Int) by unfold Gm.atK;rw [if_pos (by omega)];omega] at hla
 have hby:=gbytes_p (k:=n) (by omega)
 generalize Gm.leaves p=l at *
 have hput:=fun v=>put_p (tr:=tr) (s:=s) (bk:=bk) (p:=p) (t:=t) hD h8 l (by omega) v (List.replicate (256*n) 0) (by rw [List.length_replicate];omega)
 repeat' (first|(refine W.go ?_;try intro b_)|fail)
 (refine SW.regionS [7] ?_ (by kernel_rfl);(first|refine SS.lw 0 [7] rfl ?_|refine SS.la 0 [7] rfl ?_|refine SS.aR 0 rfl ?_);refine SS.T 1 rfl ?_;(first|refine SS.lw 2 [3,7] rfl ?_|refine SS.la 2 [3,7] rfl ?_|refine SS.aR 2 rfl ?_);refine SS.T 4 rfl ?_;refine SS.effK 3 ?_ rfl (by kernel_rfl))
 refine W.call hla ?_
 rintro _ _ ⟨rfl,rfl⟩
 (refine SL.nilB ?_;refine SS.effK 5 ?_ rfl (by kernel_rfl))
 refine W.call hby ?_
 rintro _ _ ⟨rfl,rfl⟩
 (refine SL.nilB ?_;refine SS.effK 6 ?_ rfl (by kernel_rfl))
 refine W.ma (fun bz=>?_)
 rw [zs_one,noughts]
 (refine SL.nilB ?_;refine SS.effB 7 ?_ rfl (by kernel_rfl))
 refine W.call (hput _) ?_ (hpre:=fun w2 hs=>Rd.my (Hc:=Hd) (T:=5) bz _ hs (List.length_replicate))
 rintro _ H1 ⟨rfl,hD1⟩
 (refine SL.nilB ?_;refine SS.T 8 rfl ?_;refine SS.done ?_ (by kernel_rfl))
 unfold scrubS DS.and
 by_cases h0:(putS l (List.replicate (256*n) 0) σ).1=0
 ·rw [if_pos h0]
  have hfe:=fence_p hD1
  repeat' (first|(refine W.go ?_;try intro b_)|fail)
  refine W.call hfe ?_
  rintro _ H2 ⟨rfl,hD2⟩
  repeat' (first|(refine W.go ?_;try intro b_)|fail)
  refine Fin.to H2 ?_
  exact F.f1 ⟨rfl,hD2⟩
 ·rw [if_neg h0]
  repeat' (first|(refine W.go ?_;try intro b_)|fail)
  refine Fin.to H1 ?_
  exact F.f1 ⟨rfl,hD1⟩
abbrev rbaseV(d tr s p t:Nat):Value:=.agg #[ptv d,ptv tr,ptv s,.int .i64 (p:Int),.int .i64 (t:Int)]
theorem rput_p{d tr s p t:Nat}{σ:Dv}{Hd:Hp}(hD:DevR d σ Hd)(h8:σ.ws.length%8=0)(k:Nat)(hk:k<65536)(v:Value)(b:List UInt8)(hb:b.length≤1048576) :
  Tri Tryz.prog 200 [rbaseV d tr s p t,.int .i64 (k:Int),v] Hd (fun w=>Rd (Hd.map Prod.fst) w 1 v (cbs b)) (fun r H=>r=.int .i64 (putS k b σ).1∧DevR d (putS k b σ).2 H):=by
 refine Tri.mk Tryz.func200 rfl Tryz.ntmps200 rfl fun w hw=>?_
 have hst:=rstore_p hD ((256*k:Nat):Int) v b hb
 obtain⟨a,la,ca,rfl,hl1,hc1,hr1⟩:=hw.get
 rw [cbs_len,Nat.mul_one] at hl1
 subst hl1
 have hY:One (Value.slice a b.length ca):=⟨rfl⟩
 have e:(256:Int)*(k:Int)=((256*k:Nat):Int):=by omega
 rw [← e] at hst
 repeat' (first|(refine W.go ?_;try intro b_)|fail)
 refine W.call hst ?_ (hpre:=fun w2 hs=>hw.ro (Hc:=Hd) hs)
 rintro _ H1 ⟨rfl,hD1⟩
 rw [e] at hD1 ⊢
 have e1:(stS (256*k) b σ).1=σ.actR ((256*k:Nat):Int) b.length:=rfl
 have e2:(stS (256*k) b σ).2=σ.store ((256*k:Nat):Int) b:=rfl
 unfold putS DS.and
 rw [e1,e2]
 by_cases h0:σ.actR ((256*k:Nat):Int) b.length=0
 ·rw [if_pos h0]
  have hfl:=rflush_p hD1 (by rw [store_wl];exact h8) ((256*k:Nat):Int) (b.length:Int)
  rw [← e] at hfl
  repeat' (first|(refine W.go ?_;try intro b_)|fail)
  refine W.call hfl ?_
  rintro _ H2 ⟨rfl,hD2⟩
  rw [e] at hD2 ⊢
  repeat' (first|(refine W.go ?_;try intro b_)|fail)
  refine Fin.to H2 ?_
  exact F.f1 ⟨rfl,hD2⟩
 ·rw [if_neg h0]
  repeat' (first|(refine W.go ?_;try intro b_)|fail)
  refine Fin.to H1 ?_
  exact F.f1 ⟨rfl,hD1⟩
theorem rscrub_p{d tr s p t:Nat}(h:Gm.Ok p t){σ:Dv}{Hd:Hp}(hD:DevR d σ Hd)(h8:σ.ws.length%8=0)(n:Nat)(hn:n≤100) :
  Tri Tryz.prog 202 [rbaseV d tr s p t,.int .i64 (n:Int)] Hd (fun _=>True) (fun r H=>r=.int .i64 (scrubS (Gm.leaves p) n σ).1∧DevR d (scrubS (Gm.leaves p) n σ).2 H):=by
 refine Tri.mk Tryz.func202 rfl Tryz.ntmps202 rfl fun w hw=>?_
 have hla:=rat7_p h (K:=4) (n:=1+t) (base:=Gm.leaves p) (.inr (.inr ⟨rfl,rfl,rfl⟩)) 0
 have hll:=Gm.leaves_le h
 rw [show Gm.atK (1+t) (Gm.leaves p) 0=((Gm.leaves p:Nat):Int) by unfold Gm.atK;rw [if_pos (by omega)];omega] at hla
 generalize Gm.leaves p=l at *
 have hput:=fun v=>rput_p (tr:=tr) (s:=s) (p:=p) (t:=t) hD h8 l (by omega) v (List.replicate (256*n) 0) (by rw [List.length_replicate];omega)
 haveI i0:NatI (256*(n:Int)) (256*n):=⟨by omega⟩
 repeat' (first|(refine W.go ?_;try intro b_)|fail)
 (refine SW.regionS [] ?_ (by kernel_rfl);(first|refine SS.lw 0 [] rfl ?_|refine SS.la 0 [] rfl ?_|refine SS.aR 0 rfl ?_);refine SS.T 1 rfl ?_;(first|refine SS.lw 2 [] rfl ?_|refine SS.la 2 [] rfl ?_|refine SS.aR 2 rfl ?_);refine SS.T 4 rfl ?_;refine SS.T 5 rfl ?_;skip )
 refine SS.twoK 3 6 ?_ ?_ rfl rfl
 case' refine_1=>
  refine W.callE hla rfl ?_
  rintro _ _ ⟨rfl,rfl⟩
  refine SL.nilB ?_
  refine SS.effK 6 ?_ rfl (by kernel_rfl)
  refine W.ma (fun bz=>?_)
  refine SL.nilB ?_
 case' refine_2=>
  refine W.ma (fun bz=>?_)
  refine SL.nilB ?_
  refine SS.effK 3 ?_ rfl (by kernel_rfl)
  refine W.callE hla rfl ?_
  rintro _ _ ⟨rfl,rfl⟩
  refine SL.nilB ?_
 all_goals
  refine SS.effK 7 ?_ rfl (by kernel_rfl)
  rw [zs_one,noughts]
  refine W.call (hput _) ?_ (hpre:=fun w2 hs=>Rd.my (Hc:=Hd) (T:=5) bz _ hs (List.length_replicate))
  rintro _ H1 ⟨rfl,hD1⟩
  (refine SL.nilB ?_;refine SS.T 8 rfl ?_;refine SS.done ?_ (by kernel_rfl))
  unfold scrubS DS.and
  by_cases h0:(putS l (List.replicate (256*n) 0) σ).1=0
  ·rw [if_pos h0]
   have hfe:=rfence_p hD1
   repeat' (first|(refine W.go ?_;try intro b_)|fail)
   refine W.call hfe ?_
   rintro _ H2 ⟨rfl,hD2⟩
   repeat' (first|(refine W.go ?_;try intro b_)|fail)
   refine Fin.to H2 ?_
   exact F.f1 ⟨rfl,hD2⟩
  ·rw [if_neg h0]
   repeat' (first|(refine W.go ?_;try intro b_)|fail)
   refine Fin.to H1 ?_
   exact F.f1 ⟨rfl,hD1⟩
def StepF(P:Program)(v:Value)(J J':Hp→Prop)(E:Int→Hp→Prop):Prop:=
 ∃ (f:FuncId) (us cs:List Value),v=.func (.func f) us.toArray cs.toArray∧IsFn P f∧∀ Hc,J Hc→Tri P f (us++[]++cs) Hc (fun _=>True) (fun r H=>(r=.int .i64 0∧J' H)∨∃ e:Int,e≠0∧r=.int .i64 e∧E e H)
theorem allM_p{J:Nat→Hp→Prop}{E:Int→Hp→Prop}(sb:Nat)(fs:List Value)(hn:fs.length≤1000)(hfs:∀ i v,fs[i]?=some v→StepF Tryz.prog v (J i) (J (i+1)) E){H0:Hp}(h0:J 0 H0) :
  Tri Tryz.prog 55 [.slice (some ⟨sb,0,none⟩) fs.length fs.length] ((sb,cl fs 146)::H0) (fun _=>True)
  (fun r H=>∃ H',H=(sb,cl fs 146)::H'∧((r=.int .i64 0∧J fs.length H')∨∃ e:Int,e≠0∧r=.int .i64 e∧E e H')):=by
 refine Tri.mk Tryz.func55 rfl Tryz.ntmps55 rfl fun w hw=>?_
 repeat' (first|(refine W.go ?_;try intro b_)|fail)
 refine SW.loopF [6,7] (fun x:Nat×Hp=>[(8,.int .i64 (x.1:Int))]) (fun x=>(sb,cl fs 146)::x.2) (fun x=>fs.length-x.1) (fun x=>x.1≤fs.length∧J x.1 x.2) (0,H0) ⟨Nat.zero_le _,h0⟩ ?_
 rintro⟨k,Hk⟩ ⟨hk,hJ⟩
 dsimp only at hk hJ ⊢
 by_cases h:k<fs.length
 ·have hv:=List.getElem?_eq_getElem h
  obtain⟨f,us,cs,hfv,iF,hT⟩:=hfs k _ hv
  rw [hfv] at hv
  clear hfv
  have hT2:=hT Hk hJ
  repeat' (first|(refine W.go ?_;try intro b_)|fail)
  refine SL.callv Hk rfl rfl rfl rfl rfl rfl hT2 (fun _ _=>trivial) ?_
  rintro _ H2 (⟨rfl,hJ2⟩|⟨e,he,rfl,hE⟩)
  ·repeat' (first|(refine W.go ?_;try intro b_)|fail)
   refine HandF.mk (k+1,H2) ?_
   exact⟨h,hJ2⟩
  ·repeat' (first|(refine W.go ?_;try intro b_)|fail)
   refine Fin.to ((sb,cl fs 146)::H2) ?_
   exact F.f1 ⟨H2,rfl,.inr ⟨e,he,rfl,hE⟩⟩
 ·have:k=fs.length:=by omega
  subst this
  repeat' (first|(refine W.go ?_;try intro b_)|fail)
  refine Fin.to ((sb,cl fs 146)::Hk) ?_
  exact F.f1 ⟨Hk,rfl,.inl ⟨rfl,hJ⟩⟩
abbrev foundC(d tr s bk p t:Nat)(kind:Int)(bv lv:Value)(cnt:Int)(Lv ev tv:Value):List Value:=[ptv d,ptv tr,ptv s,ptv bk,.int .i64 (p:Int),.int .i64 (t:Int),.int .i64 kind,bv,lv,.int .u64 cnt,Lv,ev,tv]
def Bls(v:Value)(bss:List (List UInt8))(H:Hp):Prop:=∃ vs Hv Ht,Sl 50 1 v vs Hv∧RB Ht vs bss∧H=Hv++Ht
theorem mput_p{fp d tr s bk p t:Nat}{kind cnt:Int}{bv lv Lv ev tv:Value}{bss:List (List UInt8)}{σ:Dv}{Hd Hb:Hp}(hD:DevP d σ Hd)(h8:σ.ws.length%8=0)(hB:Bls bv bss Hb)(o1:One lv)(o2:One Lv)(o3:One ev)(o4:One tv)(k:Nat){b:List UInt8}(hk:bss[k]?=some b)(hk2:k<65536)(hb:b.length≤1048576) :
  Tri Tryz.prog 122 [ptv fp,.int .i64 (k:Int)] ((fp,cl (foundC d tr s bk p t kind bv lv cnt Lv ev tv) 145)::(Hd++Hb)) (fun _=>True)
  (fun r H=>r=.int .i64 (putS k b σ).1∧∃ Hd',DevP d (putS k b σ).2 Hd'∧H=(fp,cl (foundC d tr s bk p t kind bv lv cnt Lv ev tv) 145)::(Hd'++Hb)):=by
 obtain⟨vs,Hv,Ht,hS,hR,rfl⟩:=hB
 refine Tri.mk Tryz.func122 rfl Tryz.ntmps122 rfl fun w hw=>?_
 obtain⟨u,hu1,hu2⟩:=hR.2 k b hk
 have hkl:=(List.getElem?_eq_some_iff.1 hk).1
 have hvl:=hR.1
 rcases hS with ⟨-,hz,-⟩|⟨bb,len,cap,junk,rfl,hxl,hj,hlc,rfl⟩
 ·rw [hz] at hvl;simp at hvl;omega
 have hv:(vs++junk)[k]?=some u:=by rw [List.getElem?_append_left (by omega)];exact hu1
 have huo:=hu2.one
 have hl3:(foundC d tr s bk p t kind (.slice (some ⟨bb,0,none⟩) len cap) lv cnt Lv ev tv).length=13:=rfl
 repeat' (first|(refine W.go ?_;try intro b_)|fail)
 (refine SW.regionS [12] ?_ (by kernel_rfl);refine SS.T 0 rfl ?_;refine SS.T 1 rfl ?_;refine SS.T 2 rfl ?_;(first|refine SS.lw 3 [12] rfl ?_|refine SS.la 3 [12] rfl ?_|refine SS.aR 3 rfl ?_);refine SS.T 4 rfl ?_;refine SS.T 5 rfl ?_;refine SS.T 6 rfl ?_;refine SS.T 7 rfl ?_;(first|refine SS.ls 8 [10,11,12] rfl ?_|refine SS.sR 8 rfl ?_);refine SS.T 9 rfl ?_;refine SS.T 10 rfl ?_;(first|refine SS.ls 11 [12] rfl ?_|refine SS.sR 11 rfl ?_);refine SS.effB 12 ?_ rfl (by kernel_rfl))
 refine W.call (put_p hD h8 k hk2 u b hb) ?_ (hpre:=fun w2 hs=>hu2.rd (Hc:=Hd) hs)
 rintro _ H1 ⟨rfl,hD1⟩
 (refine SL.nilB ?_;refine SS.T 13 rfl ?_;refine SS.done ?_ (by kernel_rfl))
 repeat' (first|(refine W.go ?_;try intro b_)|fail)
 refine Fin.to ((fp,cl (foundC d tr s bk p t kind (.slice (some ⟨bb,0,none⟩) len cap) lv cnt Lv ev tv) 145)::(H1++([(bb,cl (vs++junk) 50)]++Ht))) ?_
 exact F.f1 ⟨rfl,H1,hD1,rfl⟩
def DS.Wl(a:DS):Prop:=∀ σ,(a σ).2.ws.length=σ.ws.length
theorem DS.Wl.and{a b:DS}(ha:a.Wl)(hb:b.Wl):(a.and b).Wl:=fun σ=>by
 unfold DS.and
 split
 ·rw [hb,ha]
 ·exact ha σ
theorem stS_wl(x:Nat)(bs:List UInt8):(stS x bs).Wl:=fun σ=>store_wl σ _ _
theorem flS_wl(x n:Nat):(flS x n).Wl:=fun σ=>flush_wl σ _ _
theorem feS_wl:feS.Wl:=fun σ=>fence_wl σ
theorem putS_wl(k:Nat)(b:List UInt8):(putS k b).Wl:=(stS_wl _ _).and (flS_wl _ _)
theorem putL_wl:∀ l,(putL l).Wl
 | []=>fun σ=>rfl
 | x::r=>(putS_wl _ _).and (putL_wl r)
theorem scrubS_wl(k n:Nat):(scrubS k n).Wl:=(putS_wl _ _).and feS_wl
theorem rowL_snoc(k:Nat)(l:List (List UInt8))(b:List UInt8):rowL k (l++[b])=rowL k l++[(k+l.length,b)]:=by unfold rowL;rw [List.mapIdx_concat]
theorem rowL_app(k:Nat)(l m:List (List UInt8)):rowL k (l++m)=rowL k l++rowL (k+l.length) m:=by
 induction m generalizing l with
 | nil=>simp [rowL]
 | cons x r ih=>
  rw [show l++x::r=(l++[x])++r by simp,ih,rowL_snoc,show rowL (k+l.length) (x::r)=(k+l.length,x)::rowL (k+l.length+1) r by unfold rowL;rw [List.mapIdx_cons];congr 1;apply List.mapIdx_eq_mapIdx_iff.2;intro i h;congr 1;omega]
  simp [Nat.add_assoc]
theorem whole_p{fp d tr s bk p t:Nat}{kind cnt:Int}{bv lv Lv ev tv:Value}{bss:List (List UInt8)}{σ:Dv}{Hd Hb:Hp}(hD:DevP d σ Hd)(h8:σ.ws.length%8=0)(hB:Bls bv bss Hb)(o1:One lv)(o2:One Lv)(o3:One ev)(o4:One tv)(hn:bss.length≤1000)(hb:∀ b∈bss,b.length=256) :
  Tri Tryz.prog 52 [ptv fp] ((fp,cl (foundC d tr s bk p t kind bv lv cnt Lv ev tv) 145)::(Hd++Hb)) (fun _=>True)
  (fun r H=>r=.int .i64 (wholeD bss σ).1∧∃ Hd',DevP d (wholeD bss σ).2 Hd'∧H=(fp,cl (foundC d tr s bk p t kind bv lv cnt Lv ev tv) 145)::(Hd'++Hb)):=by
 have hB0:=hB
 obtain⟨vs,Hv,Ht,hS,hR,rfl⟩:=hB
 have hbo:=hS.isOne
 have hvl:=hR.1
 obtain⟨ba,bl,bc,rfl,hbl⟩:=hS.form
 rw [Nat.mul_one,hvl] at hbl
 subst hbl
 refine Tri.mk Tryz.func52 rfl Tryz.ntmps52 rfl fun w hw=>?_
 repeat' (first|(refine W.gb ?_;try intro b_)|fail)
 refine SW.cutH [0] Hd (fun _:Dv×Hp=>[]) (fun x=>x.2) (fun x=>DevP d x.1 x.2∧putL (rowL 0 bss) σ=(0,x.1)) ?_ ?_
 ·repeat' (first|(refine W.go ?_;try intro b_)|fail)
  refine SW.loopF [0,9] (fun x:Nat×Dv×Hp=>[(10,.int .i64 (x.1:Int))]) (fun x=>x.2.2) (fun x=>bss.length-x.1) (fun x=>x.1≤bss.length∧DevP d x.2.1 x.2.2∧putL (rowL 0 (bss.take x.1)) σ=(0,x.2.1)) (0,σ,Hd) ⟨Nat.zero_le _,hD,by rw [List.take_zero];rfl⟩ ?_
  rintro⟨k,σ2,Hd⟩ ⟨hk,hD,hp⟩
  dsimp only at hk hD hp ⊢
  by_cases h:k<bss.length
  ·have hbk:=List.getElem?_eq_getElem h
   have hbl:=hb _ (List.getElem_mem h)
   have hwl:σ2.ws.length=σ.ws.length:=by have:=putL_wl (rowL 0 (bss.take k)) σ;rw [hp] at this;exact this
   have hpt:=mput_p (fp:=fp) (tr:=tr) (s:=s) (bk:=bk) (p:=p) (t:=t) (kind:=kind) (cnt:=cnt) hD (by rw [hwl];exact h8) hB0 o1 o2 o3 o4 k hbk (by omega) (by omega)
   have hsp:bss=bss.take k++bss[k]::bss.drop (k+1):=by rw [← List.drop_eq_getElem_cons h,List.take_append_drop]
   have htl:(bss.take k).length=k:=by rw [List.length_take];omega
   have hs1:putL (rowL 0 (bss.take (k+1))) σ=if (putS k bss[k] σ2).1=0 then (0,(putS k bss[k] σ2).2) else putS k bss[k] σ2:=by
    rw [List.take_add_one,hbk,Option.toList_some,rowL_snoc,putL_app,htl,Nat.zero_add]
    show DS.and _ ((putS k bss[k]).and fun σ=>(0,σ)) σ=_
    unfold DS.and
    rw [hp]
    simp
   have hs2:(putS k bss[k] σ2).1≠0→putL (rowL 0 bss) σ=putS k bss[k] σ2:=fun hne=>by
    have e:rowL 0 bss=rowL 0 (bss.take (k+1))++rowL (0+(bss.take (k+1)).length) (bss.drop (k+1)):=by rw [← rowL_app,List.take_append_drop]
    rw [e,putL_app]
    unfold DS.and
    rw [hs1,if_neg hne,if_neg hne]
   generalize bss[k]=b at *
   repeat' (first|(refine W.go ?_;try intro b_)|fail)
   refine W.call hpt ?_
   rintro _ _ ⟨rfl,Hd2,hD2,rfl⟩
   by_cases h0:(putS k b σ2).1=0
   ·rw [if_pos h0] at hs1
    repeat' (first|(refine W.go ?_;try intro b_)|fail)
    refine HandF.mk (k+1,(putS k b σ2).2,Hd2) ?_
    exact⟨h,hD2,hs1⟩
   ·have he:=hs2 h0
    have hwd:wholeD bss σ=putS k b σ2:=by
     unfold wholeD
     show (if (putL (rowL 0 bss) σ).1=0 then _ else _)=_
     rw [he,if_neg h0]
    rw [hwd]
    repeat' (first|(refine W.go ?_;try intro b_)|fail)
    refine Fin.to ((fp,cl (foundC d tr s bk p t kind (.slice ba bss.length bc) lv cnt Lv ev tv) 145)::(Hd2++(Hv++Ht))) ?_
    exact F.f1 ⟨rfl,Hd2,hD2,rfl⟩
  ·have hkn:k=bss.length:=by omega
   rw [hkn,List.take_length] at hp
   subst hkn
   repeat' (first|(refine W.go ?_;try intro b_)|fail)
   refine CutF.mk (σ2,Hd) ?_
   exact⟨hD,hp⟩
 rintro⟨σ2,Hd⟩ ⟨hD,hp⟩
 dsimp only at hD hp ⊢
 have hwd:wholeD bss σ=feS σ2:=by
  unfold wholeD
  show (if (putL (rowL 0 bss) σ).1=0 then _ else _)=_
  rw [hp];rfl
 have hfe:=fence_p hD
 rw [hwd]
 repeat' (first|(refine W.go ?_;try intro b_)|fail)
 refine W.call hfe ?_
 rintro _ Hd2 ⟨rfl,hD2⟩
 repeat' (first|(refine W.go ?_;try intro b_)|fail)
 refine Fin.to ((fp,cl (foundC d tr s bk p t kind (.slice ba bss.length bc) lv cnt Lv ev tv) 145)::(Hd2++(Hv++Ht))) ?_
 exact F.f1 ⟨rfl,Hd2,hD2,rfl⟩
theorem mscrub_p{fp d tr s bk p t:Nat}(h:Gm.Ok p t){kind cnt:Int}{bv lv Lv ev tv:Value}{σ:Dv}{Hd:Hp}(hD:DevP d σ Hd)(h8:σ.ws.length%8=0)(o0:One bv)(o1:One lv)(o2:One Lv)(o3:One ev)(o4:One tv) :
  Tri Tryz.prog 53 [ptv fp] ((fp,cl (foundC d tr s bk p t kind bv lv cnt Lv ev tv) 145)::Hd) (fun _=>True)
  (fun r H=>r=.int .i64 (scrubS (Gm.leaves p) (1+t) σ).1∧∃ Hd',DevP d (scrubS (Gm.leaves p) (1+t) σ).2 Hd'∧H=(fp,cl (foundC d tr s bk p t kind bv lv cnt Lv ev tv) 145)::Hd'):=by
 refine Tri.mk Tryz.func53 rfl Tryz.ntmps53 rfl fun w hw=>?_
 have ht:=h.2.2.2
 have hsc:=scrub_p (tr:=tr) (s:=s) (bk:=bk) h hD h8 (1+t) (by omega)
 rw [show ((1+t:Nat):Int)=1+(t:Int) by omega] at hsc
 have hl3:(foundC d tr s bk p t kind bv lv cnt Lv ev tv).length=13:=rfl
 repeat' (first|(refine W.go ?_;try intro b_)|fail)
 (refine SW.regionS [11] ?_ (by kernel_rfl);refine SS.T 0 rfl ?_;refine SS.T 1 rfl ?_;refine SS.T 2 rfl ?_;(first|refine SS.lw 3 [11] rfl ?_|refine SS.la 3 [11] rfl ?_|refine SS.aR 3 rfl ?_);refine SS.T 4 rfl ?_;refine SS.T 5 rfl ?_;refine SS.T 6 rfl ?_;refine SS.T 7 rfl ?_;refine SS.T 8 rfl ?_;(first|refine SS.ls 9 [10,11] rfl ?_|refine SS.sR 9 rfl ?_);refine SS.T 10 rfl ?_;refine SS.effB 11 ?_ rfl (by kernel_rfl))
 refine W.call hsc ?_
 rintro _ H1 ⟨rfl,hD1⟩
 (refine SL.nilB ?_;refine SS.T 12 rfl ?_;refine SS.done ?_ (by kernel_rfl))
 repeat' (first|(refine W.go ?_;try intro b_)|fail)
 refine Fin.to ((fp,cl (foundC d tr s bk p t kind bv lv cnt Lv ev tv) 145)::H1) ?_
 exact F.f1 ⟨rfl,H1,hD1,rfl⟩
theorem bump_p{fp d tr s bk p t:Nat}{kind cnt:Int}{bv lv Lv ev tv:Value}{σ:Dv}{r:Rg}{Hd:Hp}(hD:DevP d σ Hd)(hr:r.Ok)(hlt:r.c<18446744073709551615)(o0:One bv)(o1:One lv)(o2:One Lv)(o3:One ev)(o4:One tv) :
  Tri Tryz.prog 54 [ptv fp] ((fp,cl (foundC d tr s bk p t kind bv lv cnt Lv ev tv) 145)::(tr,cl (trc d r) 225)::Hd) (fun _=>True)
  (fun v H=>v=.int .i64 (bumpS (σ,r)).1∧∃ Hd',DevP d (bumpS (σ,r)).2.1 Hd'∧H=(fp,cl (foundC d tr s bk p t kind bv lv cnt Lv ev tv) 145)::(tr,cl (trc d (bumpS (σ,r)).2.2) 225)::Hd'):=by
 refine Tri.mk Tryz.func54 rfl Tryz.ntmps54 rfl fun w hw=>?_
 have hrd:=read_p tr d r hr
 have hc0:=hr.c0
 have hr2:({ r with c:=r.c+1 }:Rg).Ok:=⟨hr.len,by show 0≤r.c+1;omega,by show r.c+1≤_;omega⟩
 have hst:=set_p tr d r { r with c:=r.c+1 } hr hr2 hD
 have hl:=rgc_len hr
 have hl2:=rgc_len hr2
 haveI i1:U64 r.c (UInt64.ofNat r.c.toNat):=⟨by rw [UInt64.toNat_ofNat'];omega⟩
 have e1:(((UInt64.ofNat r.c.toNat+1).toNat:Nat):Int)=r.c+1:=by
  rw [UInt64.toNat_add,UInt64.toNat_ofNat',show (1:UInt64).toNat=1 from rfl];omega
 repeat' (first|(refine W.go ?_;try intro b_)|fail)
 refine W.call hrd ?_
 rintro _ _ ⟨rfl,rfl⟩
 repeat' (first|(refine W.go ?_;try intro b_)|fail)
 rw [e1,show (rgc r).set 0 (.int .u64 (r.c+1))=rgc { r with c:=r.c+1 } from rfl]
 have eb:bumpS (σ,r)=(setE σ r { r with c:=r.c+1 },setD σ r { r with c:=r.c+1 },setR σ r { r with c:=r.c+1 }):=rfl
 rw [eb]
 generalize ({ r with c:=r.c+1 }:Rg)=r2 at *
 (refine SW.regionS [6] ?_ (by kernel_rfl);refine SS.T 0 rfl ?_;refine SS.T 1 rfl ?_;refine SS.T 2 rfl ?_;refine SS.T 3 rfl ?_;(first|refine SS.ls 4 [6] rfl ?_|refine SS.sR 4 rfl ?_);(first|refine SS.lw 5 [6] rfl ?_|refine SS.la 5 [6] rfl ?_|refine SS.aR 5 rfl ?_);refine SS.effB 6 ?_ rfl (by kernel_rfl))
 refine W.call hst ?_
 rintro _ _ ⟨rfl,H2,rfl,hD2⟩
 (refine SL.nilB ?_;refine SS.T 7 rfl ?_;refine SS.done ?_ (by kernel_rfl))
 repeat' (first|(refine W.go ?_;try intro b_)|fail)
 refine Fin.to ((fp,cl (foundC d tr s bk p t kind bv lv cnt Lv ev tv) 145)::(tr,cl (trc d (setR σ r r2)) 225)::H2) ?_
 exact F.f1 ⟨rfl,H2,hD2,rfl⟩
def plantK(β:Bk)(bss:List (List UInt8)):Bk:=(β.adds (leafsB bss)).adds (textsV (sumsB bss) (dep (sumsB bss).length))
theorem leafsB_snoc(l:List (List UInt8))(b:List UInt8):leafsB (l++[b])=leafsB l++[leafT l.length b]:=by unfold leafsB;rw [List.mapIdx_concat]
theorem sumsB_snoc(l:List (List UInt8))(b:List UInt8):sumsB (l++[b])=sumsB l++[Sha.sum (leafT l.length b)]:=by unfold sumsB;rw [List.mapIdx_concat]
theorem planted_p{fp d tr s bk tb p t:Nat}(h:Gm.Ok p t){kind cnt:Int}{bv lv Lv ev tv:Value}{bss:List (List UInt8)}{β:Bk}{Hk Hb:Hp}(hK:BookP bk tb β Hk)(hB:Bls bv bss Hb)(o1:One lv)(o2:One Lv)(o3:One ev)(o4:One tv)(hn:bss.length=Gm.leaves p)(hb:∀ b∈bss,b.length=256) :
  Tri Tryz.prog 134 [ptv fp] ((fp,cl (foundC d tr s bk p t kind bv lv cnt Lv ev tv) 145)::(Hk++Hb)) (fun _=>True)
  (fun v H=>∃ tp be Ht Hk',v=.tuple #[ptv tp,.slice (some ⟨be,0,none⟩) (Gm.sealed p) (Gm.sealed p)]∧H=(fp,cl (foundC d tr s bk p t kind bv lv cnt Lv ev tv) 145)::(be,cl (uv (epsL ((bss.drop 1).take (Gm.epochs p)).flatten (Gm.sealed p))) 28)::(Ht++(Hk'++Hb)) ∧
   TreeV tp bk (sumsB bss) Ht∧BookP bk tb (plantK β bss) Hk'):=by
 obtain⟨vs,Hv,Ht,hS,hR,rfl⟩:=hB
 have hbo:=hS.isOne
 have hvl:=hR.1
 obtain⟨ba,bl,bc,rfl,hbl⟩:=hS.form
 rw [Nat.mul_one,hvl] at hbl
 subst hbl
 have hlc:bss.length≤bc:=by
  rcases hS with ⟨hz,hz2,-⟩|⟨bb,len,cap,junk,hz,hxl,hj,hlc,-⟩
  ·simp only [Value.slice.injEq] at hz;omega
  ·simp only [Value.slice.injEq] at hz;omega
 have hll:=Gm.leaves_le h
 have hL:Gm.leaves p=1+Gm.epochs p+Gm.sealed p:=rfl
 have hep:=gepochsN_p h
 have hRp:=hR.part 1 (Gm.epochs p)
 have hEp:=fun v=>sEpochs_p h v _ _ hRp (by rw [List.length_take,List.length_drop];omega) (fun b hbm=>hb b (List.mem_of_mem_drop (List.mem_of_mem_take hbm)))
 have hl1:1≤bss.length:=by omega
 refine Tri.mk Tryz.func134 rfl Tryz.ntmps134 rfl fun w hw=>?_
 repeat' (first|(refine W.gb ?_;try intro b_)|fail)
 refine SW.cutH [0] Hk (fun x:Value×Hp×Hp=>[(4,x.1)]) (fun x=>x.2.1++x.2.2) (fun x=>Sl 119 32 x.1 (cbs (sumsB bss).flatten) x.2.2∧BookP bk tb (β.adds (leafsB bss)) x.2.1) ?_ ?_
 ·repeat' (first|(refine W.go ?_;try intro b_)|fail)
  refine SW.loopF [0,15,16] (fun x:Nat×Value×Hp×Hp=>[(4,x.2.1),(17,.int .i64 (x.1:Int))]) (fun x=>x.2.2.1++x.2.2.2) (fun x=>bss.length-x.1) (fun x=>x.1≤bss.length∧Sl 119 32 x.2.1 (cbs (sumsB (bss.take x.1)).flatten) x.2.2.2∧BookP bk tb (β.adds (leafsB (bss.take x.1))) x.2.2.1) (0,.slice none 0 0,Hk,[]) ⟨Nat.zero_le _,by rw [List.take_zero];exact Sl.nil _ _,by rw [List.take_zero];exact hK⟩ ?_
  rintro⟨k,v2,Hk2,Hl2⟩ ⟨hk,hS2,hK2⟩
  dsimp only at hk hS2 hK2 ⊢
  have hS21:=hS2.isOne
  by_cases hkn:k<bss.length
  ·obtain⟨u,hu1,hu2⟩:=hR.2 k _ (List.getElem?_eq_getElem hkn)
   have hbl:=hb _ (List.getElem_mem hkn)
   have htl:(bss.take k).length=k:=by rw [List.length_take];omega
   have hts:bss.take (k+1)=bss.take k++[bss[k]]:=by rw [List.take_add_one,List.getElem?_eq_getElem hkn];rfl
   have hls:leafsB (bss.take (k+1))=leafsB (bss.take k)++[leafT k bss[k]]:=by rw [hts,leafsB_snoc,htl]
   have hss:sumsB (bss.take (k+1))=sumsB (bss.take k)++[Sha.sum (leafT k bss[k])]:=by rw [hts,sumsB_snoc,htl]
   have hfl:=flatN_len (L:=sumsB (bss.take k)) (sumsB_32 _)
   rw [sumsB_len,htl] at hfl
   rcases hS with ⟨hz,hz2,-⟩|⟨bb,len,cap,junk,hz,hxl,hj,hlc2,rfl⟩
   ·simp only [Value.slice.injEq] at hz;omega
   simp only [Value.slice.injEq] at hz
   obtain⟨rfl,rfl,rfl⟩:=hz
   have hv:(vs++junk)[k]?=some u:=by rw [List.getElem?_append_left (by omega)];exact hu1
   have huo:=hu2.one
   have hlf:=leaf_p hK2 k u bss[k] (by omega)
   rw [show (β.adds (leafsB (bss.take k))).add (leafT k bss[k])=β.adds (leafsB (bss.take (k+1))) by rw [hls];exact Bk.adds_one ..] at hlf
   have h32:(Sha.sum (leafT k bss[k])).length=32:=Sha.sum_len _
   generalize Sha.sum (leafT k bss[k])=y at *
   have hb1:=b1d h32
   have hc:=cl32 h32
   repeat' (first|(refine W.go ?_;try intro b_)|fail)
   refine W.call hlf ?_ (hpre:=fun w2 hs=>hu2.rd (Hc:=Hk2) hs)
   rintro _ Hk3 ⟨rfl,hK3⟩
   repeat' (first|(refine W.go ?_;try intro b_)|fail)
   refine W.ap (ys:=cbs y) (mm:=1) hS2 (fun w2 hs=>(Sl.own 119 32 b_ (xs:=cbs y) hc).srcAt hs inferInstance) (fun v3 H3 h3=>?_) (hys:=hc) (hbytes:=by rw [hc,cbs_len,hfl];omega)
   have h31:=h3.isOne
   rw [show cbs (sumsB (bss.take k)).flatten++cbs y=cbs (sumsB (bss.take k)++[y]).flatten by simp,← hss] at h3
   repeat' (first|(refine W.go ?_;try intro b_)|fail)
   refine HandF.mk (k+1,v3,Hk3,H3) ?_
   exact⟨hkn,h3,hK3⟩
  ·have hk2:k=bss.length:=by omega
   rw [hk2,List.take_length] at hS2 hK2
   subst hk2
   repeat' (first|(refine W.go ?_;try intro b_)|fail)
   refine CutF.mk (v2,Hk2,Hl2) ?_
   exact⟨hS2,hK2⟩
 rintro⟨v2,Hk2,Hl2⟩ ⟨hS2,hK2⟩
 dsimp only at hS2 hK2 ⊢
 have hS21:=hS2.isOne
 repeat' (first|(refine W.go ?_;try intro b_)|fail)
 refine W.call (new_p hK2 v2 (sumsB bss) (sumsB_32 _) (by rw [sumsB_len];omega) (by rw [sumsB_len];omega)) ?_ (hpre:=fun w2 hs=>Rd.own (Hc:=Hk2) hS2 hs inferInstance)
 rintro _ _ ⟨tp,Htr,Hk3,rfl,rfl,hT,hK3⟩
 repeat' (first|(refine W.go ?_;try intro b_)|fail)
 refine W.call hep ?_
 rintro _ _ ⟨rfl,rfl⟩
 repeat' (first|(refine W.go ?_;try intro b_)|fail)
 (refine SW.regionS [12] ?_ (by kernel_rfl);refine SS.T 0 rfl ?_;refine SS.T 1 rfl ?_;refine SS.T 2 rfl ?_;refine SS.T 3 rfl ?_;(first|refine SS.lw 4 [12] rfl ?_|refine SS.la 4 [12] rfl ?_|refine SS.aR 4 rfl ?_);refine SS.T 5 rfl ?_;refine SS.T 6 rfl ?_;refine SS.T 7 rfl ?_;(first|refine SS.ls 8 [11,12] rfl ?_|refine SS.sR 8 rfl ?_);refine SS.T 9 rfl ?_;refine SS.T 10 rfl ?_;refine SS.tw 11 rfl (p_slG (lo:=none) (hi:=none) rfl rfl rfl rfl (by omega) (by omega)) ?_;refine SS.effB 12 ?_ rfl (by kernel_rfl))
 rw [Nat.add_sub_cancel_left]
 refine W.callE (hEp _) rfl ?_ (hpre:=fun w2 hs=>by
  have:=(Rd.own (Hc:=Ht) hS hs inferInstance).cutN bc 1 (1+Gm.epochs p) (bc-1) (by omega) (by omega) (by omega) (by omega)
  rw [Nat.add_sub_cancel_left,Nat.mul_one,Nat.mul_one] at this
  exact this)
 rintro _ _ ⟨be,rfl,rfl⟩
 (refine SL.nilB ?_;refine SS.T 13 rfl ?_;refine SS.T 14 rfl ?_;refine SS.T 15 rfl ?_;refine SS.T 16 rfl ?_;refine SS.T 17 rfl ?_;refine SS.done ?_ (by kernel_rfl))
 repeat' (first|(refine W.go ?_;try intro b_)|fail)
 refine Fin.to ((fp,cl (foundC d tr s bk p t kind (.slice ba bss.length bc) lv cnt Lv ev tv) 145)::(be,cl (uv (epsL ((bss.drop 1).take (Gm.epochs p)).flatten (Gm.sealed p))) 28)::(Htr++(Hk3++(Hv++Ht)))) ?_
 exact F.f2 ⟨tp,be,Htr,Hk3,rfl,rfl,hT,hK3⟩
theorem bf_reg(c:Int){x:List UInt8}(h:x.length=32):bfill (fun i=>[(0,1),(1,32)][i]?) ([.int .u64 0]++List.replicate 32 (.int .u8 0)) [(0,.int .u64 c),(1,dgV x)]=some (rgc { c:=c,root:=x }):=
 bf_step (off:=0) (n:=1) ([.int .u64 c]++List.replicate 32 (.int .u8 0)) rfl rfl (by simp) rfl (bf_step (off:=1) (n:=32) (rgc { c:=c,root:=x }) rfl (by simp [vl,h]) (by simp) (by simp [vl,h,rgc,cbs,bv]) rfl)
def rootK(β:Bk)(bss:List (List UInt8)):Bk:=(plantK β bss).add (rootT (sumsB bss).length (topV (sumsB bss)))
theorem counts_p{fp d tr s bk tb p t:Nat}(h:Gm.Ok p t){kind cnt:Int}{bv lv Lv ev tv:Value}{bss:List (List UInt8)}{β:Bk}{σ:Dv}{r:Rg}{Hd Hk Hb:Hp}(hD:DevP d σ Hd)(hr:r.Ok)(hlt:r.c<18446744073709551615)(hK:BookP bk tb β Hk)(hB:Bls bv bss Hb)(o1:One lv)(o2:One Lv)(o3:One ev)(o4:One tv)(hn:bss.length=Gm.leaves p)(hb:∀ b∈bss,b.length=256) :
  Tri Tryz.prog 60 [ptv fp] ((fp,cl (foundC d tr s bk p t kind bv lv cnt Lv ev tv) 145)::(tr,cl (trc d r) 225)::(Hd++(Hk++Hb))) (fun _=>True)
  (fun v H=>v=.int .i64 (regS ⟨r.c+1,rootB bss⟩ (σ,r)).1∧∃ Hd' Hk' Hx,DevP d (regS ⟨r.c+1,rootB bss⟩ (σ,r)).2.1 Hd'∧BookP bk tb (rootK β bss) Hk' ∧
   H=(fp,cl (foundC d tr s bk p t kind bv lv cnt Lv ev tv) 145)::(tr,cl (trc d (regS ⟨r.c+1,rootB bss⟩ (σ,r)).2.2) 225)::(Hd'++(Hk'++(Hb++Hx)))):=by
 have hbo:One bv:=by obtain⟨vs,Hv,Ht,hS,hR,rfl⟩:=hB;exact hS.isOne
 refine Tri.mk Tryz.func60 rfl Tryz.ntmps60 rfl fun w hw=>?_
 have hpl:=planted_p (fp:=fp) (d:=d) (tr:=tr) (s:=s) (kind:=kind) (cnt:=cnt) h hK hB o1 o2 o3 o4 hn hb
 have hll:=Gm.leaves_le h
 have hrd:=read_p tr d r hr
 have hc0:=hr.c0
 have hsl:(sumsB bss).length≤1024:=by rw [sumsB_len];omega
 have hr2:({ c:=r.c+1,root:=rootB bss }:Rg).Ok:=⟨Sha.sum_len _,by show 0≤r.c+1;omega,by show r.c+1≤_;omega⟩
 have hst:=set_p tr d r { c:=r.c+1,root:=rootB bss } hr hr2 hD
 have hl:=rgc_len hr
 haveI i1:U64 r.c (UInt64.ofNat r.c.toNat):=⟨by rw [UInt64.toNat_ofNat'];omega⟩
 have e1:(((UInt64.ofNat r.c.toNat+1).toNat:Nat):Int)=r.c+1:=by
  rw [UInt64.toNat_add,UInt64.toNat_ofNat',show (1:UInt64).toNat=1 from rfl];omega
 have eb:regS ⟨r.c+1,rootB bss⟩ (σ,r)=(setE σ r { c:=r.c+1,root:=rootB bss },setD σ r { c:=r.c+1,root:=rootB bss },setR σ r { c:=r.c+1,root:=rootB bss }):=rfl
 rw [eb]
 have hrl:(rootB bss).length=32:=Sha.sum_len _
 have hroot:rootV (sumsB bss)=rootB bss:=rfl
 have hbd:bfill (fun i=>[(0,1),(1,32)][i]?) ([.int .u64 0]++List.replicate 32 (.int .u8 0)) [(0,.int .u64 (((UInt64.ofNat r.c.toNat+1).toNat:Nat):Int)),(1,dgV (rootB bss))]=some (rgc { c:=r.c+1,root:=rootB bss }):=by rw [e1];exact bf_reg _ hrl
 repeat' (first|(refine W.go ?_;try intro b_)|fail)
 refine W.call hpl ?_
 rintro _ _ ⟨tp,be,Ht,Hk2,rfl,rfl,hT,hK2⟩
 have hro:=Root_p hT hK2 hsl
 rw [hroot] at hro
 repeat' (first|(refine W.go ?_;try intro b_)|fail)
 (refine SW.regionS [16] ?_ (by kernel_rfl);refine SS.T 0 rfl ?_;refine SS.T 1 rfl ?_;refine SS.T 2 rfl ?_;refine SS.T 3 rfl ?_;(first|refine SS.ls 4 [16] rfl ?_|refine SS.sR 4 rfl ?_);refine SS.T 5 rfl ?_;refine SS.T 6 rfl ?_;refine SS.T 7 rfl ?_;refine SS.T 8 rfl ?_;(first|refine SS.ls 9 [10,14,16] rfl ?_|refine SS.sR 9 rfl ?_);refine SS.T 13 rfl ?_;refine SS.effK 10 ?_ rfl (by kernel_rfl))
 refine W.call hrd ?_
 rintro _ _ ⟨rfl,rfl⟩
 (refine SL.nilB ?_;refine SS.T 11 rfl ?_;refine SS.T 12 rfl ?_;refine SS.effK 14 ?_ rfl (by kernel_rfl))
 refine W.call hro ?_
 rintro _ _ ⟨Hk3,rfl,rfl,hK3⟩
 (refine SL.nilB ?_;refine SS.T 15 rfl ?_;refine SS.effB 16 ?_ rfl (by kernel_rfl))
 refine W.call hst ?_
 rintro _ _ ⟨rfl,H2,rfl,hD2⟩
 (refine SL.nilB ?_;refine SS.T 17 rfl ?_;refine SS.done ?_ (by kernel_rfl))
 repeat' (first|(refine W.go ?_;try intro b_)|fail)
 refine Fin.to ((fp,cl (foundC d tr s bk p t kind bv lv cnt Lv ev tv) 145)::(tr,cl (trc d (setR σ r { c:=r.c+1,root:=rootB bss })) 225)::(H2++(Hk3++(Hb++[])))) ?_
 exact F.f1 ⟨rfl,H2,Hk3,[],hD2,hK3,rfl⟩
def blankSr(s:Sr)(e:UInt64)(n:Nat):Sr:=(List.range n).foldl (fun s k=>s.hid (e,k) (List.replicate 256 0)) s
theorem blankSr_succ(s:Sr)(e:UInt64)(n:Nat):blankSr s e (n+1)=(blankSr s e n).hid (e,n) (List.replicate 256 0):=by unfold blankSr;rw [List.range_succ,List.foldl_append];rfl
theorem Bls.one{v:Value}{bss:List (List UInt8)}{H:Hp}(h:Bls v bss H):One v:=by obtain⟨vs,Hv,Ht,hS,hR,rfl⟩:=h;exact hS.isOne
theorem mmay_p{d tr s bk p t:Nat}(h:Gm.Ok p t){σ:Dv}{Hd:Hp}(hD:DevP d σ Hd)(hlen:σ.len=256*Gm.total p t) :
  Tri Tryz.prog 49 [baseV d tr s bk p t] Hd (fun _=>True) (fun v H=>v=.int .i64 0∧H=Hd):=by
 refine Tri.mk Tryz.func49 rfl Tryz.ntmps49 rfl fun w hw=>?_
 have hck:=gcheck_p h
 have hln:=len_p hD
 have htt:=gtotal_p h
 have htl:=Gm.total_le2 h
 have hby:=gbytes_p (k:=Gm.total p t) (by omega)
 rw [hlen] at hln
 generalize Gm.total p t=m at *
 repeat' (first|(refine W.go ?_;try intro b_)|fail)
 (refine SW.regionS [2,10,11] ?_ (by kernel_rfl);refine SS.T 0 rfl ?_;(first|refine SS.lw 1 [2,4,10,11] rfl ?_|refine SS.la 1 [2,4,10,11] rfl ?_|refine SS.aR 1 rfl ?_);refine SS.effB 2 ?_ rfl (by kernel_rfl))
 refine W.call hck ?_
 rintro _ _ ⟨rfl,rfl⟩
 (refine SL.nilB ?_;refine SS.T 3 rfl ?_;refine SS.T 4 rfl ?_;(first|refine SS.sk 5 rfl ?_|refine SS.T 5 rfl ?_);(first|refine SS.sk 6 rfl ?_|refine SS.ls 6 [7,10,11] rfl ?_|refine SS.sR 6 rfl ?_);(first|refine SS.sk 8 rfl ?_|refine SS.T 8 rfl ?_);(first|refine SS.sk 9 rfl ?_|refine SS.lw 9 [10,11] rfl ?_|refine SS.la 9 [10,11] rfl ?_|refine SS.aR 9 rfl ?_);(first|refine SS.sk 7 rfl ?_;(first|refine SS.sk 10 rfl ?_;(first|refine SS.sk 11 rfl ?_;(first|refine SS.sk 12 rfl ?_|refine SS.T 12 rfl ?_);refine SS.T 13 rfl ?_;refine SS.T 14 rfl ?_;refine SS.done ?_ (by kernel_rfl)|refine SS.effB 11 ?_ rfl (by kernel_rfl))|refine SS.effB 10 ?_ rfl (by kernel_rfl))|refine SS.effK 7 ?_ rfl (by kernel_rfl)))
 refine W.call hln ?_
 rintro _ Hd ⟨rfl,rfl⟩
 (refine SL.nilB ?_;(first|refine SS.sk 10 rfl ?_;(first|refine SS.sk 11 rfl ?_;(first|refine SS.sk 12 rfl ?_|refine SS.T 12 rfl ?_);refine SS.T 13 rfl ?_;refine SS.T 14 rfl ?_;refine SS.done ?_ (by kernel_rfl)|refine SS.effB 11 ?_ rfl (by kernel_rfl))|refine SS.effB 10 ?_ rfl (by kernel_rfl)))
 refine W.call htt ?_
 rintro _ _ ⟨rfl,rfl⟩
 (refine SL.nilB ?_;(first|refine SS.sk 11 rfl ?_;(first|refine SS.sk 12 rfl ?_|refine SS.T 12 rfl ?_);refine SS.T 13 rfl ?_;refine SS.T 14 rfl ?_;refine SS.done ?_ (by kernel_rfl)|refine SS.effB 11 ?_ rfl (by kernel_rfl)))
 refine W.call hby ?_
 rintro _ _ ⟨rfl,rfl⟩
 (refine SL.nilB ?_;(first|refine SS.sk 12 rfl ?_|refine SS.T 12 rfl ?_);refine SS.T 13 rfl ?_;refine SS.T 14 rfl ?_;refine SS.done ?_ (by kernel_rfl))
 repeat' (first|(refine W.go ?_;try intro b_)|fail)
 refine Fin.to Hd ?_
 exact F.f1 ⟨rfl,rfl⟩
theorem blank_p{fp d tr sp bk p t c b n:Nat}{ws:List (List UInt8)}(h:Gm.Ok p t){kind cnt:Int}{bv lv Lv ev tv:Value}{s:Sr}{Hs:Hp}(hS:SealP sp c b n ws s Hs)(hK:KeyOk n ws)(o0:One bv)(o1:One lv)(o2:One Lv)(o3:One ev)(o4:One tv)(e:UInt64) :
  Tri Tryz.prog 59 [ptv fp,u64v e] ((fp,cl (foundC d tr sp bk p t kind bv lv cnt Lv ev tv) 145)::Hs) (fun _=>True)
  (fun v H=>v=.int .i64 0∧∃ bv' Hs' Hb,SealP sp c b n ws (blankSr s e (Gm.sealed p)) Hs'∧Bls bv' (blanks p t (ctrX (Aes.enc ws n)) e) Hb∧H=(fp,cl (foundC d tr sp bk p t kind bv' lv cnt Lv ev tv) 145)::(Hs'++Hb)):=by
 refine Tri.mk Tryz.func59 rfl Tryz.ntmps59 rfl fun w hw=>?_
 have hsb:=sBytes_p h
 have hse:=gsealedN_p h
 have hep:=gepochsN_p h
 have hsl:=Gm.sealed_le h
 have hel:=Gm.epochs_le h
 have hbk:=fun k (hk:k<Gm.epochs p) v=>sBlock_p h k hk v (List.replicate (Gm.sealed p) e) List.length_replicate
 have hset:∀ v v':Value,(foundC d tr sp bk p t kind v lv cnt Lv ev tv).set 7 v'=foundC d tr sp bk p t kind v' lv cnt Lv ev tv:=fun v v'=>rfl
 have hbln:blanks p t (ctrX (Aes.enc ws n)) e=(superB p t::(List.range (Gm.epochs p)).map fun k=>epB k (List.replicate (Gm.sealed p) e))++(List.range (Gm.sealed p)).map fun k=>ctrX (Aes.enc ws n) e k (List.replicate 256 0):=rfl
 rw [hbln]
 clear hbln
 generalize Gm.sealed p=m at *
 generalize Gm.epochs p=q at *
 repeat' (first|(refine W.go ?_;try intro b_)|fail)
 refine W.call hsb ?_
 rintro _ _ ⟨b1,rfl,rfl⟩
 have hb29:bfill (fun i=>some (i*1,1)) (zs [.slice none 0 0] 1) [(0,.slice (some ⟨b1,0,none⟩) 256 256)]=some [.slice (some ⟨b1,0,none⟩) 256 256]:=rfl
 repeat' (first|(refine W.go ?_;try intro b_)|fail)
 rw [hset]
 refine W.call hse ?_
 rintro _ _ ⟨rfl,rfl⟩
 repeat' (first|(refine W.gb ?_;try intro b_)|fail)
 rename_i b2
 rw [show zs [Value.int .u64 0] m=uv (List.replicate 0 e)++List.replicate (m-0) (.int .u64 0) by rw [zs_one];rfl]
 generalize b_=b3 at *
 refine SW.cut [0,1,7] [b3] (fun _:Unit=>[]) (fun _=>[(b3,cl (uv (List.replicate m e)) 28)]) (fun _=>True) ?_ ?_
 ·repeat' (first|(refine W.go ?_;try intro b_)|fail)
  refine SW.loopG [0,1,7,40] [b3] (fun k:Nat=>[(41,.int .i64 (k:Int))]) (fun k=>[(b3,cl (uv (List.replicate k e)++List.replicate (m-k) (.int .u64 0)) 28)]) (fun k=>m-k) (fun k=>k≤m) 0 (Nat.zero_le _) ?_
  intro k hk
  by_cases hkm:k<m
  ·have hlt:k<(uv (List.replicate k e)++List.replicate (m-k) (Value.int .u64 0)).length:=by rw [List.length_append,uv_len,List.length_replicate,List.length_replicate];omega
   have hf:=fill_step (uv (List.replicate k e)) (m-(k+1)) (.int .u64 0) (u64v e)
   rw [show m-(k+1)+1=m-k by omega,uv_len,List.length_replicate,show uv (List.replicate k e)++[u64v e]=uv (List.replicate (k+1) e) by rw [List.replicate_succ'];simp] at hf
   repeat' (first|(refine W.go ?_;try intro b_)|fail)
   rw [hf]
   refine HandF.mk (k+1) ?_
   omega
  ·have:k=m:=by omega
   subst this
   rw [Nat.sub_self,List.replicate_zero,List.append_nil]
   repeat' (first|(refine W.go ?_;try intro b_)|fail)
   refine CutF.mk () ?_
   trivial
 rintro _ -
 repeat' (first|(refine W.go ?_;try intro b_)|fail)
 refine W.call hep ?_
 rintro _ _ ⟨rfl,rfl⟩
 repeat' (first|(refine W.gb ?_;try intro b_)|fail)
 refine SW.cutH [0,1,7] [(fp,cl (foundC d tr sp bk p t kind (.slice (some ⟨b2,0,none⟩) 1 1) lv cnt Lv ev tv) 145),(b2,cl [.slice (some ⟨b1,0,none⟩) 256 256] 50),(b1,cl (cbs (superB p t)) 5)] (fun _:Value×Hp=>[]) (fun x=>(fp,cl (foundC d tr sp bk p t kind x.1 lv cnt Lv ev tv) 145)::x.2) (fun x=>Bls x.1 (superB p t::(List.range q).map fun k=>epB k (List.replicate m e)) x.2) ?_ ?_
 ·have hE0:Sl 50 1 (.slice (some ⟨b2,0,none⟩) 1 1) [.slice (some ⟨b1,0,none⟩) 256 256] [(b2,cl [.slice (some ⟨b1,0,none⟩) 256 256] 50)]:=Sl.own _ 1 b2 (len:=1) rfl
  have hR0:RB [(b1,cl (cbs (superB p t)) 5)] [.slice (some ⟨b1,0,none⟩) 256 256] (superB p t::(List.range 0).map fun k=>epB k (List.replicate m e)):=(RB.nil _).snoc (RdH.of (Sl.own 5 1 b1 (len:=256) (xs:=cbs (superB p t)) (by rw [cbs_len,superB_len])))
  repeat' (first|(refine W.go ?_;try intro b_)|fail)
  refine SW.loopF [0,1,7,54] (fun x:Nat×Value×List Value×Hp×Hp=>[(55,.int .i64 (x.1:Int))]) (fun x=>(fp,cl (foundC d tr sp bk p t kind x.2.1 lv cnt Lv ev tv) 145)::(x.2.2.2.1++x.2.2.2.2)) (fun x=>q-x.1) (fun x=>x.1≤q∧Sl 50 1 x.2.1 x.2.2.1 x.2.2.2.1∧RB x.2.2.2.2 x.2.2.1 (superB p t::(List.range x.1).map fun k=>epB k (List.replicate m e))) (0,.slice (some ⟨b2,0,none⟩) 1 1,[.slice (some ⟨b1,0,none⟩) 256 256],[(b2,cl [.slice (some ⟨b1,0,none⟩) 256 256] 50)],[(b1,cl (cbs (superB p t)) 5)]) ⟨Nat.zero_le _,hE0,hR0⟩ ?_
  rintro⟨j,v2,vs,Hv,Ht⟩ ⟨hj,hS2,hR2⟩
  dsimp only at hj hS2 hR2 ⊢
  have hS21:=hS2.isOne
  have hvl:vs.length=1+j:=by rw [hR2.1];simp;omega
  have hl3:(foundC d tr sp bk p t kind v2 lv cnt Lv ev tv).length=13:=rfl
  by_cases hjq:j<q
  ·repeat' (first|(refine W.go ?_;try intro b_)|fail)
   refine W.call (hbk j hjq (.slice (some ⟨b3,0,none⟩) m m)) ?_ (hpre:=fun w2 hs=>Rd.own (Hc:=[]) (Sl.own 28 1 b3 (len:=m) (xs:=uv (List.replicate m e)) (by rw [uv_len,List.length_replicate,Nat.mul_one])) hs inferInstance)
   rintro _ _ ⟨b5,rfl,rfl⟩
   have hb78:bfill (fun i=>some (i*1,1)) (zs [.slice none 0 0] 1) [(0,.slice (some ⟨b5,0,none⟩) 256 256)]=some [.slice (some ⟨b5,0,none⟩) 256 256]:=rfl
   repeat' (first|(refine W.go ?_;try intro b_)|fail)
   refine W.ap hS2 (ys:=[.slice (some ⟨b5,0,none⟩) 256 256]) (mm:=1) (fun w2 hs=>(Sl.own 50 1 b_ (xs:=[.slice (some ⟨b5,0,none⟩) 256 256]) rfl).srcAt hs inferInstance) (fun v3 H3 h3=>?_) (hys:=rfl) (hbytes:=by rw [hvl];simp;omega)
   have h31:=h3.isOne
   repeat' (first|(refine W.go ?_;try intro b_)|fail)
   rw [hset]
   refine HandF.mk (j+1,v3,vs++[.slice (some ⟨b5,0,none⟩) 256 256],H3,(b5,cl (cbs (epB j (List.replicate m e))) 5)::Ht) ?_
   refine⟨hjq,h3,?_⟩
   show RB _ _ (superB p t::(List.range (j+1)).map fun k=>epB k (List.replicate m e))
   rw [List.range_succ,List.map_append,← List.cons_append]
   exact (hR2.mono fun x hx=>List.mem_cons_of_mem _ hx).snoc ((RdH.of (Sl.own 5 1 b5 (len:=256) (xs:=cbs (epB j (List.replicate m e))) (by rw [cbs_len,epB_len]))).mono fun x hx=>by simp at hx;subst hx;simp)
  ·have:j=q:=by omega
   subst this
   repeat' (first|(refine W.go ?_;try intro b_)|fail)
   refine CutF.mk (v2,Hv++Ht) ?_
   exact⟨vs,Hv,Ht,hS2,hR2,rfl⟩
 rintro⟨v2,Hb2⟩ hB2
 dsimp only at hB2 ⊢
 have hB21:=hB2.one
 repeat' (first|(refine W.gb ?_;try intro b_)|fail)
 have hAl:(superB p t::(List.range q).map fun k=>epB k (List.replicate m e)).length≤1000000:=by simp;omega
 generalize (superB p t::(List.range q).map fun k=>epB k (List.replicate m e))=A at *
 refine SW.cutH [] ((fp,cl (foundC d tr sp bk p t kind v2 lv cnt Lv ev tv) 145)::(Hs++Hb2)) (fun _:Value×Hp×Hp=>[]) (fun x=>(fp,cl (foundC d tr sp bk p t kind x.1 lv cnt Lv ev tv) 145)::(x.2.1++x.2.2)) (fun x=>SealP sp c b n ws (blankSr s e m) x.2.1∧Bls x.1 (A++(List.range m).map fun k=>ctrX (Aes.enc ws n) e k (List.replicate 256 0)) x.2.2) ?_ ?_
 ·obtain⟨vs,Hv,Ht,hS2,hR2,rfl⟩:=hB2
  repeat' (first|(refine W.go ?_;try intro b_)|fail)
  refine SW.loopF [0,1,84] (fun x:Nat×Value×List Value×Hp×Hp×Hp=>[(85,.int .i64 (x.1:Int))]) (fun x=>(fp,cl (foundC d tr sp bk p t kind x.2.1 lv cnt Lv ev tv) 145)::(x.2.2.2.2.2++(x.2.2.2.1++x.2.2.2.2.1))) (fun x=>m-x.1) (fun x=>x.1≤m∧Sl 50 1 x.2.1 x.2.2.1 x.2.2.2.1∧RB x.2.2.2.2.1 x.2.2.1 (A++(List.range x.1).map fun k=>ctrX (Aes.enc ws n) e k (List.replicate 256 0))∧SealP sp c b n ws (blankSr s e x.1) x.2.2.2.2.2) (0,v2,vs,Hv,Ht,Hs) ⟨Nat.zero_le _,hS2,by rw [List.range_zero,List.map_nil,List.append_nil];exact hR2,hS⟩ ?_
  rintro⟨j,v2,vs,Hv,Ht,Hs⟩ ⟨hj,hS2,hR2,hS⟩
  dsimp only at hj hS2 hR2 hS ⊢
  have hS21:=hS2.isOne
  have hvl:vs.length=A.length+j:=by rw [hR2.1,List.length_append,List.length_map,List.length_range]
  by_cases hjm:j<m
  ·have hbl:=Blank_p hS hK e j (by omega)
   rw [← blankSr_succ] at hbl
   have hxl:=ctrX_len (E:=Aes.enc ws n) (fun x=>Aes.enc_len ..) e j (List.replicate 256 0)
   rw [List.length_replicate] at hxl
   have hrs:A++(List.range (j+1)).map (fun k=>ctrX (Aes.enc ws n) e k (List.replicate 256 0))=(A++(List.range j).map fun k=>ctrX (Aes.enc ws n) e k (List.replicate 256 0))++[ctrX (Aes.enc ws n) e j (List.replicate 256 0)]:=by rw [List.range_succ,List.map_append,List.append_assoc];rfl
   generalize ctrX (Aes.enc ws n) e j (List.replicate 256 0)=y at *
   repeat' (first|(refine W.go ?_;try intro b_)|fail)
   refine W.call hbl ?_
   rintro _ _ ⟨b5,Hs2,rfl,rfl,hS3⟩
   have hb78:bfill (fun i=>some (i*1,1)) (zs [.slice none 0 0] 1) [(0,.slice (some ⟨b5,0,none⟩) 256 256)]=some [.slice (some ⟨b5,0,none⟩) 256 256]:=rfl
   repeat' (first|(refine W.go ?_;try intro b_)|fail)
   refine W.ap hS2 (ys:=[.slice (some ⟨b5,0,none⟩) 256 256]) (mm:=1) (fun w2 hs=>(Sl.own 50 1 b_ (xs:=[.slice (some ⟨b5,0,none⟩) 256 256]) rfl).srcAt hs inferInstance) (fun v3 H3 h3=>?_) (hys:=rfl) (hbytes:=by rw [hvl];simp;omega)
   have h31:=h3.isOne
   repeat' (first|(refine W.go ?_;try intro b_)|fail)
   rw [hset]
   refine HandF.mk (j+1,v3,vs++[.slice (some ⟨b5,0,none⟩) 256 256],H3,(b5,cl (cbs y) 5)::Ht,Hs2) ?_
   refine⟨hjm,h3,?_,hS3⟩
   show RB _ _ (A++(List.range (j+1)).map fun k=>ctrX (Aes.enc ws n) e k (List.replicate 256 0))
   rw [hrs]
   exact (hR2.mono fun x hx=>List.mem_cons_of_mem _ hx).snoc ((RdH.of (Sl.own 5 1 b5 (len:=256) (xs:=cbs y) (by rw [cbs_len,hxl]))).mono fun x hx=>by simp at hx;subst hx;simp)
  ·have:j=m:=by omega
   subst this
   repeat' (first|(refine W.go ?_;try intro b_)|fail)
   refine CutF.mk (v2,Hs,Hv++Ht) ?_
   exact⟨hS,vs,Hv,Ht,hS2,hR2,rfl⟩
 rintro⟨v3,Hs3,Hb3⟩ ⟨hS3,hB3⟩
 dsimp only at hS3 hB3 ⊢
 have hB31:=hB3.one
 repeat' (first|(refine W.go ?_;try intro b_)|fail)
 refine Fin.to ((fp,cl (foundC d tr sp bk p t kind v3 lv cnt Lv ev tv) 145)::(Hs3++Hb3)) ?_
 exact F.f1 ⟨rfl,v3,Hs3,Hb3,hS3,hB3,rfl⟩
end Go.Proofs.YtnigolgkkjidiaaGreat
namespace Go.Proofs.YtnigolgkkjidiaaGreat
open Go
attribute [local irreducible] SW SL SQ SH SA SS Pu Fin CutF HandF
def fmtE(r:Rg):UInt64:=UInt64.ofNat (r.c+2).toNat
abbrev fmtB(p t n:Nat)(ws:List (List UInt8))(r:Rg):List (List UInt8):=blanks p t (ctrX (Aes.enc ws n)) (fmtE r)
theorem blanks_len(p t:Nat)(X:UInt64→Nat→List UInt8→List UInt8)(e:UInt64):(blanks p t X e).length=Gm.leaves p:=by
 unfold blanks Gm.leaves
 rw [List.length_cons,List.length_append,List.length_map,List.length_map,List.length_range,List.length_range]
 omega
theorem blanks_256{p t:Nat}{E:List UInt8→List UInt8}(hE:∀ x,(E x).length=16)(e:UInt64):∀ b∈blanks p t (ctrX E) e,b.length=256:=fun b hb=>by
 unfold blanks at hb
 rcases List.mem_cons.1 hb with rfl|hb
 ·exact superB_len _ _
 ·rcases List.mem_append.1 hb with hb|hb
  ·obtain⟨k,-,rfl⟩:=List.mem_map.1 hb;exact epB_len _ _
  ·obtain⟨k,-,rfl⟩:=List.mem_map.1 hb;rw [ctrX_len hE,List.length_replicate]
def fmtSr(p:Nat)(σ:Dv)(r:Rg)(s:Sr):Sr:=if 18446744073709551613<r.c then s else if (bumpS (σ,r)).1=0 then blankSr s (fmtE r) (Gm.sealed p) else s
def fmtK(p t n:Nat)(ws:List (List UInt8))(σ:Dv)(r:Rg)(β:Bk):Bk:=
 if 18446744073709551613<r.c then β else if (bumpS.and (wholeS p t (fmtB p t n ws r)).t (σ,r)).1=0 then rootK β (fmtB p t n ws r) else β
section
variable (d tr sp bk tb p t c b n:Nat)(ws:List (List UInt8))(σ:Dv)(r:Rg)(s:Sr)(β:Bk)(fp b4 b5:Nat)
abbrev fmH(bv:Value)(r':Rg)(Hd Hs Hk Hb:Hp):Hp:=(fp,cl (foundC d tr sp bk p t 0 bv (.slice none 0 0) 0 (.slice none 0 0) (.slice none 0 0) (.pointer none)) 145)::(b5,cl [ptv fp] 136)::(b4,cl [.int .u64 r.c] 28)::(tr,cl (trc d r') 225)::(Hd++(Hs++(Hk++Hb)))
def fmJ(i:Nat)(H:Hp):Prop:=∃ (σ':Dv) (r':Rg) (s':Sr) (β':Bk) (bv:Value) (Hd Hs Hk Hb:Hp),DevP d σ' Hd∧SealP sp c b n ws s' Hs∧BookP bk tb β' Hk∧One bv∧H.Perm (fmH d tr sp bk p t r fp b4 b5 bv r' Hd Hs Hk Hb) ∧
 match i with
 | 0=>σ'=σ∧r'=r∧s'=s∧β'=β∧Hb=[]
 | 1=>bumpS (σ,r)=(0,(σ',r'))∧s'=s∧β'=β∧Hb=[]
 | 2=>bumpS (σ,r)=(0,(σ',r'))∧s'=blankSr s (fmtE r) (Gm.sealed p)∧β'=β∧Bls bv (fmtB p t n ws r) Hb
 | 3=>(∃ σ1,bumpS (σ,r)=(0,(σ1,r'))∧wholeD (fmtB p t n ws r) σ1=(0,σ'))∧s'=blankSr s (fmtE r) (Gm.sealed p)∧β'=β∧Bls bv (fmtB p t n ws r) Hb
 | 4=>(∃ σ1,bumpS (σ,r)=(0,(σ1,r'))∧wholeS p t (fmtB p t n ws r) σ1=(0,σ'))∧s'=blankSr s (fmtE r) (Gm.sealed p)∧β'=β∧Bls bv (fmtB p t n ws r) Hb
 | _=>fmtS p t (ctrX (Aes.enc ws n)) (σ,r)=(0,(σ',r'))∧s'=fmtSr p σ r s∧β'=fmtK p t n ws σ r β
def fmE(e:Int)(H:Hp):Prop:=∃ (σ':Dv) (r':Rg) (bv:Value) (Hd Hs Hk Hb:Hp),DevP d σ' Hd∧SealP sp c b n ws (fmtSr p σ r s) Hs∧BookP bk tb (fmtK p t n ws σ r β) Hk∧H.Perm (fmH d tr sp bk p t r fp b4 b5 bv r' Hd Hs Hk Hb)∧fmtS p t (ctrX (Aes.enc ws n)) (σ,r)=(e,(σ',r'))
end
theorem perm_of{H H':Hp} [hp:Part H H' []]:H.Perm H':=by have:=hp.perm;rwa [List.append_nil] at this
theorem TS.and_ne{a b:TS}{x:Dv×Rg}(h:(a x).1≠0):(a.and b) x=a x:=by unfold TS.and;rw [if_neg h]
theorem TS.and_eq{a b:TS}{x y:Dv×Rg}(h:a x=(0,y)):(a.and b) x=b y:=by unfold TS.and;rw [h];rfl
theorem DS.and_ne{a b:DS}{x:Dv}(h:(a x).1≠0):(a.and b) x=a x:=by unfold DS.and;rw [if_neg h]
theorem DS.and_eq{a b:DS}{x y:Dv}(h:a x=(0,y)):(a.and b) x=b y:=by unfold DS.and;rw [h];rfl
theorem pair0{α:Type}{x:Int×α}(h:x.1=0):x=(0,x.2):=by rw [← h]
theorem bump_wl(x:Dv×Rg):(bumpS x).2.1.ws.length=x.1.ws.length:=by
 show (setD _ _ _).ws.length=_
 unfold setD
 split
 ·rfl
 ·split
  ·rfl
  ·exact doo_wl _
theorem bump_c{x y:Dv×Rg}(h:bumpS x=(0,y)):y.2.c=x.2.c+1∧y.2.root=x.2.root:=by
 have h1:setE x.1 x.2 { x.2 with c:=x.2.c+1 }=0:=congrArg Prod.fst h
 have h2:setR x.1 x.2 { x.2 with c:=x.2.c+1 }=y.2:=congrArg (fun z=>z.2.2) h
 rw [← h2]
 unfold setE at h1
 unfold setR
 split at h1
 ·omega
 ·rename_i h3
  rw [if_neg h3]
  split at h1
  ·omega
  ·rename_i h4
   rw [if_neg h4,if_pos h1]
   exact⟨rfl,rfl⟩
section
variable {d tr sp bk tb p t c b n:Nat}{ws:List (List UInt8)}{σ:Dv}{r:Rg}{s:Sr}{β:Bk}{fp b4 b5:Nat}
theorem fm0(hr:r.Ok)(hc:r.c≤18446744073709551613):StepF Tryz.prog (.func (.func 54) [ptv fp].toArray [].toArray) (fmJ d tr sp bk tb p t c b n ws σ r s β fp b4 b5 0) (fmJ d tr sp bk tb p t c b n ws σ r s β fp b4 b5 1) (fmE d tr sp bk tb p t c b n ws σ r s β fp b4 b5):=by
 refine⟨_,[ptv fp],[],rfl,inferInstance,fun Hc hJ=>?_⟩
 obtain⟨σ',r',s',β',bv,Hd,Hs,Hk,Hb,hD,hS,hK,o0,hp,rfl,rfl,rfl,rfl,rfl⟩:=hJ
 refine ((Tri.perm hp ((bump_p (fp:=fp) (tr:=tr) (s:=sp) (bk:=bk) (p:=p) (t:=t) (kind:=0) (cnt:=0) (bv:=bv) (lv:=.slice none 0 0) (Lv:=.slice none 0 0) (ev:=.slice none 0 0) (tv:=.pointer none) hD hr (by omega) o0 ⟨rfl⟩ ⟨rfl⟩ ⟨rfl⟩ ⟨rfl⟩).frame (r:=(b5,cl [ptv fp] 136)::(b4,cl [.int .u64 r'.c] 28)::(Hs++(Hk++[]))) perm_of (fun _ _ _=>trivial)))).mono ?_
 rintro v H ⟨H1,rfl,rfl,Hd',hD',rfl⟩
 by_cases h0:(bumpS (σ',r')).1=0
 ·refine .inl ⟨by rw [h0],(bumpS (σ',r')).2.1,(bumpS (σ',r')).2.2,s',β',bv,Hd',Hs,Hk,[],hD',hS,hK,o0,perm_of,pair0 h0,rfl,rfl,rfl⟩
 ·refine .inr ⟨_,h0,rfl,(bumpS (σ',r')).2.1,(bumpS (σ',r')).2.2,bv,Hd',Hs,Hk,[],hD',?_,?_,perm_of,?_⟩
  ·unfold fmtSr;rw [if_neg (by omega),if_neg h0];exact hS
  ·unfold fmtK;rw [if_neg (by omega),TS.and_ne h0,if_neg h0];exact hK
  ·unfold fmtS
   rw [if_neg (by show ¬ _<r'.c;omega)]
   exact TS.and_ne h0
theorem fmtE_eq{c0:Int}(h0:0≤c0)(h1:c0≤18446744073709551613):UInt64.ofNat c0.toNat+2=UInt64.ofNat (c0+2).toNat:=by
 apply UInt64.toNat_inj.1
 rw [UInt64.toNat_add,UInt64.toNat_ofNat',UInt64.toNat_ofNat',show (2:UInt64).toNat=2 from rfl]
 omega
theorem fmt1_p(h:Gm.Ok p t)(h0:0≤r.c)(h1:r.c≤18446744073709551613){bv:Value}{s:Sr}{Hs:Hp}(hS:SealP sp c b n ws s Hs)(hK:KeyOk n ws)(o0:One bv) :
  Tri Tryz.prog 58 [ptv b5,ptv b4] ((fp,cl (foundC d tr sp bk p t 0 bv (.slice none 0 0) 0 (.slice none 0 0) (.slice none 0 0) (.pointer none)) 145)::(b5,cl [ptv fp] 136)::(b4,cl [.int .u64 r.c] 28)::Hs) (fun _=>True)
  (fun v H=>v=.int .i64 0∧∃ bv' Hs' Hb,SealP sp c b n ws (blankSr s (fmtE r) (Gm.sealed p)) Hs'∧Bls bv' (fmtB p t n ws r) Hb∧H=(fp,cl (foundC d tr sp bk p t 0 bv' (.slice none 0 0) 0 (.slice none 0 0) (.slice none 0 0) (.pointer none)) 145)::(b5,cl [ptv fp] 136)::(b4,cl [.int .u64 r.c] 28)::(Hs'++Hb)):=by
 refine Tri.mk Tryz.func58 rfl Tryz.ntmps58 rfl fun w hw=>?_
 have hbl:=blank_p (fp:=fp) (d:=d) (tr:=tr) (bk:=bk) (kind:=0) (cnt:=0) (bv:=bv) (lv:=.slice none 0 0) (Lv:=.slice none 0 0) (ev:=.slice none 0 0) (tv:=.pointer none) h hS hK o0 ⟨rfl⟩ ⟨rfl⟩ ⟨rfl⟩ ⟨rfl⟩ (fmtE r)
 haveI i1:U64 r.c (UInt64.ofNat r.c.toNat):=⟨by rw [UInt64.toNat_ofNat'];omega⟩
 haveI i2:U64 2 2:=⟨rfl⟩
 unfold fmtE at hbl ⊢
 unfold fmtB fmtE
 rw [← fmtE_eq h0 h1] at hbl ⊢
 repeat' (first|(refine W.go ?_;try intro b_)|fail)
 refine W.call hbl ?_
 rintro _ _ ⟨rfl,bv',Hs',Hb,hS',hB',rfl⟩
 repeat' (first|(refine W.go ?_;try intro b_)|fail)
 refine Fin.to ((fp,cl (foundC d tr sp bk p t 0 bv' (.slice none 0 0) 0 (.slice none 0 0) (.slice none 0 0) (.pointer none)) 145)::(b5,cl [ptv fp] 136)::(b4,cl [.int .u64 r.c] 28)::(Hs'++Hb)) ?_
 exact F.f1 ⟨rfl,bv',Hs',Hb,hS',hB',rfl⟩
theorem fm1(h:Gm.Ok p t)(hr:r.Ok)(hc:r.c≤18446744073709551613)(hK:KeyOk n ws):StepF Tryz.prog (.func (.func 58) [].toArray [ptv b5,ptv b4].toArray) (fmJ d tr sp bk tb p t c b n ws σ r s β fp b4 b5 1) (fmJ d tr sp bk tb p t c b n ws σ r s β fp b4 b5 2) (fmE d tr sp bk tb p t c b n ws σ r s β fp b4 b5):=by
 refine⟨_,[],[ptv b5,ptv b4],rfl,inferInstance,fun Hc hJ=>?_⟩
 obtain⟨σ',r',s',β',bv,Hd,Hs,Hk,Hb,hD,hS,hB,o0,hp,hbm,rfl,rfl,rfl⟩:=hJ
 refine ((Tri.perm hp ((fmt1_p (fp:=fp) (d:=d) (tr:=tr) (bk:=bk) (b4:=b4) (b5:=b5) (bv:=bv) h hr.c0 hc hS hK o0).frame (r:=(tr,cl (trc d r') 225)::(Hd++(Hk++[]))) perm_of (fun _ _ _=>trivial)))).mono ?_
 rintro v H ⟨H1,rfl,rfl,bv',Hs',Hb,hS',hB',rfl⟩
 exact .inl ⟨rfl,σ',r',blankSr s' (fmtE r) (Gm.sealed p),β',bv',Hd,Hs',Hk,Hb,hD,hS',hB,hB'.one,perm_of,hbm,rfl,rfl,hB'⟩
theorem fm2(h:Gm.Ok p t)(hc:r.c≤18446744073709551613)(h8:σ.ws.length%8=0):StepF Tryz.prog (.func (.func 52) [ptv fp].toArray [].toArray) (fmJ d tr sp bk tb p t c b n ws σ r s β fp b4 b5 2) (fmJ d tr sp bk tb p t c b n ws σ r s β fp b4 b5 3) (fmE d tr sp bk tb p t c b n ws σ r s β fp b4 b5):=by
 refine⟨_,[ptv fp],[],rfl,inferInstance,fun Hc hJ=>?_⟩
 obtain⟨σ',r',s',β',bv,Hd,Hs,Hk,Hb,hD,hS,hB,o0,hp,hbm,rfl,rfl,hBl⟩:=hJ
 have hw:=bump_wl (σ,r)
 rw [hbm] at hw
 have hll:=Gm.leaves_le h
 refine ((Tri.perm hp ((whole_p (fp:=fp) (d:=d) (tr:=tr) (s:=sp) (bk:=bk) (p:=p) (t:=t) (kind:=0) (cnt:=0) (bv:=bv) (lv:=.slice none 0 0) (Lv:=.slice none 0 0) (ev:=.slice none 0 0) (tv:=.pointer none) hD (by rw [hw];exact h8) hBl ⟨rfl⟩ ⟨rfl⟩ ⟨rfl⟩ ⟨rfl⟩ (by rw [blanks_len];omega) (blanks_256 (fun x=>Aes.enc_len ..) _)).frame (r:=(b5,cl [ptv fp] 136)::(b4,cl [.int .u64 r.c] 28)::(tr,cl (trc d r') 225)::(Hs++Hk)) perm_of (fun _ _ _=>trivial)))).mono ?_
 rintro v H ⟨H1,rfl,rfl,Hd',hD',rfl⟩
 by_cases h0:(wholeD (fmtB p t n ws r) σ').1=0
 ·exact .inl ⟨by rw [h0],(wholeD (fmtB p t n ws r) σ').2,r',_,β',bv,Hd',Hs,Hk,Hb,hD',hS,hB,o0,perm_of,⟨σ',hbm,pair0 h0⟩,rfl,rfl,hBl⟩
 ·have e1:(wholeS p t (fmtB p t n ws r)).t (σ',r')=((wholeD (fmtB p t n ws r) σ').1,(wholeD (fmtB p t n ws r) σ').2,r'):=by
   show (((wholeD (fmtB p t n ws r)).and _ σ').1,((wholeD (fmtB p t n ws r)).and _ σ').2,r')=_
   rw [DS.and_ne h0]
  refine .inr ⟨_,h0,rfl,(wholeD (fmtB p t n ws r) σ').2,r',bv,Hd',Hs,Hk,Hb,hD',?_,?_,perm_of,?_⟩
  ·unfold fmtSr;rw [if_neg (by omega),if_pos (by rw [hbm])];exact hS
  ·unfold fmtK;rw [if_neg (by omega),TS.and_eq hbm,e1,if_neg h0];exact hB
  ·unfold fmtS
   rw [if_neg (by show ¬ _<r.c;omega),TS.and_eq hbm,TS.and_ne (by rw [show (wholeS p t (blanks p t (ctrX (Aes.enc ws n)) (UInt64.ofNat ((σ,r).2.c+2).toNat))).t (σ',r')=_ from e1];exact h0)]
   exact e1
theorem fm3(h:Gm.Ok p t)(hc:r.c≤18446744073709551613)(h8:σ.ws.length%8=0):StepF Tryz.prog (.func (.func 53) [ptv fp].toArray [].toArray) (fmJ d tr sp bk tb p t c b n ws σ r s β fp b4 b5 3) (fmJ d tr sp bk tb p t c b n ws σ r s β fp b4 b5 4) (fmE d tr sp bk tb p t c b n ws σ r s β fp b4 b5):=by
 refine⟨_,[ptv fp],[],rfl,inferInstance,fun Hc hJ=>?_⟩
 obtain⟨σ',r',s',β',bv,Hd,Hs,Hk,Hb,hD,hS,hB,o0,hp,⟨σ1,hbm,hwd⟩,rfl,rfl,hBl⟩:=hJ
 have hw:=bump_wl (σ,r)
 rw [hbm] at hw
 have hw2:=((putL_wl (rowL 0 (fmtB p t n ws r))).and feS_wl) σ1
 rw [show ((putL (rowL 0 (fmtB p t n ws r))).and feS) σ1=(0,σ') from hwd] at hw2
 dsimp only at hw hw2
 refine ((Tri.perm hp ((mscrub_p (fp:=fp) (d:=d) (tr:=tr) (s:=sp) (bk:=bk) (kind:=0) (cnt:=0) (bv:=bv) (lv:=.slice none 0 0) (Lv:=.slice none 0 0) (ev:=.slice none 0 0) (tv:=.pointer none) h hD (by rw [hw2,hw];exact h8) o0 ⟨rfl⟩ ⟨rfl⟩ ⟨rfl⟩ ⟨rfl⟩).frame (r:=(b5,cl [ptv fp] 136)::(b4,cl [.int .u64 r.c] 28)::(tr,cl (trc d r') 225)::(Hs++(Hk++Hb))) perm_of (fun _ _ _=>trivial)))).mono ?_
 rintro v H ⟨H1,rfl,rfl,Hd',hD',rfl⟩
 have e0:wholeS p t (fmtB p t n ws r) σ1=scrubS (Gm.leaves p) (1+t) σ':=DS.and_eq hwd
 by_cases h0:(scrubS (Gm.leaves p) (1+t) σ').1=0
 ·exact .inl ⟨by rw [h0],(scrubS (Gm.leaves p) (1+t) σ').2,r',_,β',bv,Hd',Hs,Hk,Hb,hD',hS,hB,o0,perm_of,⟨σ1,hbm,by rw [e0];exact pair0 h0⟩,rfl,rfl,hBl⟩
 ·have e1:(wholeS p t (fmtB p t n ws r)).t (σ1,r')=((scrubS (Gm.leaves p) (1+t) σ').1,(scrubS (Gm.leaves p) (1+t) σ').2,r'):=by
   show ((wholeS p t (fmtB p t n ws r) σ1).1,(wholeS p t (fmtB p t n ws r) σ1).2,r')=_
   rw [e0]
  refine .inr ⟨_,h0,rfl,(scrubS (Gm.leaves p) (1+t) σ').2,r',bv,Hd',Hs,Hk,Hb,hD',?_,?_,perm_of,?_⟩
  ·unfold fmtSr;rw [if_neg (by omega),if_pos (by rw [hbm])];exact hS
  ·unfold fmtK;rw [if_neg (by omega),TS.and_eq hbm,e1,if_neg h0];exact hB
  ·unfold fmtS
   rw [if_neg (by show ¬ _<r.c;omega),TS.and_eq hbm,TS.and_ne (by rw [show (wholeS p t (blanks p t (ctrX (Aes.enc ws n)) (UInt64.ofNat ((σ,r).2.c+2).toNat))).t (σ1,r')=_ from e1];exact h0)]
   exact e1
theorem fm4(h:Gm.Ok p t)(hr:r.Ok)(hc:r.c≤18446744073709551613):StepF Tryz.prog (.func (.func 60) [ptv fp].toArray [].toArray) (fmJ d tr sp bk tb p t c b n ws σ r s β fp b4 b5 4) (fmJ d tr sp bk tb p t c b n ws σ r s β fp b4 b5 5) (fmE d tr sp bk tb p t c b n ws σ r s β fp b4 b5):=by
 refine⟨_,[ptv fp],[],rfl,inferInstance,fun Hc hJ=>?_⟩
 obtain⟨σ',r',s',β',bv,Hd,Hs,Hk,Hb,hD,hS,hB,o0,hp,⟨σ1,hbm,hwd⟩,rfl,rfl,hBl⟩:=hJ
 obtain⟨hbc,hbr⟩:=bump_c hbm
 dsimp only at hbc hbr
 have hr0:=hr.c0
 refine ((Tri.perm hp ((counts_p (fp:=fp) (d:=d) (tr:=tr) (s:=sp) (kind:=0) (cnt:=0) (bv:=bv) (lv:=.slice none 0 0) (Lv:=.slice none 0 0) (ev:=.slice none 0 0) (tv:=.pointer none) (r:=r') h hD ⟨by rw [hbr];exact hr.len,by omega,by omega⟩ (by omega) hB hBl ⟨rfl⟩ ⟨rfl⟩ ⟨rfl⟩ ⟨rfl⟩ (blanks_len ..) (blanks_256 (fun x=>Aes.enc_len ..) _)).frame (r:=(b5,cl [ptv fp] 136)::(b4,cl [.int .u64 r.c] 28)::Hs) perm_of (fun _ _ _=>trivial)))).mono ?_
 rintro v H ⟨H1,rfl,rfl,Hd',Hk',Hx,hD',hB',rfl⟩
 have ew:(wholeS p t (fmtB p t n ws r)).t (σ1,r')=(0,σ',r'):=by
  show ((wholeS p t (fmtB p t n ws r) σ1).1,(wholeS p t (fmtB p t n ws r) σ1).2,r')=_
  rw [hwd]
 have ef:fmtS p t (ctrX (Aes.enc ws n)) (σ,r)=regS ⟨r'.c+1,rootB (fmtB p t n ws r)⟩ (σ',r'):=by
  unfold fmtS
  rw [if_neg (by show ¬ _<r.c;omega),TS.and_eq hbm]
  exact TS.and_eq ew
 have ek:fmtK p t n ws σ r β'=rootK β' (fmtB p t n ws r):=by
  unfold fmtK;rw [if_neg (by omega),TS.and_eq hbm,ew,if_pos rfl]
 have es:fmtSr p σ r s=blankSr s (fmtE r) (Gm.sealed p):=by
  unfold fmtSr;rw [if_neg (by omega),if_pos (by rw [hbm])]
 rw [← ef] at hD' ⊢
 rw [← ek] at hB'
 rw [← es] at hS
 generalize hF:fmtS p t (ctrX (Aes.enc ws n)) (σ,r)=F at *
 obtain⟨e,σ2,r2⟩:=F
 by_cases h0:e=0
 ·subst h0
  exact .inl ⟨rfl,σ2,r2,_,_,bv,Hd',Hs,Hk',Hb++Hx,hD',hS,hB',o0,perm_of,hF,es.symm▸rfl,rfl⟩
 ·exact .inr ⟨e,h0,rfl,σ2,r2,bv,Hd',Hs,Hk',Hb++Hx,hD',hS,hB',perm_of,hF⟩
end
end Go.Proofs.YtnigolgkkjidiaaGreat
namespace Go.Proofs.YtnigolgkkjidiaaGreat
open Go
attribute [local irreducible] SW SL SQ SH SA SS Pu Fin CutF HandF
def fmFs(fp b5 b4:Nat):List Value:=[.func (.func 54) #[ptv fp] #[],.func (.func 58) #[] #[ptv b5,ptv b4],.func (.func 52) #[ptv fp] #[],.func (.func 53) #[ptv fp] #[],.func (.func 60) #[ptv fp] #[]]
theorem fmFs_b(fp b5 b4:Nat):bfill (fun i=>some (i*1,1)) (zs [.nilFunc] 5) [(0,.func (.func 54) #[ptv fp] #[]),(1,.func (.func 58) #[] #[ptv b5,ptv b4]),(2,.func (.func 52) #[ptv fp] #[]),(3,.func (.func 53) #[ptv fp] #[]),(4,.func (.func 60) #[ptv fp] #[])]=some (fmFs fp b5 b4):=rfl
theorem Format_p{d tr sp bk tb p t c b n:Nat}{ws:List (List UInt8)}{σ:Dv}{r:Rg}{s:Sr}{β:Bk}{Hd Hs Hk:Hp}(h:Gm.Ok p t)(hD:DevP d σ Hd)(hlen:σ.len=256*Gm.total p t)(hr:r.Ok)(hS:SealP sp c b n ws s Hs)(hK:KeyOk n ws)(hB:BookP bk tb β Hk) :
  Tri Tryz.prog 16 [baseV d tr sp bk p t] ((tr,cl (trc d r) 225)::(Hd++(Hs++Hk))) (fun _=>True)
  (fun v H=>v=.int .i64 (fmtS p t (ctrX (Aes.enc ws n)) (σ,r)).1∧∃ Hd' Hs' Hk' Hx,DevP d (fmtS p t (ctrX (Aes.enc ws n)) (σ,r)).2.1 Hd'∧SealP sp c b n ws (fmtSr p σ r s) Hs'∧BookP bk tb (fmtK p t n ws σ r β) Hk' ∧
   H=(tr,cl (trc d (fmtS p t (ctrX (Aes.enc ws n)) (σ,r)).2.2) 225)::(Hd'++(Hs'++(Hk'++Hx)))):=by
 refine Tri.mk Tryz.func16 rfl Tryz.ntmps16 rfl fun w hw=>?_
 have hmy:=mmay_p (tr:=tr) (s:=sp) (bk:=bk) h hD hlen
 have hrd:=read_p tr d r hr
 have h8:σ.ws.length%8=0:=by unfold Dv.len at hlen;omega
 have h0:=hr.c0
 have h1:=hr.c1
 repeat' (first|(refine W.go ?_;try intro b_)|fail)
 refine W.call hmy ?_
 rintro _ Hd ⟨rfl,rfl⟩
 repeat' (first|(refine W.go ?_;try intro b_)|fail)
 refine W.call hrd ?_
 rintro _ _ ⟨rfl,rfl⟩
 by_cases hc:r.c≤18446744073709551613
 ·have hbf:bfill (fun i=>[(0,6),(6,1),(7,1),(8,1),(9,2),(11,1),(12,1)][i]?) (List.replicate 4 (.pointer none)++[.int .i64 0,.int .i64 0,.int .i64 0]++[.slice none 0 0,.slice none 0 0]++[.int .u64 0]++[.slice none 0 0,.slice none 0 0]++[.pointer none]) [(0,baseV d tr sp bk p t)]=some (foundC d tr sp bk p t 0 (.slice none 0 0) (.slice none 0 0) 0 (.slice none 0 0) (.slice none 0 0) (.pointer none)):=rfl
  repeat' (first|(refine W.bsl (fun b_=>?_) (hr:=fmFs_b _ _ _))|(refine W.go ?_;try intro b_)|fail)
  rename_i b1 b4 fp b5
  rw [show ([.pointer none]:List Value).set 0 (ptv fp)=[ptv fp] from rfl,show ([.int .u64 0]:List Value).set 0 (.int .u64 r.c)=[.int .u64 r.c] from rfl]
  have hfs:∀ i v,(fmFs fp b5 b4)[i]?=some v→StepF Tryz.prog v (fmJ d tr sp bk tb p t c b n ws σ r s β fp b4 b5 i) (fmJ d tr sp bk tb p t c b n ws σ r s β fp b4 b5 (i+1)) (fmE d tr sp bk tb p t c b n ws σ r s β fp b4 b5):=fun i v hv=>by
   have hi:=(List.getElem?_eq_some_iff.1 hv).1
   have hi5:i<5:=hi
   rcases (by omega:i=0∨i=1∨i=2∨i=3∨i=4) with rfl|rfl|rfl|rfl|rfl
   ·cases hv;exact fm0 hr hc
   ·cases hv;exact fm1 h hr hc hK
   ·cases hv;exact fm2 h hc h8
   ·cases hv;exact fm3 h hc h8
   ·cases hv;exact fm4 h hr hc
  have hJ0:fmJ d tr sp bk tb p t c b n ws σ r s β fp b4 b5 0 (fmH d tr sp bk p t r fp b4 b5 (.slice none 0 0) r Hd Hs Hk []):=⟨σ,r,s,β,.slice none 0 0,Hd,Hs,Hk,[],hD,hS,hB,⟨rfl⟩,List.Perm.refl _,rfl,rfl,rfl,rfl,rfl⟩
  refine W.call (allM_p b_ (fmFs fp b5 b4) (by show 5≤1000;decide) hfs hJ0) ?_
  rintro v H ⟨H',rfl,hh⟩
  rcases hh with ⟨rfl,hJ⟩|⟨e,he,rfl,hE⟩
  ·obtain⟨σ',r',s',β',bv,Hd',Hs',Hk',Hb',hD',hS',hB',o0,hp,hF,rfl,rfl⟩:=hJ
   rw [hF]
   repeat' (first|(refine W.go ?_;try intro b_)|fail)
   refine Fin.to H' ?_
   refine Fin.perm hp ?_
   refine Fin.to ((tr,cl (trc d r') 225)::(Hd'++(Hs'++(Hk'++Hb')))) ?_
   exact F.f1 ⟨rfl,Hd',Hs',Hk',Hb',hD',hS',hB',rfl⟩
  ·obtain⟨σ',r',bv,Hd',Hs',Hk',Hb',hD',hS',hB',hp,hF⟩:=hE
   rw [hF]
   repeat' (first|(refine W.go ?_;try intro b_)|fail)
   refine Fin.to H' ?_
   refine Fin.perm hp ?_
   refine Fin.to ((tr,cl (trc d r') 225)::(Hd'++(Hs'++(Hk'++Hb')))) ?_
   exact F.f1 ⟨rfl,Hd',Hs',Hk',Hb',hD',hS',hB',rfl⟩
 ·have ef:fmtS p t (ctrX (Aes.enc ws n)) (σ,r)=(21,(σ,r)):=by unfold fmtS;rw [if_pos (by show _<r.c;omega)]
  have es:fmtSr p σ r s=s:=by unfold fmtSr;rw [if_pos (by omega)]
  have ek:fmtK p t n ws σ r β=β:=by unfold fmtK;rw [if_pos (by omega)]
  rw [ef,es,ek]
  repeat' (first|(refine W.go ?_;try intro b_)|fail)
  refine Fin.to ((tr,cl (trc d r) 225)::(Hd++(Hs++(Hk++[])))) ?_
  exact F.f1 ⟨rfl,Hd,Hs,Hk,[],hD,hS,hB,rfl⟩
end Go.Proofs.YtnigolgkkjidiaaGreat
namespace Go.Proofs.YtnigolgkkjidiaaGreat
open Go
structure So where
 es:List UInt64
 lv:List (List UInt8)
 w:Bool
 st:Int
abbrev Ks(p:Nat)(k:Nat):Nat:=1+Gm.epochs p+k
def rdS(p:Nat)(X:UInt64→Nat→List UInt8→List UInt8)(k:Int)(σ:Dv)(s:So):Int×List UInt8×So:=
 if s.st≠0 then (s.st,[],s) else if ¬ (0≤k∧k<(Gm.sealed p:Nat)) then (3,[],s) else
 if σ.down=true then (8,[],{ s with st:=8 }) else
 if Sha.sum (leafT (Ks p k.toNat) (σ.blk (Ks p k.toNat)))≠leafV s.lv (Ks p k.toNat) then (20,[],{ s with st:=20 }) else
 (0,X (s.es.getD k.toNat 0) k.toNat (σ.blk (Ks p k.toNat)),s)
theorem redoE_len(c:UInt64)(l:List Ent):∀ es:List UInt64,(redoE c es l).length=es.length:=by
 unfold redoE
 induction l with
 | nil=>intro es;rfl
 | cons x l ih=>intro es;rw [List.foldl_cons,ih,List.length_set]
end Go.Proofs.YtnigolgkkjidiaaGreat
