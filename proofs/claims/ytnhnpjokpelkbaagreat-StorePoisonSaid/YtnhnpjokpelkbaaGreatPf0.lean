/- What is joined, what is the same, copies. The book. The document's Text and Sum of layer 4. -/
import Derived.Test.YtnhnpjokpelkbaaGreatPs45
set_option linter.unusedVariables false
set_option linter.unusedSimpArgs false
set_option linter.unusedSectionVars false
set_option maxHeartbeats 8000000
namespace Go.Proofs.YtnhnpjokpelkbaaGreat
open Go Go.Proofs.Tryz
section
attribute [local irreducible] SW SL SQ SH SA SS Pu Fin bZ aQ
theorem F.f3{P:Program}{C:Ctx}{ρ:Fr}{H:Hp}{fn:Func}{R:Value→Hp→Prop}{e:Exit}{t u x:Nat}{v v2 v3:Value}(hR:R (.tuple #[v,v2,v3]) H)(he:e=.ret∨e=.normal:=by first|exact .inl rfl|exact .inr rfl)(hrs:fn.results=#[.tmp t,.tmp u,.tmp x]:=by exact rfl)(ht:lk ρ t=some v:=by exact rfl)(hu:lk ρ u=some v2:=by exact rfl)(hx:lk ρ x=some v3:=by exact rfl):Fin P C fn R e ρ H:=Fin.r3 he hrs ht hu hx H hR
end
theorem aH1{σ:Dv}{n:Nat}{M:List UInt8}(h:σ.Sta n M){i:Nat}(v:UInt8)(hi:i<8*n):σ.tamB (i:Int) 1=true∧(σ.tam (i:Int) [v]).Sta n (M.set i v):=by
 have hB:σ.tamB (i:Int) 1=true:=by
  unfold Dv.tamB
  rw [decide_eq_true_iff,h.len]
  omega
 refine⟨hB,?_⟩
 have e:σ.tam (i:Int) [v]=σ.setWs (gG Wd.tam σ.ws i [v]):=by
  unfold Dv.tam
  rw [if_pos (show σ.tamB (i:Int) [v].length=true from hB),aU]
 rw [e]
 obtain⟨u,hu⟩:∃ u,σ.ws[i/8]?=some u:=⟨_,aA (by rw [h.n];omega)⟩
 have e2:gG Wd.tam σ.ws i [v]=σ.ws.set (i/8) (u.tam (i%8) v):=by
  show qL Wd.tam σ.ws i v=_
  unfold qL
  exact pM _ hu
 refine⟨⟨h.l.d,h.l.f⟩,?_,?_,?_⟩
 ·show ∀ w∈gG Wd.tam σ.ws i [v],w.Ok
  exact xZ (J:=Wd.Ok) (fun j c w hw=>Wd.tam_ok j c hw) [v] _ _ h.ok
 ·show (gG Wd.tam σ.ws i [v]).length=n
  rw [lV]
  exact h.n
 ·show kV (gG Wd.tam σ.ws i [v])=_
  rw [e2,← aCz h.ok hu v rfl,h.m]
theorem aFW:∀ {B:List (List UInt8)} (R:List UInt8) {k a:Nat} {b:List UInt8} (v:UInt8),(∀ x∈B,x.length=256)→B[k]?=some b→a<256→(B.flatten++R).set (256*k+a) v=(B.set k (b.set a v)).flatten++R
 | [],R,k,a,b,v,_,h,_=>by simp at h
 | x::B,R,0,a,b,v,hB,h,ha=>by
  have hx:=hB x (by simp)
  simp only [nZ,dF] at h
  subst h
  rw [cQ,fJ,cQ,aV,aV,aAd,fH,fV _ _ oQ]
 | x::B,R,k+1,a,b,v,hB,h,ha=>by
  have hx:=hB x (by simp)
  simp only [nY] at h
  rw [cQ,nR,cQ,aV,aV,cA _ _ oQ,show 256*(k+1)+a-x.length=256*k+a by omega,aFW R v (fun y hy=>hB y (by simp [hy])) h ha]
theorem aGM{p:Nat}{X:UInt64→Nat→List UInt8→List UInt8}{j:Nat}{σ:Dv}{s:So}{b:List UInt8}(hst:s.st=0)(hj:j<Gm.sealed p)(hd:σ.down=false)(hb:σ.blk (Ks p j)=b)(hlv:qK s.lv ((Ks p j:Nat):Int)=Sha.sum (fC (Ks p j) b)):rdS p X (j:Int) σ s=(0,X (s.es.getD j 0) j b,s):=by
 unfold rdS
 rw [if_neg (fun hh=>hh hst),if_neg (fun hh=>hh ⟨by omega,by exact_mod_cast hj⟩),if_neg (by rw [hd];decide),aU,hb,if_neg (fun hh=>hh hlv.symm)]
theorem aMq{p:Nat}{X:UInt64→Nat→List UInt8→List UInt8}{j:Nat}{σ:Dv}{s:So}{b:List UInt8}(hst:s.st=0)(hj:j<Gm.sealed p)(hd:σ.down=false)(hb:σ.blk (Ks p j)=b)(hlv:qK s.lv ((Ks p j:Nat):Int)≠Sha.sum (fC (Ks p j) b)):rdS p X (j:Int) σ s=(20,[],{ s with st:=20 }):=by
 unfold rdS
 rw [if_neg (fun hh=>hh hst),if_neg (fun hh=>hh ⟨by omega,by exact_mod_cast hj⟩),if_neg (by rw [hd];decide),aU,hb,if_pos (fun hh=>hlv hh.symm)]
structure Bk.Gd(s:Bk)(n:Nat):Prop where
 len:s.kept.length≤n
 ne:∀ x y,s.clash=some (x,y)→x≠y
 inj:s.clash=none→∀ x∈s.kept,∀ y∈s.kept,Sha.sum x=Sha.sum y→x=y
theorem Bk.Gd.new:Bk.new.Gd 0:=⟨Nat.le_refl _,by simp [Bk.new],by simp [Bk.new]⟩
theorem Bk.Gd.add{s:Bk}{n:Nat}(h:s.Gd n)(t:List UInt8)(hn:n<16384):(s.add t).Gd (n+1)∧((s.add t).clash=none→s.clash=none∧t∈(s.add t).kept)∧∀ u∈s.kept,u∈(s.add t).kept:=by
 have hl:=h.len
 unfold Bk.add
 cases hf:s.kept.find? fun k=>decide (Sha.sum t=Sha.sum k) with
 | none=>
  have hno:∀ k∈s.kept,Sha.sum t≠Sha.sum k:=fun k hk=>by
   have:=List.find?_eq_none.1 hf k hk
   simpa using this
  dsimp only
  rw [if_pos oQ]
  refine⟨⟨by dsimp only;rw [aB,cJ];omega,h.ne,fun hc x hx y hy e=>?_⟩,fun hc=>⟨hc,by simp⟩,fun u hu=>aN _ hu⟩
  rcases bG.1 hx with hx1|hx1
  ·rcases bG.1 hy with hy1|hy1
   ·exact h.inj hc x hx1 y hy1 e
   ·rw [bO] at hy1
    rw [hy1] at e
    exact absurd e.symm (hno x hx1)
  ·rw [bO] at hx1
   rw [hx1] at e ⊢
   rcases bG.1 hy with hy1|hy1
   ·exact absurd e (hno y hy1)
   ·rw [bO] at hy1
    exact hy1.symm
 | some old=>
  have hm:=kA hf
  dsimp only
  split
  ·rename_i hc
   refine⟨⟨by dsimp only;omega,fun x y hxy=>?_,fun hc2=>by simp at hc2⟩,fun hc2=>by simp at hc2,fun u hu=>hu⟩
   simp only [dF,Prod.mk.injEq] at hxy
   obtain⟨rfl,rfl⟩:=hxy
   exact hc.1
  ·rename_i hc
   refine⟨⟨by omega,h.ne,h.inj⟩,fun hc2=>⟨hc2,?_⟩,fun u hu=>hu⟩
   have:old=t:=Decidable.not_not.1 fun e=>hc ⟨e,hc2⟩
   rw [← this]
   exact hm
theorem Bk.Gd.adds:∀ (ts:List (List UInt8)) {s:Bk} {n:Nat},s.Gd n→n+ts.length<16384→(s.adds ts).Gd (n+ts.length)∧((s.adds ts).clash=none→s.clash=none∧∀ t∈ts,t∈(s.adds ts).kept)∧∀ u∈s.kept,u∈(s.adds ts).kept
 | [],s,n,h,_=>⟨h,fun hc=>⟨hc,by simp⟩,fun u hu=>hu⟩
 | t::ts,s,n,h,hn=>by
  rw [aW] at hn
  obtain⟨a1,a2,a3⟩:=h.add t oQ
  obtain⟨b1,b2,b3⟩:=Bk.Gd.adds ts a1 oQ
  have e:s.adds (t::ts)=(s.add t).adds ts:=rfl
  rw [e,aW,show n+(ts.length+1)=n+1+ts.length by omega]
  refine⟨b1,fun hc=>?_,fun u hu=>b3 u (a3 u hu)⟩
  obtain⟨c1,c2⟩:=b2 hc
  obtain⟨d1,d2⟩:=a2 c1
  refine⟨d1,fun u hu=>?_⟩
  rcases cI.1 hu with rfl|hu
  ·exact b3 _ d2
  ·exact c2 u hu
section
attribute [local irreducible] SW SL SQ SH SA SS Pu Fin bZ aQ
def aPT(k:List UInt8)(pp:Nat)(H:Hp):Prop:=
 ∃ (i:Pid) (sp:Nat) (rv:Value) (σ:Dv) (r:Rg) (x:So) (sr:Sr) (β:Bk) (B:List (List UInt8)) (R:List UInt8) (Hd Hs Hk HS:Hp),fS i.d σ Hd∧lI i.s i.c i.b 10 (Aes.sched k) sr Hs∧eR i.bk i.tb (lF β B) Hk∧tI sp i.d i.tr i.s i.bk 3 4 x HS∧One rv ∧
  r.Ok∧r.c=3∧x.Ok 3∧aAb 3 4 n34 (dT (Aes.enc (Aes.sched k) 10)) σ x (fun _=>List.replicate 256 0) B R∧(σ.acts=aBO∧lC σ.ws=kV σ.ws)∧(β=Bk.new∨∃ B':List (List UInt8),B'.length=7∧β=lF Bk.new B') ∧
  H=(pp,cl (yU i 3 4 (ptv sp) rv) 47)::(i.tr,cl (trc i.d r) 201)::(Hd++(Hs++(Hk++HS)))
theorem xO(k:List UInt8)(hk:k.length=16):Tri prog 21 [.agg (cbs k).toArray,.int .u64 0] [] (fun _=>True)
  (fun v H=>∃ pp,v=.tuple #[ptv pp,.bool true]∧aPT k pp H):=by
 obtain⟨σ1,σ3,r1,r3,sr,β1,x,B,R,hpf,hpo,hr,hc,hx,hKt,hA,hok,hβ⟩:=aHt k hk
 rw [hok] at hpo
 have hbeg:=aCh yK k hk (cnt:=0) dQ dQ
 refine Tri.mk func21 rfl ntmps21 rfl fun w hw=>?_
 have hk0:(cbs k).length=16:=by rw [aI];exact hk
 (refine W.k ?_;repeat intro b_)
 (refine SW.l [3] [1,2] ?_;refine aX 0 ?_)
 refine W.cq uU ?_
 (refine bK [] ?_;refine bV 3 ?_)
 refine aG hbeg ?_
 rintro _ H1 ⟨pp,rfl,hP⟩
 (refine SL.l [4,5] ?_)
 (refine W.k ?_;repeat intro b_)
 refine aG (hpf pp H1 hP) ?_
 rintro _ H2 ⟨rfl,hP2⟩
 (refine W.k ?_;repeat intro b_)
 refine aG (hpo pp H2 hP2) ?_
 rintro _ H3 ⟨rfl,hP3⟩
 obtain⟨i,sv,rv,Hd,Hs,Hk,HD,HR,HS,HT,hD,hS,hBk,hDR,hSR,⟨sp,rfl,hSt⟩,⟨rsp,rfl,hRt⟩,rfl⟩:=hP3
 (refine W.k ?_;repeat intro b_)
 refine Fin.to ((pp,cl (yU i 3 4 (ptv sp) (ptv rsp)) 47)::(i.tr,cl (trc i.d r3) 201)::(Hd++(Hs++(Hk++HS)))) ?_
 exact F.f2 ⟨pp,rfl,i,sp,ptv rsp,σ3,r3,x,sr,β1,B,R,Hd,Hs,Hk,HS,hD,hS,hBk,hSt,inferInstance,hr,hc,hx,hKt,hA,hβ,rfl⟩
theorem vO:Tri prog 14 [.pointer none] [] (fun _=>True) (fun v H=>v=.int .i64 2∧H=[]):=by
 refine Tri.mk func14 rfl ntmps14 rfl fun w hw=>?_
 (refine W.k ?_;repeat intro b_)
 exact F.n
theorem aI4(k:Int):Tri prog 9 [.pointer none,.int .i64 k] [] (fun _=>True) (fun v H=>v=.tuple #[.slice none 0 0,.int .i64 2]∧H=[]):=by
 refine Tri.mk func9 rfl ntmps9 rfl fun w hw=>?_
 (refine W.k ?_;repeat intro b_)
 refine W.cw vO ?_;repeat intro b_
 exact F.m
theorem aKN:Tri prog 56 [.pointer none,.slice none 0 0] [] (fun _=>True) (fun v H=>v=.int .i64 2∧H=[]):=by
 refine Tri.mk func56 rfl ntmps56 rfl fun w hw=>?_
 (refine W.k ?_;repeat intro b_)
 refine W.cw vO ?_;repeat intro b_
 refine W.cw vO ?_;repeat intro b_
 exact F.n
theorem aFT:Tri prog 15 [.pointer none,.slice none 0 0] [] (fun _=>True) (fun v H=>v=.int .i64 2∧H=[]):=by
 refine Tri.mk func15 rfl ntmps15 rfl fun w hw=>?_
 (refine W.k ?_;repeat intro b_)
 refine W.cw aKN ?_;repeat intro b_
 exact F.n
theorem aGU(k:Int):Tri prog 16 [.pointer none,.int .i64 k] [] (fun _=>True) (fun v H=>v=.int .u64 0∧H=[]):=by
 refine Tri.mk func16 rfl ntmps16 rfl fun w hw=>?_
 (refine W.k ?_;repeat intro b_)
 exact F.n
theorem aI5:Tri prog 17 [.pointer none] [] (fun _=>True) (fun v H=>v=dgV z32∧H=[]):=by
 refine Tri.mk func17 rfl ntmps17 rfl fun w hw=>?_
 (refine W.k ?_;repeat intro b_)
 exact F.c0 (cbs z32) ⟨rfl,rfl⟩
theorem aKM:Tri prog 18 [.pointer none] [] (fun _=>True) (fun v H=>v=.int .i64 0∧H=[]):=by
 refine Tri.mk func18 rfl ntmps18 rfl fun w hw=>?_
 (refine W.k ?_;repeat intro b_)
 exact F.n
theorem aI3(k:Int):Tri prog 19 [.pointer none,.int .i64 k] [] (fun _=>True) (fun v H=>v=dgV z32∧H=[]):=by
 refine Tri.mk func19 rfl ntmps19 rfl fun w hw=>?_
 (refine W.k ?_;repeat intro b_)
 exact F.c0 (cbs z32) ⟨rfl,rfl⟩
theorem aI8(tr s bk p t:Nat):Tri prog 12 [.agg #[.pointer none,ptv tr,ptv s,ptv bk,.int .i64 (p:Int),.int .i64 (t:Int)],.slice none 0 0,.pointer none,.bool true] [] (fun _=>True) (fun v H=>v=.tuple #[.pointer none,.int .i64 2]∧H=[]):=by
 refine Tri.mk func12 rfl ntmps12 rfl fun w hw=>?_
 (refine W.k ?_;repeat intro b_)
 exact F.m
theorem aI9(d tr s bk p t:Nat):Tri prog 12 [wN d tr s bk p t,.slice none 0 0,.pointer none,.bool true] [] (fun _=>True) (fun v H=>v=.tuple #[.pointer none,.int .i64 2]∧H=[]):=by
 refine Tri.mk func12 rfl ntmps12 rfl fun w hw=>?_
 (refine W.k ?_;repeat intro b_)
 exact F.m
theorem aEz(k:Int):Tri prog 3 [.int .i64 k] [] (fun _=>True) (fun r _=>r=.bool true):=by
 refine Tri.mk func3 rfl ntmps3 rfl fun w hw=>?_
 have hk:(List.replicate 16 (0:UInt8)).length=16:=rfl
 have hbk:bS (fun i=>some (i*1,1)) (List.replicate 16 (.int .u8 0)) []=some (cbs (List.replicate 16 (0:UInt8))):=rfl
 have hbeg:=aCh yK (List.replicate 16 0) hk (cnt:=0) dQ dQ
 generalize List.replicate 16 (0:UInt8)=k1 at *
 have hz:z32.length=32:=rfl
 (refine W.k ?_;repeat intro b_)
 refine W.cw (aI4 k) ?_;repeat intro b_
 refine W.cw uU ?_;repeat intro b_
 refine aG hbeg ?_
 rintro _ H1 ⟨pp,rfl,i,sv,rv,Hd,Hs,Hk,HD,HR,HS,HT,hD,hS,hBk,hDR,hSR,hO,hOR,rfl⟩
 have o1:=hO.one
 have o2:=hOR.one
 (refine W.k ?_;repeat intro b_)
 refine W.cw (aI8 i.tr i.s i.bk 3 4) ?_;repeat intro b_
 refine aG (aJ8 3) ?_
 rintro _ Hn ⟨dn,rfl,hDn⟩
 (refine W.k ?_;repeat intro b_)
 refine W.cw (aI9 dn i.tr i.s i.bk 3 4) ?_;repeat intro b_
 refine W.cw vO ?_;repeat intro b_
 refine W.cw aFT ?_;repeat intro b_
 refine W.cw (aGU k) ?_;repeat intro b_
 refine W.cw aI5 ?_;repeat intro b_
 refine W.eA ?_ hz rfl
 (refine W.k ?_;repeat intro b_)
 refine W.cw aKM ?_;repeat intro b_
 refine W.cw (aI3 k) ?_;repeat intro b_
 refine W.eA ?_ hz rfl
 (refine W.k ?_;repeat intro b_)
 refine W.cw pJ ?_;repeat intro b_
 refine Fin.to [] ?_
 exact F.f1 rfl
theorem aPd(m:Int)(q:Nat)(hq:q<1000):∃ r:Nat,r≤q∧UAr .and .i64 m (q:Int) (r:Int):=by
 have hq2:(BitVec.ofInt 64 (q:Int)).toNat=q:=by rw [iV];omega
 have hle:(BitVec.ofInt 64 m &&& BitVec.ofInt 64 (q:Int)).toNat≤q:=by rw [tO,hq2];exact Nat.and_le_right
 refine⟨(BitVec.ofInt 64 m &&& BitVec.ofInt 64 (q:Int)).toNat,hle,⟨fun P w t=>?_⟩⟩
 have hw:IntKind.i64.wrap (((BitVec.ofInt 64 m &&& BitVec.ofInt 64 (q:Int)).toNat:Nat):Int)=(((BitVec.ofInt 64 m &&& BitVec.ofInt 64 (q:Int)).toNat:Nat):Int):=w64 oQ
 simp only [binOp,Op.intBits,ne_eq,not_true_eq_false,if_false,Sem.run_pure]
 exact congrArg (fun z=>Result.ok (Value.int .i64 z) w) hw
theorem aG8.rows{w:World}{v:Value}{us:List Value}{l:List Ent}(h:aG8 w v us l):∃ (a:Option Addr) (cap:Nat),v=.slice a l.length cap∧l.length≤cap ∧
  ∀ (i:Nat) (x:Ent),l[i]?=some x→∃ (u:Value) (b o:Nat) (lv:List Value) (T:TypeId) (fz:Nat×Nat),us[i]?=some u∧Rd [] w 1 u (cbs x.2)∧a=some ⟨b,o,none⟩∧w.heap[b]?=some (.cells lv.toArray T fz)∧b∉([]:List Nat)∧(lv.drop (o+i*2)).take 2=[.int .i64 x.1,u]:=by
 obtain⟨h1,h2,h3⟩:=h
 unfold eW at h1
 obtain⟨a,ca,rfl,hcap,hg⟩:=h1.rows dQ (nM us l)
 have hzl:(List.zipWith (fun u (x:Ent)=>[Value.int .i64 x.1,u]) us l).length=l.length:=by rw [gF,h2,jB]
 rw [hzl] at hcap ⊢
 refine⟨a,ca,rfl,hcap,fun i x hx=>?_⟩
 obtain⟨u,hu,hru⟩:=h3 i x hx
 obtain⟨b,o,lv,T,fz,ha,hb,hk,hv⟩:=hg i [.int .i64 x.1,u] (by rw [eZ,hu,hx])
 exact⟨u,b,o,lv,T,fz,hu,hru,ha,hb,hk,hv⟩
theorem aMh{w:World}{a:Option Addr}{len cap:Nat}{bs:List UInt8}(h:Rd [] w 1 (.slice a len cap) (cbs bs))(hl:260<len):Rd [] w 1 (.slice a 260 cap) (cbs (bs.take 260)):=by
 have hR:=Rd.pre 260 h
 rw [show min 260 len=260 by omega] at hR
 exact hR
theorem aDR(o:lX)(hf:o.full=true)(us:List Value)(l:List Ent)(hl:l.length≤maxLen) :
  Tri prog 22 [.agg o.c.toArray] [] (fun w=>aG8 w o.lv us l∧(∃ b,Rd [] w 1 o.bv (cbs b))∧(∃ q,Rd [] w 1 o.pv (cbs q)))
  (fun v H=>∃ (o':lX) (us':List Value) (l':List Ent) (HO HQ:Hp),v=.agg o'.c.toArray∧One o'.bv∧One o'.pv∧Sl 72 2 o'.lv (eW us' l') HO∧RB HQ us' (l'.map Prod.snd)∧l'.length≤26∧(∀ x∈l',x.2.length=256)∧l'.map Prod.fst=(l.take 26).map Prod.fst∧H=HO++HQ):=by
 obtain⟨kind,lv,full,kk,n,at',bv,wr,pv⟩:=o
 dsimp only [lX.c] at hf ⊢
 subst hf
 refine Tri.mk func22 rfl ntmps22 rfl fun w hw=>?_
 obtain⟨hE,⟨b,hb⟩,⟨q,hq⟩⟩:=hw
 obtain⟨a,ca,rfl,hcap,hg⟩:=hE.rows
 obtain⟨bva,bvl,bvc,rfl,hbl,hbc,-⟩:=hb.get
 obtain⟨pva,pvl,pvc,rfl,hql,hqc,-⟩:=hq.get
 obtain⟨r,hr,hU⟩:=aPd n 127 dQ
 haveI n1:eC (260:Int) 260:=⟨rfl⟩
 haveI n2:eC (300:Int) 300:=⟨rfl⟩
 haveI n3:eC (12:Int) 12:=⟨rfl⟩
 have hml:l.length≤9223372036854775807:=fA hl dQ
 (refine W.j ?_;repeat intro b_)
 rename_i b1
 refine bW [1,2] [] (fun y:Value×List Value×List Ent×Hp×Hp=>[(3,y.1)]) (fun y=>y.2.2.2.1++y.2.2.2.2) (fun y=>Sl 72 2 y.1 (eW y.2.1 y.2.2.1) y.2.2.2.1∧RB y.2.2.2.2 y.2.1 (y.2.2.1.map Prod.snd)∧y.2.2.1.length≤26∧(∀ x∈y.2.2.1,x.2.length=256)∧y.2.2.1.map Prod.fst=(l.take 26).map Prod.fst) ?_ ?_
 ·(refine W.k ?_;repeat intro b_)
  refine bF [1,2,7,8] (fun y:Nat×Value×List Value×List Ent×Hp×Hp=>[(3,y.2.1),(9,.int .i64 (y.1:Int))]) (fun y=>y.2.2.2.2.1++y.2.2.2.2.2) (fun y=>l.length-y.1) (fun y=>y.1≤l.length∧y.1≤26∧Sl 72 2 y.2.1 (eW y.2.2.1 y.2.2.2.1) y.2.2.2.2.1∧RB y.2.2.2.2.2 y.2.2.1 (y.2.2.2.1.map Prod.snd)∧(∀ x∈y.2.2.2.1,x.2.length=256)∧y.2.2.2.1.map Prod.fst=(l.take y.1).map Prod.fst) (0,.slice none 0 0,[],[],[],[]) ⟨Nat.zero_le _,Nat.zero_le _,Sl.nil _ _,RB.nil _,by simp,rfl⟩ ?_
  rintro⟨k,ov,us2,l2,HO,HQ⟩ ⟨hk,hk26,hO,hR,h256,hfst⟩
  dsimp only at hk hk26 hO hR h256 hfst ⊢
  have oO:=hO.isOne
  have hl2:l2.length=k:=by
   have:=congrArg List.length hfst
   rw [aD,aD,aK] at this
   omega
  have hul2:us2.length=l2.length:=by rw [hR.1,aD]
  have hecl:=gE us2 l2 hul2
  by_cases hkn:k<l.length
  ·have hx0:=aA hkn
   obtain⟨u,pb,po,plv,T,fz,huk,hru,rfl,hb2,hbk,hv⟩:=hg k _ hx0
   have htk:l.take (k+1)=l.take k++[l[k]]:=by rw [bA,hx0];rfl
   generalize l[k]=z at *
   have huo:=hru.isOne
   obtain⟨ua,ul,uc,rfl,hul3,huc,-⟩:=hru.get
   by_cases h26:k<26
   ·by_cases h260:260<ul
    ·have hR2:=aMh hru h260
     obtain⟨b0,o0,-,-,-,-,rfl,-⟩:=hru.lastAt oQ
     have hfu:=aJi (.slice (some ⟨b0,o0,none⟩) 260 uc) (z.2.take 260)
     (refine W.k ?_;repeat intro b_)
     refine aG hfu ?_ (hpre:=fun w2 hs=>hR2.ro (Hc:=[]) hs)
     rintro v1 H1 ⟨ds,hds,h1⟩
     have h11:=h1.isOne
     have hRd:=RdH.of h1
     obtain⟨a1,n1,c1,rfl,-⟩:=h1.form
     have hbe:=aA7 z.1 a1 n1 c1
     (refine W.k ?_;repeat intro b_)
     refine W.ap (ys:=[.int .i64 z.1,.slice a1 n1 c1]) (mm:=1) hO (fun w2 hs=>(Sl.own 72 2 b_ (len:=1) (xs:=[.int .i64 z.1,.slice a1 n1 c1]) rfl).srcAt hs inferInstance) (fun ov2 HO2 hO2=>?_) (hys:=rfl) (hbytes:=by rw [hecl];simp;omega)
     have oO2:=hO2.isOne
     have hLs:=iD hul2 (.slice a1 n1 c1) (z.1,ds)
     dsimp only at hLs
     rw [← hLs] at hO2
     have hR3:RB (HQ++H1) (us2++[.slice a1 n1 c1]) ((l2++[(z.1,ds)]).map Prod.snd):=by
      rw [aL]
      exact (hR.mono fun y hy=>aN _ hy).snoc (hRd.mono fun y hy=>aM _ hy)
     (refine W.k ?_;repeat intro b_)
     refine aQ.mk (k+1,ov2,us2++[.slice a1 n1 c1],l2++[(z.1,ds)],HO2,HQ++H1) ?_
     refine⟨hkn,h26,hO2,hR3,fun y hy=>?_,?_⟩
     ·rcases bG.1 hy with hy|hy
      ·exact h256 y hy
      ·rw [bO] at hy;subst hy;exact hds
     ·rw [aL,hfst,htk,aL]
      rfl
    ·have hfu:=aJi (.slice ua ul uc) z.2
     (refine W.k ?_;repeat intro b_)
     refine aG hfu ?_ (hpre:=fun w2 hs=>hru.ro (Hc:=[]) hs)
     rintro v1 H1 ⟨ds,hds,h1⟩
     have h11:=h1.isOne
     have hRd:=RdH.of h1
     obtain⟨a1,n1,c1,rfl,-⟩:=h1.form
     have hbe:=aA7 z.1 a1 n1 c1
     (refine W.k ?_;repeat intro b_)
     refine W.ap (ys:=[.int .i64 z.1,.slice a1 n1 c1]) (mm:=1) hO (fun w2 hs=>(Sl.own 72 2 b_ (len:=1) (xs:=[.int .i64 z.1,.slice a1 n1 c1]) rfl).srcAt hs inferInstance) (fun ov2 HO2 hO2=>?_) (hys:=rfl) (hbytes:=by rw [hecl];simp;omega)
     have oO2:=hO2.isOne
     have hLs:=iD hul2 (.slice a1 n1 c1) (z.1,ds)
     dsimp only at hLs
     rw [← hLs] at hO2
     have hR3:RB (HQ++H1) (us2++[.slice a1 n1 c1]) ((l2++[(z.1,ds)]).map Prod.snd):=by
      rw [aL]
      exact (hR.mono fun y hy=>aN _ hy).snoc (hRd.mono fun y hy=>aM _ hy)
     (refine W.k ?_;repeat intro b_)
     refine aQ.mk (k+1,ov2,us2++[.slice a1 n1 c1],l2++[(z.1,ds)],HO2,HQ++H1) ?_
     refine⟨hkn,h26,hO2,hR3,fun y hy=>?_,?_⟩
     ·rcases bG.1 hy with hy|hy
      ·exact h256 y hy
      ·rw [bO] at hy;subst hy;exact hds
     ·rw [aL,hfst,htk,aL]
      rfl
   ·(refine W.k ?_;repeat intro b_)
    refine bZ.mk (ov,us2,l2,HO,HQ) ?_
    exact⟨hO,hR,by dsimp only;omega,h256,by dsimp only;rw [hfst,show k=26 by omega]⟩
  ·(refine W.k ?_;repeat intro b_)
   refine bZ.mk (ov,us2,l2,HO,HQ) ?_
   exact⟨hO,hR,by dsimp only;omega,h256,by dsimp only;rw [hfst,aJ oQ,aJ oQ]⟩
 rintro⟨ov,us2,l2,HO,HQ⟩ ⟨hO,hR,h26,h256,hfst⟩
 dsimp only at hO hR h26 h256 hfst ⊢
 have oO:=hO.isOne
 clear hg hE
 by_cases hB:300<bvl
 ·obtain⟨b0,o0,-,-,-,-,rfl,-⟩:=hb.lastAt oQ
  by_cases hP:12<pvl
  ·obtain⟨b2,o2,-,-,-,-,rfl,-⟩:=hq.lastAt oQ
   (refine W.k ?_;repeat intro b_)
   refine F.cH (HO++HQ) (lX.c ⟨kind,ov,true,kk,(r:Int),at',.slice (some ⟨b0,o0,none⟩) 300 bvc,wr,.slice (some ⟨b2,o2,none⟩) 12 pvc⟩) ?_
   exact⟨⟨kind,ov,true,kk,(r:Int),at',.slice (some ⟨b0,o0,none⟩) 300 bvc,wr,.slice (some ⟨b2,o2,none⟩) 12 pvc⟩,us2,l2,HO,HQ,rfl,inferInstance,inferInstance,hO,hR,h26,h256,hfst,rfl⟩
  ·(refine W.k ?_;repeat intro b_)
   refine F.cH (HO++HQ) (lX.c ⟨kind,ov,true,kk,(r:Int),at',.slice (some ⟨b0,o0,none⟩) 300 bvc,wr,.slice pva pvl pvc⟩) ?_
   exact⟨⟨kind,ov,true,kk,(r:Int),at',.slice (some ⟨b0,o0,none⟩) 300 bvc,wr,.slice pva pvl pvc⟩,us2,l2,HO,HQ,rfl,inferInstance,inferInstance,hO,hR,h26,h256,hfst,rfl⟩
 ·by_cases hP:12<pvl
  ·obtain⟨b2,o2,-,-,-,-,rfl,-⟩:=hq.lastAt oQ
   (refine W.k ?_;repeat intro b_)
   refine F.cH (HO++HQ) (lX.c ⟨kind,ov,true,kk,(r:Int),at',.slice bva bvl bvc,wr,.slice (some ⟨b2,o2,none⟩) 12 pvc⟩) ?_
   exact⟨⟨kind,ov,true,kk,(r:Int),at',.slice bva bvl bvc,wr,.slice (some ⟨b2,o2,none⟩) 12 pvc⟩,us2,l2,HO,HQ,rfl,inferInstance,inferInstance,hO,hR,h26,h256,hfst,rfl⟩
  ·(refine W.k ?_;repeat intro b_)
   refine F.cH (HO++HQ) (lX.c ⟨kind,ov,true,kk,(r:Int),at',.slice bva bvl bvc,wr,.slice pva pvl pvc⟩) ?_
   exact⟨⟨kind,ov,true,kk,(r:Int),at',.slice bva bvl bvc,wr,.slice pva pvl pvc⟩,us2,l2,HO,HQ,rfl,inferInstance,inferInstance,hO,hR,h26,h256,hfst,rfl⟩
def aBN(now:Nat→List UInt8)(us:List Value)(HN:Hp):Prop:=us.length=5∧∀ j:Nat,j<5→∃ u,us[j]?=some u∧RdH HN u (now j)
theorem aBN.one{now:Nat→List UInt8}{us:List Value}{HN:Hp}(h:aBN now us HN):OC us:=⟨fun v hv=>by
 obtain⟨j,hj,rfl⟩:=jF.1 hv
 obtain⟨u,h1,h2⟩:=h.2 j (by rw [← h.1];exact hj)
 rw [aA hj] at h1
 cases h1
 exact h2.one.ok⟩
theorem aBN.mono{now:Nat→List UInt8}{us:List Value}{HN HM:Hp}(h:aBN now us HN):aBN now us (HN++HM):=⟨h.1,fun j hj=>by
 obtain⟨u,h1,h2⟩:=h.2 j hj
 exact⟨u,h1,h2.mono fun y hy=>aN _ hy⟩⟩
theorem aBN.set{now:Nat→List UInt8}{us:List Value}{HN:Hp}(h:aBN now us HN){j:Nat}(hj:j<5){u:Value}{d:List UInt8}(hr:RdH HN u d):aBN (fun i=>if i=j then d else now i) (us.set j u) HN:=⟨by rw [bQ];exact h.1,fun i hi=>by
 by_cases e:i=j
 ·subst e
  refine⟨u,by rw [cN,if_pos rfl,if_pos (by rw [h.1];exact hi)],?_⟩
  dsimp only
  rw [if_pos rfl]
  exact hr
 ·obtain⟨u',h1,h2⟩:=h.2 i hi
  refine⟨u',by rw [cN,if_neg (Ne.symm e)];exact h1,?_⟩
  dsimp only
  rw [if_neg e]
  exact h2⟩
theorem aIF(now:Nat→List UInt8)(l:List Ent)(x:Ent):yJ now (l++[x])=fun j=>if j=x.1.toNat then x.2 else yJ now l j:=by unfold yJ;rw [gX];rfl
theorem aMw{l ys:List Value}{o len n k:Nat}(h:(l.drop o).take (len*n)=ys)(hk:k<len):(l.drop (o+k*n)).take n=(ys.drop (k*n)).take n:=by
 subst h
 have hin:k*n+n≤len*n:=by rw [← fZ];exact dC n hk
 rw [jU,fR,cM]
 congr 1
 omega
structure RS where
 i:Nat
 c:Int
 A:Acs
 now:Nat→List UInt8
 us:List Value
 HN:Hp
 H:Hp
theorem aPf(a:Option Addr)(n c:Nat):bS (fun i=>[(0,1),(1,1)][i]?) ([.int .u64 0]++[.slice none 0 0]) [(1,.slice a n c)]=some [.int .u64 0,.slice a n c]:=rfl
theorem aC3(k:List UInt8)(hk:k.length=16)(a:Option Addr)(len cap:Nat)(ys:List Value)(hml0:len≤maxLen) :
  Tri prog 4 [.agg (cbs k).toArray,.slice a len cap] [] (fun w=>aMH w a len cap ys) (fun v H=>v=.bool true):=by
 refine Tri.mk func4 rfl ntmps4 rfl fun w hw=>?_
 obtain⟨hrd0,hops⟩:=hw
 obtain⟨a',len',cap',he,hyl,hcap,hrd⟩:=hrd0.get
 cases he
 have hml:len≤9223372036854775807:=fA hml0 dQ
 have hk0:(cbs k).length=16:=by rw [aI];exact hk
 (refine W.k ?_;repeat intro b_)
 refine aG (xO k hk) ?_
 rintro _ _ ⟨pp,rfl,pid,sp,rv,σ,r,x,sr,β,B,R,Hd,Hs,Hk,HS,hD,hS,hBk,hSt,orv,hr,hc,hx,hKt,hA,hβ,rfl⟩
 have hSS:StS k pid sp 3 aBO (fun _=>List.replicate 256 0) ((pid.tr,cl (trc pid.d r) 201)::(Hd++(Hs++(Hk++HS)))):=⟨σ,r,x,sr,_,B,R,Hd,Hs,Hk,HS,hD,hS,hBk,hSt,hr,hc,hx,hKt,hA.1,rfl⟩
 clear hKt hA hβ hr hc hx hD hS hBk hSt
 generalize aBO=A0 at *
 generalize hz:List.replicate 256 (0:UInt8)=z at *
 have hz256:z.length=256:=by rw [← hz];exact aP
 generalize (pid.tr,cl (trc pid.d r) 201)::(Hd++(Hs++(Hk++HS)))=H0 at *
 (refine W.j ?_;repeat intro b_)
 generalize b_=nb
 refine bW [1,5,7] [(nb,cl [.slice none 0 0,.slice none 0 0,.slice none 0 0,.slice none 0 0,.slice none 0 0] 64)] (fun _:List Value×Hp=>[]) (fun y=>(nb,cl y.1 64)::y.2) (fun y=>aBN (fun _=>z) y.1 y.2) ?_ ?_
 ·(refine W.k ?_;repeat intro b_)
  refine bF [1,5,7] (fun y:Nat×List Value×Hp=>[(31,.int .i64 (y.1:Int))]) (fun y=>(nb,cl y.2.1 64)::y.2.2) (fun y=>5-y.1) (fun y=>y.1≤5∧y.2.1.length=5∧OC y.2.1∧∀ j,j<y.1→∃ u,y.2.1[j]?=some u∧RdH y.2.2 u z) (0,[.slice none 0 0,.slice none 0 0,.slice none 0 0,.slice none 0 0,.slice none 0 0],[]) ⟨Nat.zero_le _,rfl,inferInstance,fun j hj=>absurd hj (kE _)⟩ ?_
  rintro⟨j,us,HN⟩ ⟨hj,hul,hoc,hall⟩
  dsimp only at hj hul hoc hall ⊢
  by_cases hj5:j<5
  ·have hju:j<us.length:=oQ
   (refine W.k ?_;repeat intro b_)
   rw [kR,aAx,hz]
   have hq:RdH [(b_,cl (cbs z) 5)] (.slice (some ⟨b_,0,none⟩) 256 256) z:=RdH.of (Sl.own 5 1 b_ (len:=256) (by rw [aI];exact hz256))
   refine aQ.mk (j+1,us.set j (.slice (some ⟨b_,0,none⟩) 256 256),HN++[(b_,cl (cbs z) 5)]) ?_
   refine⟨by dsimp only;omega,by dsimp only;rw [bQ];exact hul,inferInstance,fun i hi=>?_⟩
   by_cases e:i=j
   ·subst e
    exact⟨_,by dsimp only;rw [cN,if_pos rfl,if_pos hju],hq.mono fun y hy=>aM _ hy⟩
   ·obtain⟨u,h1,h2⟩:=hall i (by dsimp only at hi;omega)
    exact⟨u,by dsimp only;rw [cN,if_neg (Ne.symm e)];exact h1,h2.mono fun y hy=>aN _ hy⟩
  ·obtain rfl:j=5:=by omega
   (refine W.k ?_;repeat intro b_)
   refine bZ.mk (us,HN) ?_
   exact⟨hul,hall⟩
 rintro⟨us,HN⟩ hN
 dsimp only at hN ⊢
 (refine W.k ?_;repeat intro b_)
 refine bF [5,7,38,39] (fun y:RS=>[(40,.int .i64 (y.i:Int))]) (fun y=>(nb,cl y.us 64)::(y.HN++y.H)) (fun y=>len-y.i) (fun y=>y.i≤len∧y.c≤3+y.i∧aBN y.now y.us y.HN∧StS k pid sp y.c y.A y.now y.H) ⟨0,3,A0,fun _=>z,us,HN,H0⟩ ⟨Nat.zero_le _,by dsimp only;omega,hN,hSS⟩ ?_
 clear hN hSS
 rintro⟨ii,c,A,now,us,HN,H⟩ ⟨hi,hc,hN,hS⟩
 dsimp only at hi hc hN hS ⊢
 have hvl:=hN.1
 have hvo:=hN.one
 by_cases hil:ii<len
 ·obtain⟨o,ho,hrow⟩:=hops ii hil
  obtain⟨blk0,ob,lr,T,fz,rfl,hb,hbk,hys⟩:=hrd oQ
  have hrow2:=(aMw hys hil).trans hrow
  have hol:o.c.length=9:=rfl
  obtain⟨⟨us0,l0,hE0,hl0,-⟩,hb0,hp0,-⟩:=ho
  have ol:One o.lv:=hE0.1.isOne
  have ob1:One o.bv:=by obtain⟨b,hb⟩:=hb0;exact hb.isOne
  have op1:One o.pv:=by obtain⟨b,hb⟩:=hp0;exact hb.isOne
  have hoc:OC o.c:=inferInstance
  by_cases c10:10≤ii
  ·(refine W.k ?_;repeat intro b_)
   refine W.cw pJ ?_;repeat intro b_
   refine Fin.to [] ?_
   exact F.f1 rfl
  ·have hcu:=aDR { o with full:=true } rfl us0 l0 hl0
   (refine W.k ?_;repeat intro b_)
   rw [show o.c.set 2 (.bool true)=({ o with full:=true }:lX).c from rfl]
   refine aG hcu ?_ (hpre:=fun w2 hs=>⟨⟨hE0.1.ro (Hc:=[]) hs,hE0.2.1,fun i x hx=>by
    obtain⟨u,h1,h2⟩:=hE0.2.2 i x hx
    exact⟨u,h1,h2.ro (Hc:=[]) hs⟩⟩,by
    obtain⟨b,hb⟩:=hb0
    exact⟨b,hb.ro (Hc:=[]) hs⟩,by
    obtain⟨b,hb⟩:=hp0
    exact⟨b,hb.ro (Hc:=[]) hs⟩⟩)
   rintro _ _ ⟨⟨kd,lv2,fl,kk2,n2,at2,bv2,wr2,pv2⟩,us2,l2,HO,HQ,rfl,ob2,op2,hO,hRQ,h26,h256,-,rfl⟩
   dsimp only at ob2 op2 hO ⊢
   have hul2:us2.length=l2.length:=by rw [hRQ.1,aD]
   obtain⟨oa,oln,ocp,rfl,hol2⟩:=hO.form
   rw [gE us2 l2 hul2] at hol2
   obtain rfl:oln=l2.length:=by omega
   have hen:=xR (.slice oa l2.length ocp) us2 l2 hRQ oQ (fun x hx=>by rw [h256 x hx];decide)
   clear hcu hE0 hb0 hp0 hrow hrow2 hys hops hrd
   (refine W.k ?_;repeat intro b_)
   (refine SW.l [7] [0,1,2,3,4,5] ?_;refine aX 6 ?_)
   refine aG hen ?_ (hpre:=fun w2 hs=>Rd.own (Hc:=HQ) hO hs inferInstance)
   rintro le _ ⟨us3,HE,HQ3,hL3,hR3,rfl⟩
   have oL3:=hL3.isOne
   (refine bK [] ?_;refine bV 7 ?_)
   refine aG (hS.commit hk oQ hL3 hR3 oQ) ?_
   rintro _ _ ⟨e,H5,rfl,rfl,he,hC⟩
   (refine SL.l [8,9] ?_)
   have hmay:=aHR yK 0 (.slice oa l2.length ocp) us2 l2 hRQ.le oQ
   have hbl:=aPf oa l2.length ocp
   by_cases hok:l2=[]∨gV 3 4 l2=true
   ·obtain rfl:e=0:=he.2 hok
    obtain⟨c2,A2,hc2,hS5⟩:∃ c2 A2,c2≤c+1∧StS k pid sp c2 A2 (yJ now l2) H5:=by
     rcases hC with ⟨hm,hS⟩|⟨hm,hS⟩
     ·exact⟨_,_,Int.le_refl _,hS⟩
     ·rcases hok with rfl|h
      ·exact⟨_,_,by omega,hS⟩
      ·rw [h] at hm;cases hm
    have hall:∀ (j:Nat) (x:Ent),l2[j]?=some x → -1<x.1∧x.1<5:=fun j x hx=>by
     rcases hok with rfl|h
     ·simp at hx
     ·obtain⟨h1,h2,-⟩:=(aAw h).2 j x hx
      exact⟨h1,h2⟩
    clear hC hS he
    (refine W.j ?_;repeat intro b_)
    refine bW [5,7,10,11,38,39,40] [(nb,cl us 64)] (fun _:List Value=>[]) (fun y=>[(nb,cl y 64)]) (fun y=>aBN (yJ now l2) y (HN++HQ)) ?_ ?_
    ·(refine W.k ?_;repeat intro b_)
     refine bF [5,7,10,11,38,39,40,61,62] (fun y:Nat×List Value=>[(63,.int .i64 (y.1:Int))]) (fun y=>[(nb,cl y.2 64)]) (fun y=>l2.length-y.1) (fun y=>y.1≤l2.length∧aBN (yJ now (l2.take y.1)) y.2 (HN++HQ)) (0,us) ⟨Nat.zero_le _,hN.mono⟩ ?_
     rintro⟨j,us5⟩ ⟨hj,hN5⟩
     dsimp only at hj hN5 ⊢
     have hvl5:=hN5.1
     have hvo5:=hN5.one
     by_cases hjl:j<l2.length
     ·rcases hO with ⟨hz1,hz2,-⟩|⟨eb,elen,ecap,ejunk,hz1,hexl,hej,hec,rfl⟩
      ·simp only [Value.slice.injEq] at hz1;omega
      simp only [Value.slice.injEq] at hz1
      obtain⟨rfl,rfl,rfl⟩:=hz1
      have hx0:=aA hjl
      obtain⟨u,huk,hru⟩:=hRQ.2 j l2[j].2 (by rw [aH,hx0];rfl)
      have hrow:=xQ (junk:=ejunk) hul2 huk hx0
      obtain⟨hx1,hx2⟩:=hall j _ hx0
      have htk:l2.take (j+1)=l2.take j++[l2[j]]:=by rw [bA,hx0];rfl
      have hns:=aIF now (l2.take j) l2[j]
      rw [← htk] at hns
      have huo:=hru.one
      generalize l2[j]=y at *
      obtain⟨K,hKK⟩:∃ K:Nat,y.1=(K:Int):=⟨y.1.toNat,by omega⟩
      rw [show y.1.toNat=K by omega] at hns
      rw [hKK] at hrow
      have hlt:K<us5.length:=oQ
      have hN6:=hN5.set (j:=K) oQ (hru.mono fun q hq=>aM HN hq)
      rw [← hns] at hN6
      (refine W.k ?_;repeat intro b_)
      refine aQ.mk (j+1,us5.set K u) ?_
      exact⟨hjl,hN6⟩
     ·obtain rfl:j=l2.length:=by omega
      rw [bP] at hN5
      (refine W.k ?_;repeat intro b_)
      refine bZ.mk us5 ?_
      exact hN5
    rintro us5 hN5
    have hvl5:=hN5.1
    have hvo5:=hN5.one
    by_cases hl0:l2.length=0
    ·(refine W.k ?_;repeat intro b_)
     (refine SW.l [] [0,1,2,3,4] ?_;(first|refine dN 5 rfl (Pu.t (lE rfl rfl rfl rfl) (by dsimp only [oJ];first|done|omega)) ?_;refine SG.l [6,8,9,10] ?_;(first|refine cR 7 rfl ?_;(first|refine cR 11 rfl ?_;refine SG.l [12] ?_;refine dN 13 rfl (aCC rfl rfl rfl rfl) ?_;refine SS.dn ?_|refine aX 11 ?_)|refine aX 7 ?_)|refine dN 5 rfl (Pu.f (lE rfl rfl rfl rfl) (by dsimp only [oJ];first|done|omega)) ?_;refine SG.l [6,8,9,10] ?_;(first|refine cR 7 rfl ?_;(first|refine cR 11 rfl ?_;refine SG.l [12] ?_;refine dN 13 rfl (aCC rfl rfl rfl rfl) ?_;refine SS.dn ?_|refine aX 11 ?_)|refine aX 7 ?_)|(refine SS.cs 5 rfl (lE rfl rfl rfl rfl) (fun h_=>?_) (fun h_=>?_) <;> dsimp only [oJ] at h_ <;> (refine SG.l [6,8,9,10] ?_;(first|refine cR 7 rfl ?_;(first|refine cR 11 rfl ?_;refine SG.l [12] ?_;refine dN 13 rfl (aCC rfl rfl rfl rfl) ?_;refine SS.dn ?_|refine aX 11 ?_)|refine aX 7 ?_)))))
     (refine W.k ?_;repeat intro b_)
     refine bF [5,7,38,39,40] (fun y:Nat×Hp=>[(87,.int .i64 (y.1:Int))]) (fun y=>y.2) (fun y=>5-y.1) (fun y=>y.1≤5∧StS k pid sp c2 A2 (yJ now l2) y.2) (0,H5) ⟨Nat.zero_le _,hS5⟩ ?_
     rintro⟨j,H7⟩ ⟨hj,hS7⟩
     dsimp only at hj hS7 ⊢
     by_cases hj5:j<5
     ·obtain⟨u7,hu7,hr7⟩:=hN5.2 j hj5
      have hu71:=hr7.one
      (refine W.k ?_;repeat intro b_)
      refine aG (hS7.read hk hj5) ?_
      rintro _ _ ⟨v7,Hr7,H8,rfl,h7,hS8,rfl⟩
      have h71:=h7.isOne
      (refine W.k ?_;repeat intro b_)
      (refine SW.l [] [0] ?_;(first|refine dN 1 rfl (Pu.t (lE rfl rfl rfl rfl) (by dsimp only [oJ];first|done|omega)) ?_;refine SG.l [2,3] ?_;(first|refine cR 4 rfl ?_|refine pU h7 4 [] rfl ?_);refine SG.l [5,6,7] ?_;(first|refine cR 8 rfl ?_|refine mD hr7 8 [] rfl ?_);(first|refine cR 9 rfl ?_|refine dN 9 rfl (pX rfl rfl rfl rfl) ?_);refine SG.l [10,11] ?_|refine dN 1 rfl (Pu.f (lE rfl rfl rfl rfl) (by dsimp only [oJ];first|done|omega)) ?_;refine SG.l [2,3] ?_;(first|refine cR 4 rfl ?_|refine pU h7 4 [] rfl ?_);refine SG.l [5,6,7] ?_;(first|refine cR 8 rfl ?_|refine mD hr7 8 [] rfl ?_);(first|refine cR 9 rfl ?_|refine dN 9 rfl (pX rfl rfl rfl rfl) ?_);refine SG.l [10,11] ?_|(refine SS.cs 1 rfl (lE rfl rfl rfl rfl) (fun h_=>?_) (fun h_=>?_) <;> dsimp only [oJ] at h_ <;> (refine SG.l [2,3] ?_;(first|refine cR 4 rfl ?_|refine pU h7 4 [] rfl ?_);refine SG.l [5,6,7] ?_;(first|refine cR 8 rfl ?_|refine mD hr7 8 [] rfl ?_);(first|refine cR 9 rfl ?_|refine dN 9 rfl (pX rfl rfl rfl rfl) ?_);refine SG.l [10,11] ?_))))
      (refine W.k ?_;repeat intro b_)
      refine aQ.mk (j+1,H8) ?_
      exact⟨by dsimp only;omega,hS8⟩
     ·obtain rfl:j=5:=by omega
      (refine W.k ?_;repeat intro b_)
      refine aQ.mk ⟨ii+1,c2,A2,(yJ now l2),us5,(HN++HQ),H7⟩ ?_
      exact⟨by dsimp only;omega,by dsimp only;omega,hN5,hS7⟩
    ·have hm:gV 3 4 l2=true:=by
      rcases hok with rfl|h
      ·exact absurd rfl hl0
      ·exact h
     rw [hm] at hmay
     (refine W.k ?_;repeat intro b_)
     (refine SW.l [11] [0,1,2,3,4] ?_;(first|refine dN 5 rfl (Pu.t (lE rfl rfl rfl rfl) (by dsimp only [oJ];first|done|omega)) ?_;refine SG.l [6,8,9,10] ?_;(first|refine cR 7 rfl ?_;(first|refine cR 11 rfl ?_;refine SG.l [12,13,14] ?_|refine bV 11 ?_)|refine aX 7 ?_)|refine dN 5 rfl (Pu.f (lE rfl rfl rfl rfl) (by dsimp only [oJ];first|done|omega)) ?_;refine SG.l [6,8,9,10] ?_;(first|refine cR 7 rfl ?_;(first|refine cR 11 rfl ?_;refine SG.l [12,13,14] ?_|refine bV 11 ?_)|refine aX 7 ?_)|(refine SS.cs 5 rfl (lE rfl rfl rfl rfl) (fun h_=>?_) (fun h_=>?_) <;> dsimp only [oJ] at h_ <;> (refine SG.l [6,8,9,10] ?_;(first|refine cR 7 rfl ?_;(first|refine cR 11 rfl ?_;refine SG.l [12,13,14] ?_|refine bV 11 ?_)|refine aX 7 ?_)))))
     refine W.cq uU ?_
     (refine bK [] ?_;(first|refine cR 11 rfl ?_;refine SG.l [12,13,14] ?_|refine bV 11 ?_))
     refine W.cq hmay ?_ (hpre:=fun w2 hs=>Rd.own (Hc:=[]) hO hs inferInstance)
     (refine SL.l [12] ?_;refine dN 13 rfl (aCC rfl rfl rfl rfl) ?_;refine SS.dn ?_)
     (refine W.k ?_;repeat intro b_)
     refine bF [5,7,38,39,40] (fun y:Nat×Hp=>[(87,.int .i64 (y.1:Int))]) (fun y=>y.2) (fun y=>5-y.1) (fun y=>y.1≤5∧StS k pid sp c2 A2 (yJ now l2) y.2) (0,H5) ⟨Nat.zero_le _,hS5⟩ ?_
     rintro⟨j,H7⟩ ⟨hj,hS7⟩
     dsimp only at hj hS7 ⊢
     by_cases hj5:j<5
     ·obtain⟨u7,hu7,hr7⟩:=hN5.2 j hj5
      have hu71:=hr7.one
      (refine W.k ?_;repeat intro b_)
      refine aG (hS7.read hk hj5) ?_
      rintro _ _ ⟨v7,Hr7,H8,rfl,h7,hS8,rfl⟩
      have h71:=h7.isOne
      (refine W.k ?_;repeat intro b_)
      (refine SW.l [] [0] ?_;(first|refine dN 1 rfl (Pu.t (lE rfl rfl rfl rfl) (by dsimp only [oJ];first|done|omega)) ?_;refine SG.l [2,3] ?_;(first|refine cR 4 rfl ?_|refine pU h7 4 [] rfl ?_);refine SG.l [5,6,7] ?_;(first|refine cR 8 rfl ?_|refine mD hr7 8 [] rfl ?_);(first|refine cR 9 rfl ?_|refine dN 9 rfl (pX rfl rfl rfl rfl) ?_);refine SG.l [10,11] ?_|refine dN 1 rfl (Pu.f (lE rfl rfl rfl rfl) (by dsimp only [oJ];first|done|omega)) ?_;refine SG.l [2,3] ?_;(first|refine cR 4 rfl ?_|refine pU h7 4 [] rfl ?_);refine SG.l [5,6,7] ?_;(first|refine cR 8 rfl ?_|refine mD hr7 8 [] rfl ?_);(first|refine cR 9 rfl ?_|refine dN 9 rfl (pX rfl rfl rfl rfl) ?_);refine SG.l [10,11] ?_|(refine SS.cs 1 rfl (lE rfl rfl rfl rfl) (fun h_=>?_) (fun h_=>?_) <;> dsimp only [oJ] at h_ <;> (refine SG.l [2,3] ?_;(first|refine cR 4 rfl ?_|refine pU h7 4 [] rfl ?_);refine SG.l [5,6,7] ?_;(first|refine cR 8 rfl ?_|refine mD hr7 8 [] rfl ?_);(first|refine cR 9 rfl ?_|refine dN 9 rfl (pX rfl rfl rfl rfl) ?_);refine SG.l [10,11] ?_))))
      (refine W.k ?_;repeat intro b_)
      refine aQ.mk (j+1,H8) ?_
      exact⟨by dsimp only;omega,hS8⟩
     ·obtain rfl:j=5:=by omega
      (refine W.k ?_;repeat intro b_)
      refine aQ.mk ⟨ii+1,c2,A2,(yJ now l2),us5,(HN++HQ),H7⟩ ?_
      exact⟨by dsimp only;omega,by dsimp only;omega,hN5,hS7⟩
   ·have he0:¬ e=0:=fun h=>hok (he.1 h)
    have hm:gV 3 4 l2=false:=by
     cases hh:gV 3 4 l2
     ·rfl
     ·exact absurd (.inr hh) hok
    have hl0:l2.length≠0:=fun h=>hok (.inl (bL h))
    have hS5:StS k pid sp c A now H5:=by
     rcases hC with ⟨h,-⟩|⟨-,h⟩
     ·rw [hm] at h;cases h
     ·exact h
    clear hC hS he
    rw [hm] at hmay
    (refine W.k ?_;repeat intro b_)
    (refine SW.l [11] [0,1,2,3,4] ?_;(first|refine dN 5 rfl (Pu.t (lE rfl rfl rfl rfl) (by dsimp only [oJ];first|done|omega)) ?_;refine SG.l [6,8,9,10] ?_;(first|refine cR 7 rfl ?_;(first|refine cR 11 rfl ?_;refine SG.l [12,13,14] ?_|refine bV 11 ?_)|refine aX 7 ?_)|refine dN 5 rfl (Pu.f (lE rfl rfl rfl rfl) (by dsimp only [oJ];first|done|omega)) ?_;refine SG.l [6,8,9,10] ?_;(first|refine cR 7 rfl ?_;(first|refine cR 11 rfl ?_;refine SG.l [12,13,14] ?_|refine bV 11 ?_)|refine aX 7 ?_)|(refine SS.cs 5 rfl (lE rfl rfl rfl rfl) (fun h_=>?_) (fun h_=>?_) <;> dsimp only [oJ] at h_ <;> (refine SG.l [6,8,9,10] ?_;(first|refine cR 7 rfl ?_;(first|refine cR 11 rfl ?_;refine SG.l [12,13,14] ?_|refine bV 11 ?_)|refine aX 7 ?_)))))
    refine W.cq uU ?_
    (refine bK [] ?_;(first|refine cR 11 rfl ?_;refine SG.l [12,13,14] ?_|refine bV 11 ?_))
    refine W.cq hmay ?_ (hpre:=fun w2 hs=>Rd.own (Hc:=[]) hO hs inferInstance)
    (refine SL.l [12] ?_;refine dN 13 rfl (aCC rfl rfl rfl rfl) ?_;refine SS.dn ?_)
    (refine W.k ?_;repeat intro b_)
    refine bF [5,7,38,39,40] (fun y:Nat×Hp=>[(87,.int .i64 (y.1:Int))]) (fun y=>y.2) (fun y=>5-y.1) (fun y=>y.1≤5∧StS k pid sp c A now y.2) (0,H5) ⟨Nat.zero_le _,hS5⟩ ?_
    rintro⟨j,H7⟩ ⟨hj,hS7⟩
    dsimp only at hj hS7 ⊢
    by_cases hj5:j<5
    ·obtain⟨u7,hu7,hr7⟩:=hN.2 j hj5
     have hu71:=hr7.one
     (refine W.k ?_;repeat intro b_)
     refine aG (hS7.read hk hj5) ?_
     rintro _ _ ⟨v7,Hr7,H8,rfl,h7,hS8,rfl⟩
     have h71:=h7.isOne
     (refine W.k ?_;repeat intro b_)
     (refine SW.l [] [0] ?_;(first|refine dN 1 rfl (Pu.t (lE rfl rfl rfl rfl) (by dsimp only [oJ];first|done|omega)) ?_;refine SG.l [2,3] ?_;(first|refine cR 4 rfl ?_|refine pU h7 4 [] rfl ?_);refine SG.l [5,6,7] ?_;(first|refine cR 8 rfl ?_|refine mD hr7 8 [] rfl ?_);(first|refine cR 9 rfl ?_|refine dN 9 rfl (pX rfl rfl rfl rfl) ?_);refine SG.l [10,11] ?_|refine dN 1 rfl (Pu.f (lE rfl rfl rfl rfl) (by dsimp only [oJ];first|done|omega)) ?_;refine SG.l [2,3] ?_;(first|refine cR 4 rfl ?_|refine pU h7 4 [] rfl ?_);refine SG.l [5,6,7] ?_;(first|refine cR 8 rfl ?_|refine mD hr7 8 [] rfl ?_);(first|refine cR 9 rfl ?_|refine dN 9 rfl (pX rfl rfl rfl rfl) ?_);refine SG.l [10,11] ?_|(refine SS.cs 1 rfl (lE rfl rfl rfl rfl) (fun h_=>?_) (fun h_=>?_) <;> dsimp only [oJ] at h_ <;> (refine SG.l [2,3] ?_;(first|refine cR 4 rfl ?_|refine pU h7 4 [] rfl ?_);refine SG.l [5,6,7] ?_;(first|refine cR 8 rfl ?_|refine mD hr7 8 [] rfl ?_);(first|refine cR 9 rfl ?_|refine dN 9 rfl (pX rfl rfl rfl rfl) ?_);refine SG.l [10,11] ?_))))
     (refine W.k ?_;repeat intro b_)
     refine aQ.mk (j+1,H8) ?_
     exact⟨by dsimp only;omega,hS8⟩
    ·obtain rfl:j=5:=by omega
     (refine W.k ?_;repeat intro b_)
     refine aQ.mk ⟨ii+1,c,A,now,us,HN,H7⟩ ?_
     exact⟨by dsimp only;omega,by dsimp only;omega,hN,hS7⟩
 ·obtain rfl:ii=len:=by omega
  (refine W.k ?_;repeat intro b_)
  refine W.cw pJ ?_;repeat intro b_
  refine Fin.to [] ?_
  exact F.f1 rfl
end
section
theorem aNu(a:Int×Int×Int):acQ (ac a):=⟨⟨_,rfl⟩,⟨_,rfl⟩,⟨_,rfl⟩,rfl⟩
attribute [local irreducible] SW SL SQ SH SA SS Pu Fin bZ aQ
theorem Rd.at1{w:World}{v:Value}{ys:List Value}(h:Rd [] w 1 v ys):∃ (a:Option Addr) (cap:Nat),v=.slice a ys.length cap∧ys.length≤cap∧∀ (i:Nat) (x:Value),ys[i]?=some x→∃ (b o:Nat) (l:List Value) (T:TypeId) (fz:Nat×Nat),a=some ⟨b,o,none⟩∧w.heap[b]?=some (.cells l.toArray T fz)∧b∉([]:List Nat)∧l[o+i]?=some x:=by
 obtain⟨a,len,cap,rfl,h1,h2,h3⟩:=h.get
 rw [Nat.mul_one] at h1
 subst h1
 refine⟨a,cap,rfl,h2,fun i x hx=>?_⟩
 have hlt:=(aE.1 hx).1
 obtain⟨b,o,l,T,fz,rfl,hb,hk,hy⟩:=h3 oQ
 exact⟨b,o,l,T,fz,rfl,hb,hk,xM hy hx⟩
theorem Rd.atU{w:World}{v:Value}{bs:List UInt8}(h:Rd [] w 1 v (cbs bs)):∃ (a:Option Addr) (cap:Nat),v=.slice a bs.length cap∧bs.length≤cap∧∀ (i:Nat) (x:UInt8),bs[i]?=some x→∃ (b o:Nat) (l:List Value) (T:TypeId) (fz:Nat×Nat),a=some ⟨b,o,none⟩∧w.heap[b]?=some (.cells l.toArray T fz)∧b∉([]:List Nat)∧l[o+i]?=some (.int .u8 (x.toNat:Int)):=by
 obtain⟨a,cap,e,h1,h2⟩:=h.at1
 rw [aI] at e h1
 refine⟨a,cap,e,h1,fun i x hx=>h2 i _ ?_⟩
 unfold cbs
 rw [aH,hx]
 rfl
def tC(n:Nat):List Int:=(List.range n).map fun j:Nat=>(j:Int)
theorem mQ(n:Nat):tC (n+1)=tC n++[(n:Int)]:=by unfold tC;rw [bR,aL];rfl
theorem pN(n:Nat):(tC n).length=n:=by unfold tC;simp
theorem aDD{n:Nat}{l:List Ent}(hf:l.map Prod.fst=tC n)(h256:∀ x∈l,x.2.length=256)(h1:1≤n)(h4:n≤4):gV 3 4 l=true:=by
 have hl:l.length=n:=by have:=congrArg List.length hf;rwa [aD,pN] at this
 have key:∀ (l:List Ent) (a m:Nat),l.map Prod.fst=((List.range' a m).map fun j:Nat=>(j:Int))→a+m≤5→(∀ x∈l,x.2.length=256)→oM 3 ((a:Int)-1) l=true:=fun l=>by
  induction l with
  | nil=>intro a m _ _ _;rfl
  | cons x r ih=>
   intro a m hf hm h256
   cases m with
   | zero=>cases hf
   | succ m=>
    rw [List.range'_succ,dK,dK,gP] at hf
    obtain⟨e1,e2⟩:=hf
    unfold oM
    have:=ih (a+1) m e2 oQ (fun y hy=>h256 y (cX _ hy))
    rw [show (((a+1:Nat):Int)-1)=x.1 by rw [e1];omega] at this
    rw [this,Bool.and_true,decide_eq_true_iff]
    refine⟨by rw [e1];omega,?_,h256 x (gN ..)⟩
    rw [e1]
    show (a:Int)<((5:Nat):Int)
    omega
 unfold gV
 rw [decide_eq_true (show 1≤l.length∧l.length≤4 by omega),jA]
 exact key l 0 n (by rw [hf];unfold tC;rw [List.range_eq_range']) oQ h256
theorem StS.alen{k:List UInt8}{i:Pid}{sp:Nat}{c:Int}{A:Acs}{now:Nat→List UInt8}{H:Hp}(hS:StS k i sp c A now H):A.length≤16384:=by
 obtain⟨σ,r,x,sr,β,B,R,Hd,Hs,Hk,HS,⟨hO,-⟩,-,-,-,-,-,-,-,rfl,-⟩:=hS
 exact hO.a
theorem oD(K:Int)(a:Option Addr)(n c:Nat):(List.take (0*2) (zs [Value.int .i64 0,.slice none 0 0] 1)++vl (.agg (List.take 1 (List.take 0 [Value.int .i64 0,.slice none 0 0]++vl (.int .i64 K)++List.drop (0+1) [Value.int .i64 0,.slice none 0 0])++vl (.slice a n c)++List.drop (1+1) (List.take 0 [Value.int .i64 0,.slice none 0 0]++vl (.int .i64 K)++List.drop (0+1) [Value.int .i64 0,.slice none 0 0])).toArray)++List.drop (0*2+2) (zs [Value.int .i64 0,.slice none 0 0] 1))=[.int .i64 K,.slice a n c]:=rfl
theorem aLu{A:Acs}{j:Nat}(h:j<A.length)(junk:List Value):((A.flatMap ac++junk).drop (j*3)).take 3=ac A[j]:=by
 have hL:∀ y∈A.map ac,y.length=3:=fun y hy=>by
  obtain⟨x,-,rfl⟩:=bJ.1 hy
  rfl
 have hg:=rK (n:=3) hL (i:=j) (x:=ac A[j]) (by rw [aH,aA h];rfl)
 have hfl:(A.flatMap ac).length=A.length*3:=nE ac 3 _ (fun x _=>rfl)
 rw [fF,cD (by rw [← fF];omega),bU (by rw [bE,← fF];omega)]
 exact hg
structure AS where
 i:Nat
 c:Int
 A:Acs
 nowp:Nat→List UInt8
 nowq:Nat→List UInt8
 HP:Hp
 HQ:Hp
structure LS where
 j:Nat
 lvx:Value
 usx:List Value
 lx:List Ent
 HX:Hp
 HQX:Hp
 lvy:Value
 usy:List Value
 ly:List Ent
 HY:Hp
 HQY:Hp
abbrev aN0:List UInt8:=9::List.replicate 15 0
theorem aDg(k:List UInt8)(hk:k.length=16)(kv av bv:Value)(ks:List Int)(sA sB:List UInt8)(hks:ks.length≤maxLen) :
  Tri prog 5 [.agg (cbs k).toArray,kv,av,bv] [] (fun w=>Rd [] w 1 kv (ks.map fun k:Int=>(.int .i64 k:Value))∧Rd [] w 1 av (cbs sA)∧Rd [] w 1 bv (cbs sB)) (fun v H=>v=.bool true):=by
 refine Tri.mk func5 rfl ntmps5 rfl fun w hw=>?_
 obtain⟨hk1,ha1,hb1⟩:=hw
 obtain⟨ka,kc,rfl,hkc,hkat⟩:=hk1.at1
 obtain⟨aa,acp,rfl,hac,haat⟩:=ha1.atU
 obtain⟨ba,bcp,rfl,hbc,hbat⟩:=hb1.atU
 rw [aD] at hkc ⊢
 have hml:ks.length≤9223372036854775807:=fA hks dQ
 have hk0:(cbs k).length=16:=by rw [aI];exact hk
 have hk9:aN0.length=16:=rfl
 have hbk:bS (fun i=>some (i*1,1)) (List.replicate 16 (.int .u8 0)) [(0,.int .u8 9)]=some (cbs aN0):=rfl
 generalize aN0=k9 at *
 (refine W.k ?_;repeat intro b_)
 refine aG (xO k hk) ?_
 rintro _ _ ⟨pp,rfl,pid,sp,rv,σ,r,x,sr,β,B,R,Hd,Hs,Hk,HS,hD,hS,hBk,hSt,orv,hr,hc,hx,hKt,hA,hβ,rfl⟩
 have hSP:StS k pid sp 3 aBO (fun _=>List.replicate 256 0) ((pid.tr,cl (trc pid.d r) 201)::(Hd++(Hs++(Hk++HS)))):=⟨σ,r,x,sr,_,B,R,Hd,Hs,Hk,HS,hD,hS,hBk,hSt,hr,hc,hx,hKt,hA.1,rfl⟩
 clear hKt hA hβ hr hc hx hD hS hBk hSt
 generalize (pid.tr,cl (trc pid.d r) 201)::(Hd++(Hs++(Hk++HS)))=H0 at *
 (refine W.k ?_;repeat intro b_)
 refine aG (xO k9 hk9) ?_
 rintro _ _ ⟨qq,rfl,qid,sq,rvq,σ,r,x,sr,β,B,R,Hd,Hs,Hk,HS,hD,hS,hBk,hSt,orvq,hr,hc,hx,hKt,hA,hβ,rfl⟩
 have hSQ:StS k9 qid sq 3 aBO (fun _=>List.replicate 256 0) ((qid.tr,cl (trc qid.d r) 201)::(Hd++(Hs++(Hk++HS)))):=⟨σ,r,x,sr,_,B,R,Hd,Hs,Hk,HS,hD,hS,hBk,hSt,hr,hc,hx,hKt,hA.1,rfl⟩
 clear hKt hA hβ hr hc hx hD hS hBk hSt
 generalize (qid.tr,cl (trc qid.d r) 201)::(Hd++(Hs++(Hk++HS)))=H1 at *
 generalize aBO=A0 at *
 generalize List.replicate 256 (0:UInt8)=z at *
 (refine W.j ?_;repeat intro b_)
 refine bW [9,11] (H0++H1) (fun _:AS=>[]) (fun y=>y.HP++y.HQ) (fun y=>StS k pid sp y.c y.A y.nowp y.HP∧StS k9 qid sq y.c y.A y.nowq y.HQ) ?_ ?_
 ·(refine W.k ?_;repeat intro b_)
  refine bF [2,3,9,11,53,54] (fun y:AS=>[(55,.int .i64 (y.i:Int))]) (fun y=>y.HP++y.HQ) (fun y=>ks.length-y.i) (fun y=>y.i≤ks.length∧y.c≤3+y.i∧StS k pid sp y.c y.A y.nowp y.HP∧StS k9 qid sq y.c y.A y.nowq y.HQ) ⟨0,3,A0,fun _=>z,fun _=>z,H0,H1⟩ ⟨Nat.zero_le _,by dsimp only;omega,hSP,hSQ⟩ ?_
  clear hSP hSQ
  rintro⟨ii,c,A,nowp,nowq,HP,HQ⟩ ⟨hi,hc,hSP,hSQ⟩
  dsimp only at hi hc hSP hSQ ⊢
  by_cases hil:ii<ks.length
  ·have hx0:=aA hil
   obtain⟨kb,ko,kl,kT,kfz,rfl,hkb,hkk,hkv⟩:=hkat ii _ (by rw [aH,hx0];rfl)
   generalize ks[ii]=nn at *
   by_cases h8:8≤ii
   ·(refine W.k ?_;repeat intro b_)
    refine bZ.mk ⟨ii,c,A,nowp,nowq,HP,HQ⟩ ?_
    exact⟨hSP,hSQ⟩
   ·obtain⟨n,hn3,hU⟩:=aPd nn 3 dQ
    have hba:bS (fun i=>[(0,1),(1,1),(2,1),(3,1),(4,1),(5,1),(6,1),(7,1),(8,1)][i]?) ([.int .i64 0]++[.slice none 0 0]++[.bool false]++[.int .i64 0,.int .i64 0,.int .i64 0]++[.slice none 0 0]++[.bool false]++[.slice none 0 0]) [(2,.bool true)]=some (lX.c ⟨0,(.slice none 0 0),true,0,0,0,.slice none 0 0,false,.slice none 0 0⟩):=rfl
    (refine W.j ?_;repeat intro b_)
    refine SW.block ?_
    (refine W.j ?_;repeat intro b_)
    rename_i xb
    generalize b_=yb
    refine bW [2,3,9,11,15,16,53,54,55] [(yb,cl (lX.c ⟨0,(.slice none 0 0),true,0,0,0,.slice none 0 0,false,.slice none 0 0⟩) 67),(xb,cl (lX.c ⟨0,(.slice none 0 0),true,0,0,0,.slice none 0 0,false,.slice none 0 0⟩) 67)] (fun _:LS=>[]) (fun y=>(xb,cl (lX.c ⟨0,y.lvx,true,0,0,0,.slice none 0 0,false,.slice none 0 0⟩) 67)::(yb,cl (lX.c ⟨0,y.lvy,true,0,0,0,.slice none 0 0,false,.slice none 0 0⟩) 67)::(y.HX++(y.HQX++(y.HY++y.HQY)))) (fun y=>Sl 72 2 y.lvx (eW y.usx y.lx) y.HX∧RB y.HQX y.usx (y.lx.map Prod.snd)∧y.lx.map Prod.fst=tC (n+1)∧Sl 72 2 y.lvy (eW y.usy y.ly) y.HY∧RB y.HQY y.usy (y.ly.map Prod.snd)∧y.ly.map Prod.fst=tC (n+1)) ?_ ?_
    ·(refine W.k ?_;repeat intro b_)
     refine bF [2,3,9,11,13,14,15,16,53,54,55] (fun y:LS=>[(17,.int .i64 (y.j:Int))]) (fun y=>(xb,cl (lX.c ⟨0,y.lvx,true,0,0,0,.slice none 0 0,false,.slice none 0 0⟩) 67)::(yb,cl (lX.c ⟨0,y.lvy,true,0,0,0,.slice none 0 0,false,.slice none 0 0⟩) 67)::(y.HX++(y.HQX++(y.HY++y.HQY)))) (fun y=>n+1-y.j) (fun y=>y.j≤n+1∧Sl 72 2 y.lvx (eW y.usx y.lx) y.HX∧RB y.HQX y.usx (y.lx.map Prod.snd)∧y.lx.map Prod.fst=tC y.j∧Sl 72 2 y.lvy (eW y.usy y.ly) y.HY∧RB y.HQY y.usy (y.ly.map Prod.snd)∧y.ly.map Prod.fst=tC y.j) ⟨0,.slice none 0 0,[],[],[],[],.slice none 0 0,[],[],[],[]⟩ ⟨Nat.zero_le _,Sl.nil _ _,RB.nil _,rfl,Sl.nil _ _,RB.nil _,rfl⟩ ?_
     rintro⟨j,lvx,usx,lx,HX,HQX,lvy,usy,ly,HY,HQY⟩ ⟨hj,hX,hRX,hfx,hY,hRY,hfy⟩
     dsimp only at hj hX hRX hfx hY hRY hfy ⊢
     have oX:=hX.isOne
     have oY:=hY.isOne
     have hlx:lx.length=j:=by have:=congrArg List.length hfx;rwa [aD,pN] at this
     have hly:ly.length=j:=by have:=congrArg List.length hfy;rwa [aD,pN] at this
     have hulx:usx.length=lx.length:=by rw [hRX.1,aD]
     have huly:usy.length=ly.length:=by rw [hRY.1,aD]
     have hexl:=gE usx lx hulx
     have heyl:=gE usy ly huly
     by_cases hjn:j≤n
     ·by_cases hla:0<sA.length
      ·by_cases hlb:0<sB.length
       ·skip
        obtain⟨ab,ao,al,aT,afz,rfl,hab,hak,hav⟩:=haat ((ii+j)%sA.length) _ (aA (Nat.mod_lt _ oQ))
        have ham:=Nat.mod_lt (ii+j) (show 0<sA.length by omega)
        haveI:eC (((ii:Int)+(j:Int))%(sA.length:Int)) ((ii+j)%sA.length):=⟨by simp⟩
        generalize sA[(ii+j)%sA.length]=u at *
        obtain⟨bb,bo,bl,bT,bfz,rfl,hbb,hbk,hbv⟩:=hbat ((ii+3*j)%sB.length) _ (aA (Nat.mod_lt _ oQ))
        have hbm:=Nat.mod_lt (ii+3*j) (show 0<sB.length by omega)
        haveI:eC (((ii:Int)+3*(j:Int))%(sB.length:Int)) ((ii+3*j)%sB.length):=⟨by simp⟩
        generalize sB[(ii+3*j)%sB.length]=v at *
        have hb2:bS (fun i=>some (i*1,1)) (zs [.int .u8 0] 2) [(0,.int .u8 (u.toNat:Int)),(1,.int .u8 1)]=some (cbs [u,1]):=rfl
        have hb1:bS (fun i=>some (i*1,1)) (zs [.int .u8 0] 1) [(0,.int .u8 (v.toNat:Int))]=some (cbs [v]):=rfl
        (refine W.k ?_;repeat intro b_)
        rw [oD]
        rename_i bx
        generalize b_=ex
        refine W.ap (ys:=[.int .i64 (j:Int),.slice (some ⟨bx,0,none⟩) 2 2]) (mm:=1) hX (fun w2 hs=>(Sl.own 72 2 ex (len:=1) (xs:=[.int .i64 (j:Int),.slice (some ⟨bx,0,none⟩) 2 2]) rfl).srcAt hs inferInstance) (fun lvx2 HX2 hX2=>?_) (hys:=rfl) (hbytes:=by rw [hexl,hlx];simp;omega)
        have oX2:=hX2.isOne
        have hLx:=iD hulx (.slice (some ⟨bx,0,none⟩) 2 2) ((j:Int),[u,1])
        dsimp only at hLx
        rw [← hLx] at hX2
        have hRX2:RB (HQX++[(bx,cl (cbs [u,1]) 5)]) (usx++[.slice (some ⟨bx,0,none⟩) 2 2]) ((lx++[((j:Int),[u,1])]).map Prod.snd):=by
         rw [aL]
         exact (hRX.mono fun y hy=>aN _ hy).snoc ((RdH.of (Sl.own 5 1 bx (len:=2) (xs:=cbs [u,1]) rfl)).mono fun y hy=>aM _ hy)
        (refine W.k ?_;repeat intro b_)
        rw [oD]
        rename_i by1
        generalize b_=ey
        rw [show ((lX.c ⟨0,lvx,true,0,0,0,.slice none 0 0,false,.slice none 0 0⟩)).set 1 lvx2=(lX.c ⟨0,lvx2,true,0,0,0,.slice none 0 0,false,.slice none 0 0⟩) from rfl]
        refine W.ap (ys:=[.int .i64 (j:Int),.slice (some ⟨by1,0,none⟩) 1 1]) (mm:=1) hY (fun w2 hs=>(Sl.own 72 2 ey (len:=1) (xs:=[.int .i64 (j:Int),.slice (some ⟨by1,0,none⟩) 1 1]) rfl).srcAt hs inferInstance) (fun lvy2 HY2 hY2=>?_) (hys:=rfl) (hbytes:=by rw [heyl,hly];simp;omega)
        have oY2:=hY2.isOne
        have hLy:=iD huly (.slice (some ⟨by1,0,none⟩) 1 1) ((j:Int),[v])
        dsimp only at hLy
        rw [← hLy] at hY2
        have hRY2:RB (HQY++[(by1,cl (cbs [v]) 5)]) (usy++[.slice (some ⟨by1,0,none⟩) 1 1]) ((ly++[((j:Int),[v])]).map Prod.snd):=by
         rw [aL]
         exact (hRY.mono fun y hy=>aN _ hy).snoc ((RdH.of (Sl.own 5 1 by1 (len:=1) (xs:=cbs [v]) rfl)).mono fun y hy=>aM _ hy)
        (refine W.k ?_;repeat intro b_)
        rw [show ((lX.c ⟨0,lvy,true,0,0,0,.slice none 0 0,false,.slice none 0 0⟩)).set 1 lvy2=(lX.c ⟨0,lvy2,true,0,0,0,.slice none 0 0,false,.slice none 0 0⟩) from rfl]
        refine aQ.mk ⟨j+1,lvx2,usx++[.slice (some ⟨bx,0,none⟩) 2 2],lx++[((j:Int),[u,1])],HX2,HQX++[(bx,cl (cbs [u,1]) 5)],lvy2,usy++[.slice (some ⟨by1,0,none⟩) 1 1],ly++[((j:Int),[v])],HY2,HQY++[(by1,cl (cbs [v]) 5)]⟩ ?_
        exact⟨by dsimp only;omega,hX2,hRX2,by dsimp only;rw [aL,hfx,mQ];rfl,hY2,hRY2,by dsimp only;rw [aL,hfy,mQ];rfl⟩
       ·skip
        obtain⟨ab,ao,al,aT,afz,rfl,hab,hak,hav⟩:=haat ((ii+j)%sA.length) _ (aA (Nat.mod_lt _ oQ))
        have ham:=Nat.mod_lt (ii+j) (show 0<sA.length by omega)
        haveI:eC (((ii:Int)+(j:Int))%(sA.length:Int)) ((ii+j)%sA.length):=⟨by simp⟩
        generalize sA[(ii+j)%sA.length]=u at *
        have hb2:bS (fun i=>some (i*1,1)) (zs [.int .u8 0] 2) [(0,.int .u8 (u.toNat:Int)),(1,.int .u8 1)]=some (cbs [u,1]):=rfl
        have hb1:bS (fun i=>some (i*1,1)) (zs [.int .u8 0] 1) [(0,.int .u8 0)]=some (cbs [(0:UInt8)]):=rfl
        (refine W.k ?_;repeat intro b_)
        rw [oD]
        rename_i bx
        generalize b_=ex
        refine W.ap (ys:=[.int .i64 (j:Int),.slice (some ⟨bx,0,none⟩) 2 2]) (mm:=1) hX (fun w2 hs=>(Sl.own 72 2 ex (len:=1) (xs:=[.int .i64 (j:Int),.slice (some ⟨bx,0,none⟩) 2 2]) rfl).srcAt hs inferInstance) (fun lvx2 HX2 hX2=>?_) (hys:=rfl) (hbytes:=by rw [hexl,hlx];simp;omega)
        have oX2:=hX2.isOne
        have hLx:=iD hulx (.slice (some ⟨bx,0,none⟩) 2 2) ((j:Int),[u,1])
        dsimp only at hLx
        rw [← hLx] at hX2
        have hRX2:RB (HQX++[(bx,cl (cbs [u,1]) 5)]) (usx++[.slice (some ⟨bx,0,none⟩) 2 2]) ((lx++[((j:Int),[u,1])]).map Prod.snd):=by
         rw [aL]
         exact (hRX.mono fun y hy=>aN _ hy).snoc ((RdH.of (Sl.own 5 1 bx (len:=2) (xs:=cbs [u,1]) rfl)).mono fun y hy=>aM _ hy)
        (refine W.k ?_;repeat intro b_)
        rw [oD]
        rename_i by1
        generalize b_=ey
        rw [show ((lX.c ⟨0,lvx,true,0,0,0,.slice none 0 0,false,.slice none 0 0⟩)).set 1 lvx2=(lX.c ⟨0,lvx2,true,0,0,0,.slice none 0 0,false,.slice none 0 0⟩) from rfl]
        refine W.ap (ys:=[.int .i64 (j:Int),.slice (some ⟨by1,0,none⟩) 1 1]) (mm:=1) hY (fun w2 hs=>(Sl.own 72 2 ey (len:=1) (xs:=[.int .i64 (j:Int),.slice (some ⟨by1,0,none⟩) 1 1]) rfl).srcAt hs inferInstance) (fun lvy2 HY2 hY2=>?_) (hys:=rfl) (hbytes:=by rw [heyl,hly];simp;omega)
        have oY2:=hY2.isOne
        have hLy:=iD huly (.slice (some ⟨by1,0,none⟩) 1 1) ((j:Int),[(0:UInt8)])
        dsimp only at hLy
        rw [← hLy] at hY2
        have hRY2:RB (HQY++[(by1,cl (cbs [(0:UInt8)]) 5)]) (usy++[.slice (some ⟨by1,0,none⟩) 1 1]) ((ly++[((j:Int),[(0:UInt8)])]).map Prod.snd):=by
         rw [aL]
         exact (hRY.mono fun y hy=>aN _ hy).snoc ((RdH.of (Sl.own 5 1 by1 (len:=1) (xs:=cbs [(0:UInt8)]) rfl)).mono fun y hy=>aM _ hy)
        (refine W.k ?_;repeat intro b_)
        rw [show ((lX.c ⟨0,lvy,true,0,0,0,.slice none 0 0,false,.slice none 0 0⟩)).set 1 lvy2=(lX.c ⟨0,lvy2,true,0,0,0,.slice none 0 0,false,.slice none 0 0⟩) from rfl]
        refine aQ.mk ⟨j+1,lvx2,usx++[.slice (some ⟨bx,0,none⟩) 2 2],lx++[((j:Int),[u,1])],HX2,HQX++[(bx,cl (cbs [u,1]) 5)],lvy2,usy++[.slice (some ⟨by1,0,none⟩) 1 1],ly++[((j:Int),[(0:UInt8)])],HY2,HQY++[(by1,cl (cbs [(0:UInt8)]) 5)]⟩ ?_
        exact⟨by dsimp only;omega,hX2,hRX2,by dsimp only;rw [aL,hfx,mQ];rfl,hY2,hRY2,by dsimp only;rw [aL,hfy,mQ];rfl⟩
      ·by_cases hlb:0<sB.length
       ·skip
        obtain⟨bb,bo,bl,bT,bfz,rfl,hbb,hbk,hbv⟩:=hbat ((ii+3*j)%sB.length) _ (aA (Nat.mod_lt _ oQ))
        have hbm:=Nat.mod_lt (ii+3*j) (show 0<sB.length by omega)
        haveI:eC (((ii:Int)+3*(j:Int))%(sB.length:Int)) ((ii+3*j)%sB.length):=⟨by simp⟩
        generalize sB[(ii+3*j)%sB.length]=v at *
        have hb2:bS (fun i=>some (i*1,1)) (zs [.int .u8 0] 2) [(0,.int .u8 0),(1,.int .u8 1)]=some (cbs [(0:UInt8),1]):=rfl
        have hb1:bS (fun i=>some (i*1,1)) (zs [.int .u8 0] 1) [(0,.int .u8 (v.toNat:Int))]=some (cbs [v]):=rfl
        (refine W.k ?_;repeat intro b_)
        rw [oD]
        rename_i bx
        generalize b_=ex
        refine W.ap (ys:=[.int .i64 (j:Int),.slice (some ⟨bx,0,none⟩) 2 2]) (mm:=1) hX (fun w2 hs=>(Sl.own 72 2 ex (len:=1) (xs:=[.int .i64 (j:Int),.slice (some ⟨bx,0,none⟩) 2 2]) rfl).srcAt hs inferInstance) (fun lvx2 HX2 hX2=>?_) (hys:=rfl) (hbytes:=by rw [hexl,hlx];simp;omega)
        have oX2:=hX2.isOne
        have hLx:=iD hulx (.slice (some ⟨bx,0,none⟩) 2 2) ((j:Int),[(0:UInt8),1])
        dsimp only at hLx
        rw [← hLx] at hX2
        have hRX2:RB (HQX++[(bx,cl (cbs [(0:UInt8),1]) 5)]) (usx++[.slice (some ⟨bx,0,none⟩) 2 2]) ((lx++[((j:Int),[(0:UInt8),1])]).map Prod.snd):=by
         rw [aL]
         exact (hRX.mono fun y hy=>aN _ hy).snoc ((RdH.of (Sl.own 5 1 bx (len:=2) (xs:=cbs [(0:UInt8),1]) rfl)).mono fun y hy=>aM _ hy)
        (refine W.k ?_;repeat intro b_)
        rw [oD]
        rename_i by1
        generalize b_=ey
        rw [show ((lX.c ⟨0,lvx,true,0,0,0,.slice none 0 0,false,.slice none 0 0⟩)).set 1 lvx2=(lX.c ⟨0,lvx2,true,0,0,0,.slice none 0 0,false,.slice none 0 0⟩) from rfl]
        refine W.ap (ys:=[.int .i64 (j:Int),.slice (some ⟨by1,0,none⟩) 1 1]) (mm:=1) hY (fun w2 hs=>(Sl.own 72 2 ey (len:=1) (xs:=[.int .i64 (j:Int),.slice (some ⟨by1,0,none⟩) 1 1]) rfl).srcAt hs inferInstance) (fun lvy2 HY2 hY2=>?_) (hys:=rfl) (hbytes:=by rw [heyl,hly];simp;omega)
        have oY2:=hY2.isOne
        have hLy:=iD huly (.slice (some ⟨by1,0,none⟩) 1 1) ((j:Int),[v])
        dsimp only at hLy
        rw [← hLy] at hY2
        have hRY2:RB (HQY++[(by1,cl (cbs [v]) 5)]) (usy++[.slice (some ⟨by1,0,none⟩) 1 1]) ((ly++[((j:Int),[v])]).map Prod.snd):=by
         rw [aL]
         exact (hRY.mono fun y hy=>aN _ hy).snoc ((RdH.of (Sl.own 5 1 by1 (len:=1) (xs:=cbs [v]) rfl)).mono fun y hy=>aM _ hy)
        (refine W.k ?_;repeat intro b_)
        rw [show ((lX.c ⟨0,lvy,true,0,0,0,.slice none 0 0,false,.slice none 0 0⟩)).set 1 lvy2=(lX.c ⟨0,lvy2,true,0,0,0,.slice none 0 0,false,.slice none 0 0⟩) from rfl]
        refine aQ.mk ⟨j+1,lvx2,usx++[.slice (some ⟨bx,0,none⟩) 2 2],lx++[((j:Int),[(0:UInt8),1])],HX2,HQX++[(bx,cl (cbs [(0:UInt8),1]) 5)],lvy2,usy++[.slice (some ⟨by1,0,none⟩) 1 1],ly++[((j:Int),[v])],HY2,HQY++[(by1,cl (cbs [v]) 5)]⟩ ?_
        exact⟨by dsimp only;omega,hX2,hRX2,by dsimp only;rw [aL,hfx,mQ];rfl,hY2,hRY2,by dsimp only;rw [aL,hfy,mQ];rfl⟩
       ·skip
        have hb2:bS (fun i=>some (i*1,1)) (zs [.int .u8 0] 2) [(0,.int .u8 0),(1,.int .u8 1)]=some (cbs [(0:UInt8),1]):=rfl
        have hb1:bS (fun i=>some (i*1,1)) (zs [.int .u8 0] 1) [(0,.int .u8 0)]=some (cbs [(0:UInt8)]):=rfl
        (refine W.k ?_;repeat intro b_)
        rw [oD]
        rename_i bx
        generalize b_=ex
        refine W.ap (ys:=[.int .i64 (j:Int),.slice (some ⟨bx,0,none⟩) 2 2]) (mm:=1) hX (fun w2 hs=>(Sl.own 72 2 ex (len:=1) (xs:=[.int .i64 (j:Int),.slice (some ⟨bx,0,none⟩) 2 2]) rfl).srcAt hs inferInstance) (fun lvx2 HX2 hX2=>?_) (hys:=rfl) (hbytes:=by rw [hexl,hlx];simp;omega)
        have oX2:=hX2.isOne
        have hLx:=iD hulx (.slice (some ⟨bx,0,none⟩) 2 2) ((j:Int),[(0:UInt8),1])
        dsimp only at hLx
        rw [← hLx] at hX2
        have hRX2:RB (HQX++[(bx,cl (cbs [(0:UInt8),1]) 5)]) (usx++[.slice (some ⟨bx,0,none⟩) 2 2]) ((lx++[((j:Int),[(0:UInt8),1])]).map Prod.snd):=by
         rw [aL]
         exact (hRX.mono fun y hy=>aN _ hy).snoc ((RdH.of (Sl.own 5 1 bx (len:=2) (xs:=cbs [(0:UInt8),1]) rfl)).mono fun y hy=>aM _ hy)
        (refine W.k ?_;repeat intro b_)
        rw [oD]
        rename_i by1
        generalize b_=ey
        rw [show ((lX.c ⟨0,lvx,true,0,0,0,.slice none 0 0,false,.slice none 0 0⟩)).set 1 lvx2=(lX.c ⟨0,lvx2,true,0,0,0,.slice none 0 0,false,.slice none 0 0⟩) from rfl]
        refine W.ap (ys:=[.int .i64 (j:Int),.slice (some ⟨by1,0,none⟩) 1 1]) (mm:=1) hY (fun w2 hs=>(Sl.own 72 2 ey (len:=1) (xs:=[.int .i64 (j:Int),.slice (some ⟨by1,0,none⟩) 1 1]) rfl).srcAt hs inferInstance) (fun lvy2 HY2 hY2=>?_) (hys:=rfl) (hbytes:=by rw [heyl,hly];simp;omega)
        have oY2:=hY2.isOne
        have hLy:=iD huly (.slice (some ⟨by1,0,none⟩) 1 1) ((j:Int),[(0:UInt8)])
        dsimp only at hLy
        rw [← hLy] at hY2
        have hRY2:RB (HQY++[(by1,cl (cbs [(0:UInt8)]) 5)]) (usy++[.slice (some ⟨by1,0,none⟩) 1 1]) ((ly++[((j:Int),[(0:UInt8)])]).map Prod.snd):=by
         rw [aL]
         exact (hRY.mono fun y hy=>aN _ hy).snoc ((RdH.of (Sl.own 5 1 by1 (len:=1) (xs:=cbs [(0:UInt8)]) rfl)).mono fun y hy=>aM _ hy)
        (refine W.k ?_;repeat intro b_)
        rw [show ((lX.c ⟨0,lvy,true,0,0,0,.slice none 0 0,false,.slice none 0 0⟩)).set 1 lvy2=(lX.c ⟨0,lvy2,true,0,0,0,.slice none 0 0,false,.slice none 0 0⟩) from rfl]
        refine aQ.mk ⟨j+1,lvx2,usx++[.slice (some ⟨bx,0,none⟩) 2 2],lx++[((j:Int),[(0:UInt8),1])],HX2,HQX++[(bx,cl (cbs [(0:UInt8),1]) 5)],lvy2,usy++[.slice (some ⟨by1,0,none⟩) 1 1],ly++[((j:Int),[(0:UInt8)])],HY2,HQY++[(by1,cl (cbs [(0:UInt8)]) 5)]⟩ ?_
        exact⟨by dsimp only;omega,hX2,hRX2,by dsimp only;rw [aL,hfx,mQ];rfl,hY2,hRY2,by dsimp only;rw [aL,hfy,mQ];rfl⟩
     ·obtain rfl:j=n+1:=by omega
      (refine W.k ?_;repeat intro b_)
      refine bZ.mk ⟨n+1,lvx,usx,lx,HX,HQX,lvy,usy,ly,HY,HQY⟩ ?_
      exact⟨hX,hRX,hfx,hY,hRY,hfy⟩
    rintro⟨j0,lvx,usx,lx,HX,HQX,lvy,usy,ly,HY,HQY⟩ ⟨hX,hRX,hfx,hY,hRY,hfy⟩
    dsimp only at hX hRX hfx hY hRY hfy ⊢
    have oX:=hX.isOne
    have oY:=hY.isOne
    obtain⟨j,hjn⟩:∃ j,j=n+1:=⟨_,rfl⟩
    rw [← hjn] at hfx hfy
    have hlx:lx.length=j:=by have:=congrArg List.length hfx;rwa [aD,pN] at this
    have hly:ly.length=j:=by have:=congrArg List.length hfy;rwa [aD,pN] at this
    have hulx:usx.length=lx.length:=by rw [hRX.1,aD]
    have huly:usy.length=ly.length:=by rw [hRY.1,aD]
    clear haat hbat hkat ha1 hb1 hk1
    (refine W.k ?_;repeat intro b_)
    (refine SW.l [8,19] [0,1,2,3,4] ?_;refine aX 5 ?_)
    have hcuP:=aDR ⟨0,lvx,true,0,0,0,.slice none 0 0,false,.slice none 0 0⟩ rfl usx lx (by rw [hlx];exact fA (show j≤4 by omega) dQ)
    refine aG hcuP ?_ (hpre:=fun w2 hs=>⟨⟨Rd.own (Hc:=[]) hX hs inferInstance,hulx,fun i x hx=>by
     obtain⟨u,h1,h2⟩:=hRX.2 i x.2 (by rw [aH,hx];rfl)
     exact⟨u,h1,h2.rd (Hc:=[]) hs⟩⟩,⟨[],Rd.nil _ _ _⟩,⟨[],Rd.nil _ _ _⟩⟩)
    rintro _ _ ⟨⟨kdP,lvP,flP,kkP,nP,atP,bvP,wrP,pvP⟩,usP,lP,HOP,HQP,rfl,obP,opP,hOP,hRQP,h26P,h256P,hfP,rfl⟩
    dsimp only at obP opP hOP ⊢
    have oOP:=hOP.isOne
    have hfP2:lP.map Prod.fst=tC j:=by rw [hfP,iA,hfx,aJ (by rw [pN];omega)]
    have henP:=xR lvP usP lP hRQP oQ (fun x hx=>by rw [h256P x hx];decide)
    (refine SL.l [6] ?_;refine aX 7 ?_)
    refine aG henP ?_ (hpre:=fun w2 hs=>Rd.own (Hc:=HQP) hOP hs inferInstance)
    rintro leP _ ⟨us3P,HEP,HQ3P,hL3P,hR3P,rfl⟩
    have oLP:=hL3P.isOne
    (refine bK [] ?_;refine bV 8 ?_)
    refine aG (hSP.commit hk oQ hL3P hR3P oQ) ?_
    rintro _ _ ⟨eP,H5P,rfl,rfl,heP,hCP⟩
    have hmP:=aDD hfP2 h256P oQ oQ
    obtain rfl:eP=0:=heP.2 (.inr hmP)
    have hS5P:=(hCP.resolve_right fun h=>by rw [hmP] at h;cases h.1).2
    rw [hfP2] at hS5P
    (refine SL.l [9,10,11,12,13,14,15] ?_;(first|refine cR 16 rfl ?_;refine SG.l [17] ?_;(first|refine cR 18 rfl ?_;(first|refine cR 19 rfl ?_;refine SG.l [20,21,22] ?_|refine bV 19 ?_)|refine aX 18 ?_)|refine aX 16 ?_))
    have hcuQ:=aDR ⟨0,lvy,true,0,0,0,.slice none 0 0,false,.slice none 0 0⟩ rfl usy ly (by rw [hly];exact fA (show j≤4 by omega) dQ)
    refine aG hcuQ ?_ (hpre:=fun w2 hs=>⟨⟨Rd.own (Hc:=[]) hY hs inferInstance,huly,fun i x hx=>by
     obtain⟨u,h1,h2⟩:=hRY.2 i x.2 (by rw [aH,hx];rfl)
     exact⟨u,h1,h2.rd (Hc:=[]) hs⟩⟩,⟨[],Rd.nil _ _ _⟩,⟨[],Rd.nil _ _ _⟩⟩)
    rintro _ _ ⟨⟨kdQ,lvQ,flQ,kkQ,nQ,atQ,bvQ,wrQ,pvQ⟩,usQ,lQ,HOQ,HQQ,rfl,obQ,opQ,hOQ,hRQQ,h26Q,h256Q,hfQ,rfl⟩
    dsimp only at obQ opQ hOQ ⊢
    have oOQ:=hOQ.isOne
    have hfQ2:lQ.map Prod.fst=tC j:=by rw [hfQ,iA,hfy,aJ (by rw [pN];omega)]
    have henQ:=xR lvQ usQ lQ hRQQ oQ (fun x hx=>by rw [h256Q x hx];decide)
    (refine SL.l [17] ?_;(first|refine cR 18 rfl ?_;(first|refine cR 19 rfl ?_;refine SG.l [20,21,22] ?_|refine bV 19 ?_)|refine aX 18 ?_))
    refine aG henQ ?_ (hpre:=fun w2 hs=>Rd.own (Hc:=HQQ) hOQ hs inferInstance)
    rintro leQ _ ⟨us3Q,HEQ,HQ3Q,hL3Q,hR3Q,rfl⟩
    have oLQ:=hL3Q.isOne
    (refine bK [] ?_;(first|refine cR 19 rfl ?_;refine SG.l [20,21,22] ?_|refine bV 19 ?_))
    refine aG (hSQ.commit hk9 oQ hL3Q hR3Q oQ) ?_
    rintro _ _ ⟨eQ,H5Q,rfl,rfl,heQ,hCQ⟩
    have hmQ:=aDD hfQ2 h256Q oQ oQ
    obtain rfl:eQ=0:=heQ.2 (.inr hmQ)
    have hS5Q:=(hCQ.resolve_right fun h=>by rw [hmQ] at h;cases h.1).2
    rw [hfQ2] at hS5Q
    (refine SL.l [20,21,22] ?_)
    (refine W.k ?_;repeat intro b_)
    refine aQ.mk ⟨ii+1,c+1,mG A (aHo (tC j)),yJ nowp lP,yJ nowq lQ,H5P,H5Q⟩ ?_
    exact⟨by dsimp only;omega,by dsimp only;omega,hS5P,hS5Q⟩
  ·(refine W.k ?_;repeat intro b_)
   refine bZ.mk ⟨ii,c,A,nowp,nowq,HP,HQ⟩ ?_
   exact⟨hSP,hSQ⟩
 rintro⟨ii,c,A,nowp,nowq,HP,HQ⟩ ⟨hSP,hSQ⟩
 dsimp only at hSP hSQ ⊢
 (refine W.k ?_;repeat intro b_)
 have hAl:=hSP.alen
 (refine SW.l [11] [0,1,2,3,4,6,7,8,9,10] ?_;refine aX 5 ?_)
 refine aG hSP.acts ?_
 rintro va _ ⟨Ha,hAa,rfl⟩
 have hfl:(A.flatMap ac).length=A.length*3:=nE ac 3 _ (fun x _=>rfl)
 have hrow:=fun (j:Nat) (h:j<A.length) (junk:List Value)=>aLu h junk
 obtain⟨aa2,al2,ac2,rfl,hal2⟩:=hAa.form
 obtain rfl:al2=A.length:=by omega
 (refine bK [] ?_;refine bV 11 ?_)
 refine aG hSQ.acts ?_
 rintro vb _ ⟨Hb,hAb,rfl⟩
 obtain⟨ab2,bl2,bc2,rfl,hbl2⟩:=hAb.form
 obtain rfl:bl2=A.length:=by omega
 (refine SL.l [12,13,14] ?_)
 (refine W.k ?_;repeat intro b_)
 refine bF [20,21,155] (fun j:Nat=>[(156,.int .i64 (j:Int))]) (fun _=>[]) (fun j=>A.length-j) (fun j=>j≤A.length) 0 (Nat.zero_le _) ?_
 intro j hj
 by_cases hjl:j<A.length
 ·rcases hAa with ⟨hz1,hz2,-⟩|⟨pb1,pl1,pc1,pj1,hz1,-,-,-,rfl⟩
  ·simp only [Value.slice.injEq] at hz1;omega
  rcases hAb with ⟨hy1,hy2,-⟩|⟨pb2,pl2,pc2,pj2,hy1,-,-,-,rfl⟩
  ·simp only [Value.slice.injEq] at hy1;omega
  simp only [Value.slice.injEq] at hz1 hy1
  obtain⟨rfl,rfl,rfl⟩:=hz1
  obtain⟨rfl,-,rfl⟩:=hy1
  have hr1:=hrow j hjl pj1
  have hr2:=hrow j hjl pj2
  have hq:=aNu A[j]
  have hoc:OC (ac A[j]):=by unfold ac;infer_instance
  have hcl:(ac A[j]).length=3:=rfl
  generalize ac A[j]=cc at *
  (refine W.k ?_;repeat intro b_)
  (refine SW.l [] [0,1,2,3,4,5,6,7] ?_;(first|refine dN 8 rfl (p_neS_t rfl rfl rfl (by assumption) (by assumption) (by assumption)) ?_|refine dN 8 rfl (aMb rfl rfl rfl (by assumption) (by assumption) (by first|assumption|rfl)) ?_);refine SS.dn ?_)
  (refine W.k ?_;repeat intro b_)
  refine aQ.mk (j+1) ?_
  exact hjl
 ·(refine W.k ?_;repeat intro b_)
  refine W.cw pJ ?_;repeat intro b_
  refine Fin.to [] ?_
  exact F.f1 rfl
end
section
attribute [local irreducible] SW SL SQ SH SA SS Pu Fin bZ aQ
theorem aG7{b tp:Nat}{s:Bk}{H:Hp}(hB:eR b tp s H):Tri prog 28 [.pointer (some ⟨b,0,none⟩)] H (fun _=>True)
  (fun v H'=>(s.clash=none∧v=.tuple #[.slice none 0 0,.slice none 0 0,.bool false]∧H'=H)∨∃ x y vx vy Hx Hy,s.clash=some (x,y)∧v=.tuple #[vx,vy,.bool true]∧Sl 5 1 vx (cbs x) Hx∧Sl 5 1 vy (cbs y) Hy∧H'=Hx++(Hy++H)):=by
 obtain⟨m,kt,cp,Ht,rfl,hk,hr,hc⟩:=hB
 refine Tri.mk func28 rfl ntmps28 rfl fun w hw=>?_
 cases hcl:s.clash with
 | none=>
  rw [hcl] at hc
  have hcp:cp=none:=hc
  subst hcp
  (refine W.k ?_;repeat intro b_)
  exact F.f3 (.inl ⟨rfl,rfl,rfl⟩)
 | some q=>
  obtain⟨x,y⟩:=q
  rw [hcl] at hc
  obtain⟨c,vx,vy,rfl,hmem,hx,hy,hxl,hyl⟩:=hc
  haveI:At Ht c (cl [vx,vy] 155):=⟨hmem⟩
  have hx1:=hx.one
  have hy1:=hy.one
  (refine W.k ?_;repeat intro b_)
  (refine SW.l [15] [0,1,2,3,4,5,6,8,9,10,11,12,13,14] ?_;refine aX 7 ?_)
  refine aG (sU vx x hxl) ?_ rfl (fun w2 hs=>hx.rd (Hc:=[]) hs)
  intro v1 H1 h1
  have h11:=h1.isOne
  (refine bK [] ?_;refine bV 15 ?_)
  refine aG (sU vy y hyl) ?_ rfl (fun w2 hs=>hy.rd (Hc:=[]) hs)
  intro v2 H2 h2
  have h21:=h2.isOne
  (refine SL.l [16,17,18,19] ?_)
  (refine W.k ?_;repeat intro b_)
  refine Fin.to (H1++(H2++((b,cl (bkc tp m (some ⟨c,0,none⟩)) 153)::(m,mo (kvs kt))::(tp,cl mJ 205)::Ht))) ?_
  exact F.f3 (.inr ⟨x,y,v1,v2,H1,H2,rfl,rfl,h1,h2,rfl⟩)
section
variable {P:Program}{C:Ctx}{Q:Exit→Fr→Hp→Prop}{ρ:Fr}{H:Hp}{L rest:List Oper}{d:Option Tmp}{ty:TypeId}{pos:String}{af:Array Edge}{g:Option (Nat×Bool)}{t t' len:Nat}{d':Option Nat}{x y:Operand}{a b:List UInt8}{o:Oper}
theorem aO8(hk:SL P C L Q rest (pt ρ d' (.bool true)) H)(h:¬ a=b)(hx:ev ρ x=some (.string (yN a)):=by exact rfl)(hy:ev ρ y=some (.string (yN b)):=by exact rfl)(hg:gd L ρ ⟨d,.binOp .neq t x y t',ty,pos,af,g⟩=some true:=by exact rfl)(hd:dk C.n d=some d':=by exact rfl):SL P C L Q (⟨d,.binOp .neq t x y t',ty,pos,af,g⟩::rest) ρ H:=
 aMR (by rw [aAY,decide_eq_false h];exact hk) hx hy hg hd
end
end
end Go.Proofs.YtnhnpjokpelkbaaGreat
