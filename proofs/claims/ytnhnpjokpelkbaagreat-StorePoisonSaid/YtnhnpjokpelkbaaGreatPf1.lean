/- A block that others wrote into is told when it is read: the law of 'garderobelaw15.StorePoison'. -/
import Derived.Test.YtnhnpjokpelkbaaGreatPs45
import Derived.Test.YtnhnpjokpelkbaaGreatPf0
set_option linter.unusedVariables false
set_option linter.unusedSimpArgs false
set_option linter.unusedSectionVars false
set_option maxHeartbeats 4000000
namespace Go.Proofs.YtnhnpjokpelkbaaGreat
open Go Go.Proofs.Tryz
section
attribute [local irreducible] SW SL SQ SH SA SS Pu Fin bZ aQ
theorem Bk.Gd.mono{s:Bk}{n m:Nat}(h:s.Gd n)(hm:n≤m):s.Gd m:=⟨fA h.len hm,h.ne,h.inj⟩
theorem aF3(l:List (List UInt8)):(pQ l (dep 7)).length≤160:=by
 unfold pQ
 rw [List.length_flatMap]
 have:dep 7=3:=by decide
 rw [this]
 simp [bR]
theorem aGD(B:List (List UInt8)):(mO B).length=B.length:=by unfold mO;simp
theorem aCN{β:Bk}{n:Nat}(h:β.Gd n){B:List (List UInt8)}(hB:B.length=7)(hn:n≤1000):(lF β B).Gd (n+200)∧((lF β B).clash=none→∀ t∈mO B,t∈(lF β B).kept):=by
 have hl:=aGD B
 have ht:=aF3 (eG B)
 have hs:(eG B).length=7:=by rw [iZ,hB]
 obtain⟨a1,a2,a3⟩:=h.adds (mO B) oQ
 obtain⟨b1,b2,b3⟩:=a1.adds (pQ (eG B) (dep 7)) oQ
 obtain⟨c1,c2,c3⟩:=b1.add (mH (eG B).length (aC6 (eG B))) oQ
 have e:lF β B=((β.adds (mO B)).adds (pQ (eG B) (dep 7))).add (mH (eG B).length (aC6 (eG B))):=by unfold lF aBm;rw [hs]
 rw [e]
 exact⟨c1.mono oQ,fun hc t htm=>c3 t (b3 t ((a2 (b2 (c2 hc).1).1).2 t htm))⟩
theorem aKB{p:Nat}{k:Int}{σ:Dv}{s:So}{β:Bk}{n:Nat}(h:β.Gd n)(hn:n<16384):(rdK p k σ s β).Gd (n+1)∧((rdK p k σ s β).clash=none→β.clash=none)∧∀ t∈β.kept,t∈(rdK p k σ s β).kept:=by
 unfold rdK
 split
 ·exact⟨h.mono (Nat.le_succ _),fun e=>e,fun _ ht=>ht⟩
 ·split
  ·exact⟨h.mono (Nat.le_succ _),fun e=>e,fun _ ht=>ht⟩
  ·split
   ·exact⟨h.mono (Nat.le_succ _),fun e=>e,fun _ ht=>ht⟩
   ·obtain⟨a1,a2,a3⟩:=h.add (fC (Ks p k.toNat) (σ.blk (Ks p k.toNat))) hn
    exact⟨a1,fun e=>(a2 e).1,a3⟩
theorem aMp{p j:Nat}{σ:Dv}{s:So}{β:Bk}{n:Nat}{b:List UInt8}(h:β.Gd n)(hn:n<16384)(hst:s.st=0)(hj:j<Gm.sealed p)(hd:σ.down=false)(hb:σ.blk (Ks p j)=b)(hc:(rdK p (j:Int) σ s β).clash=none):fC (Ks p j) b∈(rdK p (j:Int) σ s β).kept:=by
 have e:rdK p (j:Int) σ s β=β.add (fC (Ks p j) b):=by
  unfold rdK
  rw [if_neg (fun hh=>hh hst),if_neg (fun hh=>hh ⟨by omega,by exact_mod_cast hj⟩),if_neg (by rw [hd];decide),aU,hb]
 rw [e] at hc ⊢
 obtain⟨-,a2,-⟩:=h.add (fC (Ks p j) b) hn
 exact (a2 hc).2
theorem aIA{k:Nat}{a b:List UInt8}(h:fC k a=fC k b):a=b:=by
 unfold fC at h
 rw [gP] at h
 have h2:=h.2
 simp only [cQ,tS,aF] at h2
 exact List.append_cancel_left h2
theorem aBT(k:List UInt8)(hk:k.length=16)(bl at1 v:UInt8) :
  Tri prog 6 [.agg (cbs k).toArray,.int .u8 (bl.toNat:Int),.int .u8 (at1.toNat:Int),.int .u8 (v.toNat:Int)] [] (fun _=>True) (fun r H=>r=.bool true):=by
 refine Tri.mk func6 rfl ntmps6 rfl fun w hw=>?_
 have hk0:(cbs k).length=16:=by rw [aI];exact hk
 have hKo:=xK k hk
 obtain⟨j,hjd⟩:∃ j:Nat,j=bl.toNat%5:=⟨_,rfl⟩
 have hj5:j<5:=oQ
 have ha256:at1.toNat<256:=at1.toNat_lt
 have hX5:((bl.toNat:Int)%5)=(j:Int):=oQ
 have hbl256:bl.toNat<256:=bl.toNat_lt
 haveI cv1:Cv .i64 (bl.toNat:Int) (bl.toNat:Int):=⟨w64 oQ⟩
 haveI cv2:Cv .i64 (at1.toNat:Int) (at1.toNat:Int):=⟨w64 oQ⟩
 (refine W.k ?_;repeat intro b_)
 refine aG (xO k hk) ?_
 rintro _ _ ⟨pp,rfl,pid,sp,rv,σ,r,x,sr,β,B,R,Hd,Hs,Hk,HS,hD,hS,hBk,hSt,orv,hr,hc,hx,hKt,⟨-,hLM⟩,hβ,rfl⟩
 have hBl:B.length=7:=hKt.bl
 obtain⟨b,hb⟩:∃ b,B[2+j]?=some b:=⟨_,aA oQ⟩
 have hb256:=hKt.b256 b (aS hb)
 obtain⟨old,hold⟩:∃ old,b[at1.toNat]?=some old:=⟨_,aA oQ⟩
 obtain⟨pl,hpl⟩:∃ pl:Nat,pl=256*(2+j)+at1.toNat:=⟨_,rfl⟩
 have hml:(lC σ.ws).length=3072:=by rw [hLM,hKt.sta.m,hKt.sta.ml];rfl
 have hget:(lC σ.ws)[pl]?=some old:=by
  rw [hLM,hKt.sta.m]
  have:=aD6 hKt.b256 R hb
  rw [← hold,← this,bI,if_pos ha256,bH,hpl]
 have hE:(256*(2+(j:Int))+(at1.toNat:Int))=((pl:Nat):Int):=oQ
 have hpl2:pl<3072:=oQ
 obtain⟨-,hS2⟩:=aH1 hKt.sta v (i:=pl) (by show pl<8*(8*(4*12));omega)
 rw [hpl,aFW R v hKt.b256 hb ha256,← hpl] at hS2
 have htB:σ.tamB (pl:Int) [v].length=true:=(aH1 hKt.sta v (i:=pl) (by show pl<8*(8*(4*12));omega)).1
 have htm:=aPM hD (pl:Int)
 have him:=aLU hD
 have hleaf:∀ (i:Nat) (bi:List UInt8),B[Ks 3 i]?=some bi→qK x.lv ((Ks 3 i:Nat):Int)=Sha.sum (fC (Ks 3 i) bi):=fun i bi h=>by
  rw [hKt.lv]
  unfold qK
  rw [if_pos ⟨by omega,by rw [iZ];exact_mod_cast (aE.1 h).1⟩,aU]
  unfold eG
  rw [aC,dB,h]
  rfl
 obtain⟨N,hN,hG,hC⟩:∃ N,N≤400∧(lF β B).Gd N∧((lF β B).clash=none→fC (Ks 3 j) b∈(lF β B).kept):=by
  have hmem:fC (Ks 3 j) b∈mO B:=by
   unfold mO
   rw [qZ]
   refine⟨2+j,by omega,?_⟩
   rw [(aE.1 hb).2]
   rfl
  rcases hβ with rfl|⟨B',hB',rfl⟩
  ·obtain⟨a1,a2⟩:=aCN Bk.Gd.new hBl dQ
   exact⟨_,by decide,a1,fun h=>a2 h _ hmem⟩
  ·obtain⟨a1,a2⟩:=aCN (aCN Bk.Gd.new hB' dQ).1 hBl dQ
   exact⟨_,by decide,a1,fun h=>a2 h _ hmem⟩
 clear hβ
 generalize lF β B=β0 at *
 (refine W.k ?_;repeat intro b_)
 refine aG him ?_
 rintro iv _ ⟨Hi,hI,rfl⟩
 rcases hI with ⟨-,hz,-⟩|⟨ib,il,icp,ij,rfl,hil,hij,hic,rfl⟩
 ·have:=congrArg List.length hz
  rw [aD,hml] at this
  cases this
 rw [aD,hml] at hil
 obtain rfl:il=3072:=by omega
 have hcell:((lC σ.ws).map bv++ij)[pl]?=some (.int .u8 (old.toNat:Int)):=by
  rw [aO (by rw [aD,hml];exact hpl2),aH,hget]
  rfl
 rw [hX5,hE]
 generalize (lC σ.ws).map bv++ij=IM at *
 have hb1:bS (fun i=>some (i*1,1)) (zs [.int .u8 0] 1) [(0,.int .u8 (v.toNat:Int))]=some (cbs [v]):=rfl
 (refine W.k ?_;repeat intro b_)
 refine aG (htm (.slice (some ⟨b_,0,none⟩) 1 1) [v] (by show 1≤1048576;decide) ⟨by omega,by omega⟩) ?_ (hpre:=fun w2 hs=>Rd.own (Hc:=Hd) (Sl.own 5 1 b_ (len:=1) (xs:=cbs [v]) rfl) hs inferInstance)
 rintro _ Hd2 ⟨rfl,hD2⟩
 clear htm him hLM hml hget htB hD
 generalize σ.tam (pl:Int) [v]=σ2 at *
 have h82:σ2.ws.length%8=0:=by rw [hS2.n];decide
 have hlen2:σ2.len=256*Gm.total 3 4:=by rw [hS2.len];rfl
 have hB2:∀ y∈B.set (2+j) (b.set at1.toNat v),y.length=256:=fun y hy=>by
  rcases eJ hy with h|rfl
  ·exact hKt.b256 y h
  ·rw [bQ];exact hb256
 have hrd:∀ i:Nat,i<5→i≠j→rdS 3 (dT (Aes.enc (Aes.sched k) 10)) (i:Int) σ2 x=(0,List.replicate 256 0,x):=fun i hi hij=>by
  obtain⟨bi,hbi⟩:∃ bi,B[Ks 3 i]?=some bi:=⟨_,aA (by rw [hBl];show 1+1+i<7;omega)⟩
  have hblk:σ2.blk (Ks 3 i)=bi:=hS2.blk hB2 (by rw [cN,if_neg (by show ¬ 2+j=1+1+i;omega)];exact hbi) (by show 256*(1+1+i+1)≤8*(8*(4*12));omega)
  rw [aGM hKt.st (show i<Gm.sealed 3 from hi) hS2.l.d hblk (hleaf i bi hbi)]
  have h5:=hKt.rd i hi
  rw [aC (l:=B),hbi] at h5
  exact congrArg (fun z=>(0,z,x)) h5
 have hblkj:σ2.blk (Ks 3 j)=b.set at1.toNat v:=hS2.blk hB2 (by rw [cN,if_pos (show 2+j=Ks 3 j from rfl),if_pos oQ]) (by show 256*(1+1+j+1)≤8*(8*(4*12));omega)
 have hlj:=hleaf j b hb
 have hdn:=hS2.l.d
 have hst:=hKt.st
 have hrj:=hKt.rd j hj5
 rw [aC (l:=B),show B[Ks 3 j]?=some b from hb,Option.getD_some] at hrj
 clear hKt hleaf hS2 hB2 hcell
 generalize hz:List.replicate 256 (0:UInt8)=z at *
 (refine W.j ?_;repeat intro b_)
 refine bW [3,9,11,13] (HS++Hk) (fun _:Bk×Hp×Hp=>[]) (fun y=>y.2.1++y.2.2) (fun y=>tI sp pid.d pid.tr pid.s pid.bk 3 4 x y.2.1∧eR pid.bk pid.tb y.1 y.2.2∧y.1.Gd (N+5)∧(y.1.clash=none→fC (Ks 3 j) b∈y.1.kept)) ?_ ?_
 ·(refine W.k ?_;repeat intro b_)
  refine bF [3,9,11,13] (fun y:Nat×Bk×Hp×Hp=>[(14,.int .i64 (y.1:Int))]) (fun y=>y.2.2.1++y.2.2.2) (fun y=>5-y.1) (fun y=>y.1≤5∧tI sp pid.d pid.tr pid.s pid.bk 3 4 x y.2.2.1∧eR pid.bk pid.tb y.2.1 y.2.2.2∧y.2.1.Gd (N+y.1)∧(y.2.1.clash=none→fC (Ks 3 j) b∈y.2.1.kept)) (0,β0,HS,Hk) ⟨Nat.zero_le _,hSt,hBk,hG,hC⟩ ?_
  clear hSt hBk hG hC
  rintro⟨i,β1,HS,Hk⟩ ⟨hi,hSt,hBk,hG,hC⟩
  dsimp only at hi hSt hBk hG hC ⊢
  by_cases hi5:i<5
  ·by_cases hij:i=j
   ·(refine W.k ?_;repeat intro b_)
    refine aQ.mk (i+1,β1,HS,Hk) ?_
    exact⟨hi5,hSt,hBk,hG.mono (by dsimp only;omega),hC⟩
   ·have hR:=aAO (tr:=pid.tr) yK hx hD2 hlen2 hSt hBk hS hKo (i:Int)
    rw [hrd i hi5 hij] at hR
    dsimp only at hR
    obtain⟨g1,g2,g3⟩:=aKB (p:=3) (k:=(i:Int)) (σ:=σ2) (s:=x) hG oQ
    generalize rdK 3 (i:Int) σ2 x β1=β2 at *
    (refine W.k ?_;repeat intro b_)
    refine aG hR ?_
    rintro _ _ ⟨v1,Hr,HS',Hk',rfl,h1,hSt',hBk',rfl⟩
    rcases h1 with ⟨-,h0,-⟩|⟨q,ql,qc,qj,rfl,hql,hqj,hqc,rfl⟩
    ·have:=congrArg List.length h0
     rw [aI,← hz,aP] at this
     cases this
    rw [aI,← hz,aP,Nat.mul_one] at hql
    subst hql
    have hq0:(cbs z++qj)[0]?=some (.int .u8 0):=by rw [← hz];rfl
    generalize cbs z++qj=Q at *
    (refine W.k ?_;repeat intro b_)
    refine aQ.mk (i+1,β2,HS',Hk') ?_
    exact⟨hi5,hSt',hBk',g1,fun h=>g3 _ (hC (g2 h))⟩
  ·obtain rfl:i=5:=by omega
   (refine W.k ?_;repeat intro b_)
   refine bZ.mk (β1,HS,Hk) ?_
   exact⟨hSt,hBk,hG,hC⟩
 clear hSt hBk hG hC
 rintro⟨β1,HS,Hk⟩ ⟨hSt,hBk,hG,hC⟩
 dsimp only at hSt hBk hG hC ⊢
 have hR:=aAO (tr:=pid.tr) yK hx hD2 hlen2 hSt hBk hS hKo (j:Int)
 obtain⟨g1,g2,g3⟩:=aKB (p:=3) (k:=(j:Int)) (σ:=σ2) (s:=x) hG oQ
 have g4:=fun h=>aMp (p:=3) (s:=x) hG oQ hst (show j<Gm.sealed 3 from hj5) hdn hblkj h
 generalize rdK 3 (j:Int) σ2 x β1=β2 at *
 by_cases hvo:v=old
 ·have hbb:b.set at1.toNat v=b:=by rw [hvo];exact aCX hold
  rw [hbb] at hblkj
  rw [aGM hst (show j<Gm.sealed 3 from hj5) hdn hblkj hlj,hrj] at hR
  dsimp only at hR
  subst hvo
  (refine W.k ?_;repeat intro b_)
  refine aG hR ?_
  rintro _ _ ⟨v1,Hr,HS',Hk',rfl,h1,hSt',hBk',rfl⟩
  have h11:=h1.isOne
  (refine W.k ?_;repeat intro b_)
  refine W.cw pJ ?_;repeat intro b_
  refine Fin.to [] ?_
  exact F.f1 rfl
 ·have hne:¬ (v.toNat:Int)=(old.toNat:Int):=fun e=>hvo (jL.1 (by exact_mod_cast e))
  have hbne:b≠b.set at1.toNat v:=fun e=>hvo (by
   have h1:(b.set at1.toNat v)[at1.toNat]?=some old:=by rw [← e];exact hold
   rw [cN,if_pos rfl,if_pos oQ] at h1
   exact Option.some.inj h1)
  by_cases hsum:Sha.sum (fC (Ks 3 j) b)=Sha.sum (fC (Ks 3 j) (b.set at1.toNat v))
  ·have hcl:β2.clash≠none:=fun h=>hbne (aIA (g1.inj h _ (g3 _ (hC (g2 h))) _ (g4 h) hsum))
   rw [aGM hst (show j<Gm.sealed 3 from hj5) hdn hblkj (hlj.trans hsum)] at hR
   dsimp only at hR
   generalize dT (Aes.enc (Aes.sched k) 10) (x.es.getD j 0) j (b.set at1.toNat v)=Y at hR
   (refine W.k ?_;repeat intro b_)
   refine aG hR ?_
   rintro _ _ ⟨v1,Hr,HS',Hk',rfl,h1,hSt',hBk',rfl⟩
   have h11:=h1.isOne
   (refine W.k ?_;repeat intro b_)
   refine aG (aG7 hBk') ?_
   rintro _ _ (⟨hcn,-,-⟩|⟨ca,cb,va,vb,Ha,Hb,hcs,rfl,hA,hB,rfl⟩)
   ·exact absurd hcn hcl
   have hab:=g1.ne _ _ hcs
   have oA:=hA.isOne
   have oB:=hB.isOne
   (refine W.k ?_;repeat intro b_)
   refine aJt hA ?_
   (refine W.k ?_;repeat intro b_)
   refine aJt hB ?_
   refine aO8 ?_ hab
   (refine W.k ?_;repeat intro b_)
   refine Fin.to [] ?_
   exact F.f1 rfl
  ·rw [aMq hst (show j<Gm.sealed 3 from hj5) hdn hblkj (fun e=>hsum (hlj.symm.trans e))] at hR
   dsimp only at hR
   (refine W.k ?_;repeat intro b_)
   refine aG hR ?_
   rintro _ _ ⟨v1,Hr,HS',Hk',rfl,h1,hSt',hBk',rfl⟩
   have h11:=h1.isOne
   (refine W.k ?_;repeat intro b_)
   refine aG (aG7 hBk') ?_
   rintro _ _ (⟨hcn,rfl,rfl⟩|⟨ca,cb,va,vb,Ha,Hb,hcs,rfl,hA,hB,rfl⟩)
   ·skip
    have hR2:=aAO (x:={ x with st:=20 }) (tr:=pid.tr) yK ⟨hx.es,hx.lv,hx.d⟩ hD2 hlen2 hSt' hBk' hS hKo ((j:Int)+1)
    rw [show rdS 3 (dT (Aes.enc (Aes.sched k) 10)) ((j:Int)+1) σ2 { x with st:=20 }=(20,[],{ x with st:=20 }) by unfold rdS;rw [if_pos (show (20:Int)≠0 by decide)]] at hR2
    dsimp only at hR2
    (refine W.k ?_;repeat intro b_)
    refine aG hR2 ?_
    rintro _ _ ⟨v2,Hr2,HS2,Hk2,rfl,h2,hSt2,hBk2,rfl⟩
    have h21:=h2.isOne
    have hcm:=aBx (tr:=pid.tr) (x:={ x with st:=20 }) yK ⟨hx.es,hx.lv,hx.d⟩ hr hD2 h82 hSt2 hBk2 hS hKo (lv:=.slice none 0 0) (us:=[]) (l:=[]) (HE:=[]) (HQ:=[]) (Sl.nil _ _) (RB.nil _) dQ rfl
    rw [show cmS 3 4 (dT (Aes.enc (Aes.sched k) 10)) [] (σ2,r,{ x with st:=20 })=(20,(σ2,r,{ x with st:=20 })) by unfold cmS;dsimp only;rw [show nI 3 4 r { x with st:=20 } []=20 by unfold nI;rw [if_pos (show (20:Int)≠0 by decide)],if_pos (show (20:Int)≠0 by decide)]] at hcm
    dsimp only at hcm
    (refine W.k ?_;repeat intro b_)
    refine aG hcm ?_
    rintro _ _ ⟨Hd3,HS3,Hs3,Hk3,β3,rfl,hD3,hSt3,hBk3,hS3,rfl⟩
    obtain⟨ev,tp,He,Ht,rfl,hE3,hT3⟩:=hSt3
    have oe:=hE3.isOne
    have hst3:=aAP (sp:=sp) (F0:=gI pid.d pid.tr pid.s pid.bk 3 4 ev (ptv tp) x.w 20) (st:=20) rfl
    (refine W.k ?_;repeat intro b_)
    refine W.cw hst3 ?_;repeat intro b_
    refine W.cw pJ ?_;repeat intro b_
    refine Fin.to [] ?_
    exact F.f1 rfl
   ·have oA:=hA.isOne
    have oB:=hB.isOne
    have hR2:=aAO (x:={ x with st:=20 }) (tr:=pid.tr) yK ⟨hx.es,hx.lv,hx.d⟩ hD2 hlen2 hSt' hBk' hS hKo ((j:Int)+1)
    rw [show rdS 3 (dT (Aes.enc (Aes.sched k) 10)) ((j:Int)+1) σ2 { x with st:=20 }=(20,[],{ x with st:=20 }) by unfold rdS;rw [if_pos (show (20:Int)≠0 by decide)]] at hR2
    dsimp only at hR2
    (refine W.k ?_;repeat intro b_)
    refine aG hR2 ?_
    rintro _ _ ⟨v2,Hr2,HS2,Hk2,rfl,h2,hSt2,hBk2,rfl⟩
    have h21:=h2.isOne
    have hcm:=aBx (tr:=pid.tr) (x:={ x with st:=20 }) yK ⟨hx.es,hx.lv,hx.d⟩ hr hD2 h82 hSt2 hBk2 hS hKo (lv:=.slice none 0 0) (us:=[]) (l:=[]) (HE:=[]) (HQ:=[]) (Sl.nil _ _) (RB.nil _) dQ rfl
    rw [show cmS 3 4 (dT (Aes.enc (Aes.sched k) 10)) [] (σ2,r,{ x with st:=20 })=(20,(σ2,r,{ x with st:=20 })) by unfold cmS;dsimp only;rw [show nI 3 4 r { x with st:=20 } []=20 by unfold nI;rw [if_pos (show (20:Int)≠0 by decide)],if_pos (show (20:Int)≠0 by decide)]] at hcm
    dsimp only at hcm
    (refine W.k ?_;repeat intro b_)
    refine aG hcm ?_
    rintro _ _ ⟨Hd3,HS3,Hs3,Hk3,β3,rfl,hD3,hSt3,hBk3,hS3,rfl⟩
    obtain⟨ev,tp,He,Ht,rfl,hE3,hT3⟩:=hSt3
    have oe:=hE3.isOne
    have hst3:=aAP (sp:=sp) (F0:=gI pid.d pid.tr pid.s pid.bk 3 4 ev (ptv tp) x.w 20) (st:=20) rfl
    (refine W.k ?_;repeat intro b_)
    refine W.cw hst3 ?_;repeat intro b_
    refine W.cw pJ ?_;repeat intro b_
    refine Fin.to [] ?_
    exact F.f1 rfl
end
section
open Go.ChangeShapes Go.WideShapes Go.ChangeAt Go.RowKit
section
variable {H:Type}{enc:TypeId×Value→H}{P:Program}{W:World}{sp:Nat→Bool}{hl:Bool}
theorem aGH{t e b:Nat}{r:Reach}{v:Value}{d:DataW H}{ps:List MemPlace}(hu:P.underlying t=some (.slice e))(hc:P.cellsOf e=1)(he:P.underlying e=some (.int .i64))(hval:Value.okWide P W r b t v)(hd':DataW.Trod enc P W 0 sp hl t v d ps) :
  ∃ ks:List Int,ks.length≤maxLen∧Rd [] W 1 v (ks.map fun k:Int=>(.int .i64 k:Value)):=by
 obtain⟨a,len,cap,ys,rfl,hlc,hcm,hrd,hyl,hG⟩:=aEf (G:=fun cs=>∃ n:Int,cs=[.int .i64 n]) hu hc dQ hval hd' (fun fuel cells z h=>by
  obtain⟨n,h1,-,-⟩:=mY he h
  exact⟨n,h1⟩)
 refine⟨ys.map fun v=>match v with|.int _ n=>n|_=>0,by rw [aD];omega,?_⟩
 rw [gS]
 have:ys.map ((fun k:Int=>(.int .i64 k:Value))∘fun v=>match v with|.int _ n=>n|_=>0)=ys:=by
  refine (dP fun v hv=>?_).trans (List.map_id ys)
  obtain⟨i,hi,rfl⟩:=jF.1 hv
  obtain⟨n,h1⟩:=hG i oQ
  rw [Nat.mul_one,bM hi] at h1
  simp only [kW,cU,gP,and_true] at h1
  simp only [id,Function.comp,h1]
 rw [this]
 exact hrd
end
end
end Go.Proofs.YtnhnpjokpelkbaaGreat
