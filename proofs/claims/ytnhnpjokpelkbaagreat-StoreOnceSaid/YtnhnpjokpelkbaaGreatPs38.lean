/- What stands on a device: the document's. -/
import Derived.Test.YtnhnpjokpelkbaaGreatPs37
import Derived.Test.YtnhnpjokpelkbaaGreatPs32
import Derived.Test.YtnhnpjokpelkbaaGreatPs29
set_option linter.unusedVariables false
set_option linter.unusedSimpArgs false
set_option linter.unusedSectionVars false
set_option maxHeartbeats 4000000
namespace Go.Proofs.YtnhnpjokpelkbaaGreat
open Go Go.Proofs.Tryz
section
attribute [local irreducible] SW SL SQ SH SA SS Pu Fin bZ aQ
theorem aBg{p:Nat}:∀ {l:List Ent} {last:Int},oM p last l=true→∀ (k:Nat) (x y:Ent),l[k]?=some x→l[k+1]?=some y→x.1<y.1
 | [],_,_,k,x,y,h,_=>by simp at h
 | z::l,last,hm,k,x,y,hx,hy=>by
  rw [xX,bX] at hm
  cases k with
  | zero=>cases hx;exact (mP hm.2 0 y hy).1
  | succ k=>exact aBg hm.2 k x y hx hy
theorem aJb{p:Nat}{l:List Ent}(hm:oM p (-1) l=true):∀ k,k≤l.length→(k=0∧dW (l.take k)=[])∨∃ x,l[k-1]?=some x∧0<k∧(dW (l.take k)).getLast?=some (x.1.toNat/32)∧∀ q∈dW (l.take k),q≤x.1.toNat/32:=by
 intro k
 induction k with
 | zero=>intro _;exact .inl ⟨rfl,rfl⟩
 | succ k ih=>
  intro hk
  have hx:=aA (show k<l.length by omega)
  have hts:dW (l.take (k+1))=tJ (dW (l.take k)) l[k]:=by rw [bA,hx,← yG];rfl
  refine .inr ⟨l[k],hx,by omega,?_⟩
  rw [hts]
  rcases ih oQ with ⟨h0,h1⟩|⟨y,hy,h0,h1,h2⟩
  ·rw [h1]
   unfold tJ
   simp
  ·have hr:=aBg hm (k-1) y l[k] hy (by rw [show k-1+1=k by omega];exact hx)
   have hle:y.1.toNat/32≤l[k].1.toNat/32:=Nat.div_le_div_right oQ
   unfold tJ
   split
   ·rename_i hin
    have:=h2 _ hin
    exact⟨by rw [h1];congr 1;omega,fun q hq=>fA (h2 q hq) hle⟩
   ·refine⟨by simp,fun q hq=>?_⟩
    rcases bG.1 hq with h|h
    ·exact fA (h2 q h) hle
    ·rw [bO] at h;omega
theorem aIP{p:Nat}(v:Value)(us:List Value)(l:List Ent)(hul:us.length=l.length)(hoc:OC us)(hm:oM p (-1) l=true)(hs:Gm.sealed p≤1000)(hn:l.length≤1000) :
  Tri prog 203 [v] [] (fun w=>Rd [] w 2 v (eW us l)) (fun r H=>Sl 3 1 r (nv (dW l)) H):=by
 refine Tri.mk func203 rfl ntmps203 rfl fun w hw=>?_
 unfold eW at hw
 obtain⟨a,ca,rfl,hcap,hg⟩:=hw.rows dQ (nM us l)
 have hzl:(List.zipWith (fun u (x:Ent)=>[Value.int .i64 x.1,u]) us l).length=l.length:=by rw [gF,hul,jB]
 rw [hzl] at hcap ⊢
 have hY:One (Value.slice a l.length ca):=⟨rfl⟩
 refine W.j ?_
 refine bW [] [] (fun x:Value×Hp=>[(3,x.1)]) (fun x=>x.2) (fun x=>Sl 3 1 x.1 (nv (dW l)) x.2) ?_ ?_
 ·refine W.k ?_
  refine bF [6,7] (fun x:Nat×Value×Hp=>[(3,x.2.1),(8,.int .i64 (x.1:Int))]) (fun x=>x.2.2) (fun x=>l.length-x.1) (fun x=>x.1≤l.length∧Sl 3 1 x.2.1 (nv (dW (l.take x.1))) x.2.2) (0,.slice none 0 0,[]) ⟨Nat.zero_le _,Sl.nil _ _⟩ ?_
  rintro⟨k,v2,H2⟩ ⟨hk,h2⟩
  dsimp only at hk h2 ⊢
  have h21:=h2.isOne
  by_cases hkn:k<l.length
  ·have hx:=aA hkn
   have hz:(List.zipWith (fun u (x:Ent)=>[Value.int .i64 x.1,u]) us l)[k]?=some [.int .i64 l[k].1,us[k]]:=by rw [eZ,hx,aA (show k<us.length by omega)]
   obtain⟨pb,po,lv,T,fz,rfl,hb,hkK,hv⟩:=hg k _ hz
   have hts:dW (l.take (k+1))=tJ (dW (l.take k)) l[k]:=by rw [bA,hx,← yG];rfl
   have htl:(dW (l.take k)).length≤k:=by have:=tG (l.take k);rw [aK] at this;omega
   have hla:=aJb hm k hk
   have hmk:=mP hm k _ hx
   have hri:=fun y hy (h0:0<k)=>aBg hm (k-1) y l[k] hy (by rw [show k-1+1=k by omega];exact hx)
   have hou:One us[k]:=⟨hoc.ok _ (cP _)⟩
   generalize us[k]=u at *
   generalize l[k]=x at *
   generalize dW (l.take k)=o at *
   generalize hO2:dW (l.take (k+1))=o2 at *
   obtain⟨K,hKK⟩:∃ K:Nat,x.1=(K:Int):=⟨x.1.toNat,by omega⟩
   rw [hKK] at hv
   have hdv:((K:Int)/32)=((K/32:Nat):Int):=rfl
   unfold tJ at hts
   rw [show x.1.toNat=K by omega] at hts
   have hb31:bS (fun i=>some (i*1,1)) (zs [.int .i64 0] 1) [(0,.int .i64 ((K/32:Nat):Int))]=some (nv [K/32]):=rfl
   have hS0:=h2
   rcases hla with ⟨h0,rfl⟩|⟨y,hy,h0,h1,h3⟩
   ·rw [if_neg (by simp)] at hts
    rcases h2 with ⟨rfl,-,rfl⟩|⟨qb,qlen,qcap,qjunk,rfl,hqx,hqj,hqc,rfl⟩
    ·refine W.k fun b_=>?_
     (refine SW.l [] [0,1,2,3,4,5,6,7,8,9,10,11,12,13,14,15] ?_)
     refine W.k fun b_=>?_
     refine W.ap hS0 (ys:=nv [K/32]) (mm:=1) (fun w2 hs=>(Sl.own 3 1 b_ (xs:=nv [K/32]) rfl).srcAt hs inferInstance) (fun v3 H3 h33=>?_) (hys:=rfl) (hbytes:=by simp;try omega)
     have h331:=h33.isOne
     rw [← aL,← hts] at h33
     refine W.k ?_
     refine aQ.mk (k+1,v3,H3) ?_
     exact⟨hkn,by dsimp only;rw [hO2];exact h33⟩
    ·obtain rfl:qlen=0:=by simp at hqx;omega
     refine W.k fun b_=>?_
     (refine SW.l [] [0,1,2,3,4,5,6,7,8,9,10,11,12,13,14,15] ?_)
     refine W.k fun b_=>?_
     refine W.ap hS0 (ys:=nv [K/32]) (mm:=1) (fun w2 hs=>(Sl.own 3 1 b_ (xs:=nv [K/32]) rfl).srcAt hs inferInstance) (fun v3 H3 h33=>?_) (hys:=rfl) (hbytes:=by simp;try omega)
     have h331:=h33.isOne
     rw [← aL,← hts] at h33
     refine W.k ?_
     refine aQ.mk (k+1,v3,H3) ?_
     exact⟨hkn,by dsimp only;rw [hO2];exact h33⟩
   ·rcases h2 with ⟨rfl,hz2,rfl⟩|⟨qb,qlen,qcap,qjunk,rfl,hqx,hqj,hqc,rfl⟩
    ·have:o=[]:=by simpa using hz2
     rw [this] at h1;simp at h1
    have hol:qlen=o.length:=by rw [aD] at hqx;omega
    subst hol
    have hmo:=List.mem_of_getLast? h1
    have hol1:0<o.length:=oP hmo
    rw [List.getLast?_eq_getElem?] at h1
    have hyx:=hri y hy h0
    have hyK:y.1.toNat/32≤K/32:=Nat.div_le_div_right oQ
    have hlast:(nv o++qjunk)[o.length-1]?=some (.int .i64 ((y.1.toNat/32:Nat):Int)):=by
     rw [aO (by rw [aD];omega),aH,h1];rfl
    generalize y.1.toNat/32=m at *
    haveI:eC ((o.length:Int)-1) (o.length-1):=⟨by omega⟩
    by_cases hin:K/32∈o
    ·rw [if_pos hin] at hts
     have hmK:m=K/32:=by have:=h3 _ hin;omega
     subst hts
     refine W.k fun b_=>?_
     (refine SW.l [] [0,1,2,3,4,5,6,7,8,9,10,11,12,13,14,15] ?_)
     refine W.k ?_
     refine aQ.mk (k+1,.slice (some ⟨qb,0,none⟩) o2.length qcap,[(qb,cl (nv o2++qjunk) 3)]) ?_
     exact⟨hkn,by dsimp only;rw [hO2];exact hS0⟩
    ·rw [if_neg hin] at hts
     have hmK:¬ m=K/32:=fun h=>hin (h▸hmo)
     refine W.k fun b_=>?_
     (refine SW.l [] [0,1,2,3,4,5,6,7,8,9,10,11,12,13,14,15] ?_)
     refine W.k fun b_=>?_
     refine W.ap hS0 (ys:=nv [K/32]) (mm:=1) (fun w2 hs=>(Sl.own 3 1 b_ (xs:=nv [K/32]) rfl).srcAt hs inferInstance) (fun v3 H3 h33=>?_) (hys:=rfl) (hbytes:=by simp;try omega)
     have h331:=h33.isOne
     rw [← aL,← hts] at h33
     refine W.k ?_
     refine aQ.mk (k+1,v3,H3) ?_
     exact⟨hkn,by dsimp only;rw [hO2];exact h33⟩
  ·have hkl:k=l.length:=oQ
   rw [hkl,bP] at h2
   subst hkl
   refine W.k ?_
   refine bZ.mk (v2,H2) ?_
   exact h2
 rintro⟨v2,H2⟩ h2
 dsimp only at h2 ⊢
 have h21:=h2.isOne
 refine W.k ?_
 refine Fin.to H2 ?_
 exact F.f1 h2
instance arrEq:EqB prog 54 32 where
 guard:=by kernel_rfl
 row:=inferInstance
 ok:=⟨_,underlying54,underlying5,by kernel_rfl,inferInstance⟩
theorem aDH{d tr sp p t:Nat}(h:Gm.Ok p t){σ:Dv}{Hd:Hp}(hD:lS d σ Hd)(hlen:σ.len=256*Gm.total p t)(from_ n:Nat)(hn:from_+n≤Gm.total p t) :
  Tri prog 239 [sJ d tr sp p t,.int .i64 (from_:Int),.int .i64 (n:Int)] Hd (fun _=>True)
  (fun v H=>∃ v1 Hb,v=.tuple #[v1,.int .i64 (ldS σ from_ n).1]∧Bls v1 (ldS σ from_ n).2 Hb∧H=Hd++Hb):=by
 refine Tri.mk func239 rfl ntmps239 rfl fun w hw=>?_
 have htl:=Gm.total_le2 h
 unfold ldS
 generalize Gm.total p t=m at *
 refine W.j fun b_=>?_
 refine bW [] [] (fun x:Value×Hp=>[(8,x.1)]) (fun x=>x.2) (fun x=>(n=0∨σ.down=false)∧Bls x.1 (σ.blks from_ n) x.2) ?_ ?_
 ·refine W.k ?_
  refine bF [1,2,3] (fun x:Nat×Value×List Value×Hp×Hp=>[(8,x.2.1),(9,.int .i64 (x.1:Int))]) (fun x=>x.2.2.2.1++x.2.2.2.2) (fun x=>n-x.1)
   (fun x=>(x.1≤n∧(x.1=0∨σ.down=false))∧Sl 23 1 x.2.1 x.2.2.1 x.2.2.2.1∧RB x.2.2.2.2 x.2.2.1 (σ.blks from_ x.1)) (0,.slice none 0 0,[],[],[]) ⟨⟨Nat.zero_le _,.inl rfl⟩,Sl.nil _ _,RB.nil _⟩ ?_
  rintro⟨k,v2,vs2,Hv2,Ht2⟩ ⟨⟨hk,hk0⟩,hS2,hR2⟩
  dsimp only at hk hk0 hS2 hR2 ⊢
  have hY2:=hS2.isOne
  have hvl2:=hR2.1
  rw [Dv.blks_len] at hvl2
  by_cases hkn:k<n
  ·have hld:=aMu hD ((256*(from_+k):Nat):Int) 256
   have hr0:σ.rdy ((256*(from_+k):Nat):Int) 256=if σ.down=true then 8 else 0:=by
    unfold Dv.rdy
    split
    ·rfl
    ·rw [hlen,if_neg oQ]
   rw [hr0] at hld
   rw [show ((256*(from_+k):Nat):Int)=256*((from_:Int)+(k:Int)) by omega] at hld
   refine W.k ?_
   refine aG hld ?_
   rintro _ _ ⟨sv,Hs,rfl,hsv,rfl⟩
   have hsv1:=hsv.isOne
   obtain⟨a3,l3,c3,rfl,-⟩:=hsv.form
   by_cases hdn:σ.down=true
   ·rw [if_pos hdn]
    rw [if_neg (by rw [hdn];simp;omega)]
    refine W.k ?_
    refine Fin.to (Hd++[]) ?_
    exact F.f2 ⟨_,[],rfl,⟨[],[],[],Sl.nil _ _,RB.nil _,rfl⟩,rfl⟩
   ·rw [if_neg hdn]
    have hb44:bS (fun i=>some (i*1,1)) (zs [.slice none 0 0] 1) [(0,.slice a3 l3 c3)]=some [.slice a3 l3 c3]:=rfl
    refine W.k fun b_=>?_
    refine W.ap hS2 (ys:=[.slice a3 l3 c3]) (mm:=1) (fun w2 hs=>(Sl.own 23 1 b_ (xs:=[.slice a3 l3 c3]) rfl).srcAt hs inferInstance) (fun v3 H3 h3=>?_) (hys:=rfl) (hbytes:=by rw [hvl2];simp;omega)
    have h31:=h3.isOne
    refine W.k ?_
    refine aQ.mk (k+1,v3,vs2++[.slice a3 l3 c3],H3,Hs++Ht2) ?_
    refine⟨⟨hkn,.inr (by simpa using hdn)⟩,h3,?_⟩
    dsimp only
    rw [Dv.blks_succ]
    exact (hR2.mono fun x hx=>aM _ hx).snoc ((RdH.of hsv).mono fun x hx=>aN _ hx)
  ·have hkn2:k=n:=oQ
   subst hkn2
   refine W.k ?_
   refine bZ.mk (v2,Hv2++Ht2) ?_
   exact⟨hk0,vs2,Hv2,Ht2,hS2,hR2,rfl⟩
 rintro⟨v2,Hb2⟩ ⟨hok,hB⟩
 dsimp only at hok hB ⊢
 have hY2:=hB.one
 rw [if_pos hok]
 refine W.k ?_
 refine Fin.to (Hd++Hb2) ?_
 exact F.f2 ⟨v2,Hb2,rfl,hB,rfl⟩
theorem aBp{p t:Nat}(h:Gm.Ok p t){Ht:Hp}(v:Value)(vs:List Value)(bss:List (List UInt8))(hR:RB Ht vs bss)(hn:bss.length=Gm.leaves p)(hb:∀ b∈bss,b.length=256) :
  Tri prog 198 [kP p t,v] Ht (fun w=>Rd (Ht.map Prod.fst) w 1 v vs) (fun r H=>∃ Hs,Sl 33 1 r (uv (nD p bss)) Hs∧H=Hs++Ht):=by
 refine Tri.mk func198 rfl ntmps198 rfl fun w hw=>?_
 have hse:=sN h
 have hep:=zQ h
 have hw0:=hw
 obtain⟨a,la,ca,rfl,hl1,hc1,hr1⟩:=hw.get
 rw [Nat.mul_one,hR.1] at hl1
 subst hl1
 have hY:One (Value.slice a bss.length ca):=⟨rfl⟩
 have hll:=Gm.leaves_le h
 have hL:Gm.leaves p=1+Gm.epochs p+Gm.sealed p:=rfl
 have hel:nD p bss=(List.range (Gm.sealed p)).map (tX ((bss.drop 1).take (Gm.epochs p))):=rfl
 have hE:32*Gm.epochs p≥Gm.sealed p:=by unfold Gm.epochs Gm.up;omega
 have hRp:=hR.part 1 (Gm.epochs p)
 have hpl:((bss.drop 1).take (Gm.epochs p)).length=Gm.epochs p:=by rw [aK,bE];omega
 have hpb:∀ b∈(bss.drop 1).take (Gm.epochs p),b.length=256:=fun b hbm=>hb b (kI (dZ hbm))
 have hcut:=hw0.cutN ca 1 (1+Gm.epochs p) (ca-1) oQ oQ oQ oQ
 rw [show 1+Gm.epochs p-1=Gm.epochs p by omega] at hcut
 rw [hel]
 clear hel
 generalize (bss.drop 1).take (Gm.epochs p)=es at *
 generalize Gm.sealed p=S at *
 generalize Gm.epochs p=E at *
 refine W.j fun b_=>?_
 refine bW [] [] (fun x:Value×Hp=>[(5,x.1)]) (fun x=>x.2) (fun x=>Sl 33 1 x.1 (uv ((List.range S).map (tX es))) x.2) ?_ ?_
 ·refine W.k ?_
  refine bF [1,2] (fun x:Nat×Value×Hp=>[(5,x.2.1),(6,.int .i64 (x.1:Int))]) (fun x=>x.2.2) (fun x=>S-x.1) (fun x=>x.1≤S∧Sl 33 1 x.2.1 (uv ((List.range x.1).map (tX es))) x.2.2) (0,.slice none 0 0,[]) ⟨Nat.zero_le _,Sl.nil _ _⟩ ?_
  rintro⟨k,v2,H2⟩ ⟨hk,h2⟩
  dsimp only at hk h2 ⊢
  have h21:=h2.isOne
  by_cases hkn:k<S
  ·have hcut2:=hcut
   rw [Nat.mul_one,Nat.one_mul] at hcut2
   have hre:=aKx (.slice (lO a ca 1 1) E (ca-1)) _ es hRp hpb k oQ oQ
   have hl2:(uv ((List.range k).map (tX es))).length=k:=by rw [iE];simp
   have hsn:uv ((List.range (k+1)).map (tX es))=uv ((List.range k).map (tX es))++[eX (tX es k)]:=by unfold uv;rw [bR,aL,aL];rfl
   generalize hO2:uv ((List.range (k+1)).map (tX es))=o2 at *
   generalize uv ((List.range k).map (tX es))=o at *
   have hb44:bS (fun i=>some (i*1,1)) (zs [.int .u64 0] 1) [(0,eX (tX es k))]=some [eX (tX es k)]:=rfl
   haveI i2:eC (1+(E:Int)) (1+E):=⟨by omega⟩
   refine W.k ?_
   refine W.cw hse ?_
   refine W.cw hep ?_
   refine W.sG ?_ (i1:=i2)
   rw [show 1+E-1=E by omega]
   refine W.k ?_
   refine aG hre ?_ (hpre:=fun w2 hs=>hcut2.ro (Hc:=Ht) hs)
   rintro _ Hx ⟨rfl,hx⟩
   have hx:=hx.symm
   subst hx
   refine W.k fun b_=>?_
   refine W.ap h2 (ys:=[eX (tX es k)]) (mm:=1) (fun w2 hs=>(Sl.own 33 1 b_ (xs:=[eX (tX es k)]) rfl).srcAt hs inferInstance) (fun v3 H3 h3=>?_) (hys:=rfl) (hbytes:=by simp;omega)
   rw [← hsn] at h3
   have h31:=h3.isOne
   refine W.k ?_
   refine aQ.mk (k+1,v3,H3) ?_
   exact⟨hkn,by dsimp only;rw [hO2];exact h3⟩
  ·obtain rfl:k=S:=by omega
   refine W.k ?_
   refine W.cw hse ?_
   refine bZ.mk (v2,H2) ?_
   exact h2
 rintro⟨v2,H2⟩ h2
 dsimp only at h2 ⊢
 have h21:=h2.isOne
 refine W.k ?_
 refine Fin.to (H2++Ht) ?_
 exact F.f1 ⟨H2,h2,rfl⟩
theorem aMr{d tr sp p t:Nat}(h:Gm.Ok p t){r:Rg}(hr:r.Ok){Ht:Hp}(v:Value)(vs:List Value)(bss:List (List UInt8))(hR:RB Ht vs bss)(hn:bss.length=Gm.leaves p)(hb:∀ b∈bss,b.length=256) :
  Tri prog 240 [sJ d tr sp p t,v] ((tr,cl (rtc d r) 120)::Ht) (fun w=>Rd (tr::Ht.map Prod.fst) w 1 v vs)
  (fun o H=>o=.bool (lU p t r.root bss)∧H=(tr,cl (rtc d r) 120)::Ht):=by
 refine Tri.mk func240 rfl ntmps240 rfl fun w hw=>?_
 have hw0:=hw
 have hll:=Gm.leaves_le h
 have hL:Gm.leaves p=1+Gm.epochs p+Gm.sealed p:=rfl
 obtain⟨a,la,ca,rfl,hl1,hc1,hr1⟩:=hw.get
 rw [Nat.mul_one,hR.1] at hl1
 subst hl1
 have hY:One (Value.slice a bss.length ca):=⟨rfl⟩
 obtain⟨bb,o,l,T,fz,rfl,hbh,hkK,hy⟩:=hr1 oQ
 have hle:=yE (.slice (some ⟨bb,o,none⟩) bss.length ca) vs bss hR oQ hb
 obtain⟨f1,f2,f3⟩:=aFM d hr
 obtain⟨u,hu1,hu2⟩:=hR.2 0 _ (aA (show 0<bss.length by omega))
 have hlu:l[o+0]?=some u:=by
  have h2:((l.drop o).take (bss.length*1))[0]?=vs[0]?:=by rw [hy]
  rw [bI,if_pos oQ,bH,hu1] at h2
  exact h2
 rw [kJ] at hlu
 have hu3:=hu2
 have huo:=hu2.one
 obtain⟨ua,ul,uc,rfl,-⟩:=hu3
 have h32:(fW bss).length=32:=Sha.sum_len _
 have hro:iU (eG bss)=fW bss:=rfl
 have hsl:(eG bss).length≤1024:=by rw [iZ];omega
 have hrr:=fun vv=>aHV (eG bss) (pC bss) vv hsl
 rw [hro] at hrr
 have hsb:=aFG h
 have hg0:bss.getD 0 []=bss[0]:=by rw [aC,aA (show 0<bss.length by omega)];rfl
 have hf:lU p t r.root bss=(decide (fW bss=r.root)&&decide (iB p t=bss[0])):=by unfold lU;rw [hg0]
 rw [hf]
 clear hf
 generalize bss[0]=b0 at *
 generalize hRT:fW bss=rt at *
 refine W.k fun b_=>?_
 (refine SW.l [] [0,3,4,5,6,7,8] ?_;refine aX 1 ?_)
 refine aG hle ?_ (hpre:=fun w2 hs=>hw0.ro (Hc:=Ht) hs)
 rintro _ _ ⟨Hs,hSl,rfl⟩
 have hSl1:=hSl.isOne
 (refine bK [] ?_;refine aX 2 ?_)
 refine W.cq (hrr _) ?_ (hpre:=fun w2 hs=>Rd.own (Hc:=[]) hSl hs inferInstance)
 by_cases he:rt=r.root
 ·rw [decide_eq_true he,jA]
  (refine bK [] ?_;refine dN 9 rfl (aHF rfl rfl rfl h32 he) ?_;refine SG.l [10,11,12,13] ?_;(first|refine cR 14 rfl ?_|refine mD hu2 14 [] rfl ?_);refine SG.l [15,16] ?_;(first|refine cR 17 rfl ?_;refine SG.l [18,19,20,21,22] ?_|refine aX 17 ?_))
  refine aG hsb ?_
  rintro v2 Hs2 hs2
  have hs21:=hs2.isOne
  (refine bK [] ?_;(first|refine cR 18 rfl ?_|refine pU hs2 18 [] rfl ?_);(first|refine cR 19 rfl ?_|refine dN 19 rfl (aL8 rfl rfl rfl) ?_);refine SG.l [20,21,22] ?_)
  refine W.k ?_
  refine Fin.to ((tr,cl (rtc d r) 120)::Ht) ?_
  exact F.f1 ⟨congrArg Value.bool (decide_eq_decide.2 ⟨Eq.symm,Eq.symm⟩),rfl⟩
 ·rw [decide_eq_false he,gB]
  (refine bK [] ?_;refine dN 9 rfl (aL6 rfl rfl rfl h32 hr.len he) ?_;refine SG.l [10,11,12,13,14,15,16] ?_;(first|refine cR 17 rfl ?_;refine SG.l [18,19,20,21,22] ?_|refine aX 17 ?_))
  refine W.k ?_
  refine Fin.to ((tr,cl (rtc d r) 120)::Ht) ?_
  exact F.f1 ⟨rfl,rfl⟩
theorem aMl{d tr sp p t:Nat}(h:Gm.Ok p t){σ:Dv}{r:Rg}{Hd:Hp}(hD:lS d σ Hd)(hlen:σ.len=256*Gm.total p t)(hr:r.Ok) :
  Tri prog 197 [sJ d tr sp p t] ((tr,cl (rtc d r) 120)::Hd) (fun _=>True)
  (fun v H=>(σ.down=true∧v=.tuple #[.agg #[.int .i64 0,.slice none 0 0,.int .u64 0,.slice none 0 0],.int .i64 8]∧H=(tr,cl (rtc d r) 120)::Hd) ∨
   (σ.down=false∧∃ v1 cv ev Hb,v=.tuple #[.agg #[.int .i64 ((gK p t σ r).1:Nat),v1,.int .u64 cv,ev],.int .i64 0]∧One ev∧Bls v1 (gK p t σ r).2 Hb∧H=(tr,cl (rtc d r) 120)::(Hd++Hb))):=by
 refine Tri.mk func197 rfl ntmps197 rfl fun w hw=>?_
 have hmy:=aEs (tr:=tr) (s:=sp) h hD hlen
 have ht:=h.2.2.2
 have hall:=aAH h
 have hc4:=aIQ h
 have hpl:=pY (Gm.all p t)
 have hll:=Gm.leaves_le h
 have hsl:=Gm.sealed_le h
 have hel:=Gm.epochs_le h
 have hLe:Gm.leaves p=1+Gm.epochs p+Gm.sealed p:=rfl
 have htot:Gm.total p t=Gm.leaves p+(1+t):=rfl
 have hld1:=aDH (tr:=tr) (sp:=sp) h hD hlen 0 (Gm.leaves p) oQ
 have hld2:=aDH (tr:=tr) (sp:=sp) h hD hlen (Gm.leaves p) (1+t) oQ
 rw [show ((1+t:Nat):Int)=1+(t:Int) by omega] at hld2
 obtain⟨f1,f2,f3⟩:=aFM d hr
 refine W.k fun _ b_=>?_
 refine aG hmy ?_
 rintro _ Hx ⟨rfl,hx⟩
 have hx:=hx.symm
 subst hx
 refine W.k ?_
 generalize b_=bf at *
 (refine SW.l [6] [0,1,4,5] ?_;refine aX 2 ?_)
 refine aG hall ?_
 rintro _ _ ⟨Hs,hS,rfl⟩
 obtain⟨a,len,cap,rfl,hl1⟩:=hS.form
 rw [hpl,Gm.all_len] at hl1
 have hl2:len=Gm.leaves p+(1+t):=oQ
 subst hl2
 clear hS
 (refine SL.l [3] ?_;refine bV 6 ?_)
 refine W.cq hc4 ?_
 (refine SL.l [7,8,9] ?_)
 have e0:((Gm.leaves p+(1+t):Nat):Int)-((1+t:Nat):Int)=((Gm.leaves p:Nat):Int):=oQ
 rw [e0]
 have hbfl:∀ (k:Int) (a1:Option Addr) (l1 c1:Nat),bS (fun i=>[(0,1),(1,1),(2,2)][i]?) [.int .i64 0,.slice none 0 0,.int .u64 0,.slice none 0 0] [(0,.int .i64 k),(1,.slice a1 l1 c1)]=some [.int .i64 k,.slice a1 l1 c1,.int .u64 0,.slice none 0 0]:=fun _ _ _ _=>rfl
 by_cases hdn:σ.down=true
 ·have e1:ldS σ 0 (Gm.leaves p)=(8,[]):=by unfold ldS;rw [if_neg (by rw [hdn];simp;omega)]
  rw [e1] at hld1
  dsimp only at hld1
  refine W.k ?_
  refine aG hld1 ?_
  rintro _ _ ⟨v1,Hb,rfl,hB,rfl⟩
  have hB1:=hB.one
  refine W.k ?_
  refine rP ((tr,cl (rtc d r) 120)::Hd) [.int .i64 0,.slice none 0 0,.int .u64 0,.slice none 0 0] ?_
  exact .inl ⟨hdn,rfl,rfl⟩
 have hdn2:σ.down=false:=by simpa using hdn
 have e1:ldS σ 0 (Gm.leaves p)=(0,σ.blks 0 (Gm.leaves p)):=by unfold ldS;rw [if_pos (.inr hdn2)]
 have e2:ldS σ (Gm.leaves p) (1+t)=(0,σ.blks (Gm.leaves p) (1+t)):=by unfold ldS;rw [if_pos (.inr hdn2)]
 rw [e1] at hld1
 rw [e2] at hld2
 dsimp only at hld1 hld2
 have hb1:=wO (a:=0) (n:=Gm.leaves p) hD.1 hdn2 hlen oQ
 have hb2:=wO (a:=Gm.leaves p) (n:=1+t) hD.1 hdn2 hlen oQ
 have hn1:=σ.blks_len 0 (Gm.leaves p)
 have hn2:=σ.blks_len (Gm.leaves p) (1+t)
 have hlb:gK p t σ r=vH p t r (σ.blks 0 (Gm.leaves p)) (σ.blks (Gm.leaves p) (1+t)):=rfl
 rw [hlb]
 clear hlb e1 e2 hdn
 generalize σ.blks 0 (Gm.leaves p)=l at *
 generalize σ.blks (Gm.leaves p) (1+t)=logs at *
 refine W.k ?_
 refine aG hld1 ?_
 rintro _ _ ⟨v1,Hb,rfl,⟨vs,Hv,Ht,hSv,hRv,rfl⟩,rfl⟩
 have hSv1:=hSv.isOne
 obtain⟨va,vl,vc,rfl,hvl⟩:=hSv.form
 refine W.k ?_
 refine aG hld2 ?_
 rintro _ _ ⟨v2,Hlb,rfl,⟨lvs,Hlv,Hlt,hSl,hRl,rfl⟩,rfl⟩
 have hSl1:=hSl.isOne
 obtain⟨la,ll,lc,rfl,-⟩:=hSl.form
 have hfi:=fun (Ht:Hp) v vs (bss:List (List UInt8)) hR hn hb=>aMr (d:=d) (tr:=tr) (sp:=sp) h hr (Ht:=Ht) v vs bss hR hn hb
 refine W.k ?_
 refine W.cq (hfi Ht _ vs l hRv hn1 hb1) ?_ (hpre:=fun w2 hs=>Rd.own (Hc:=(tr,cl (rtc d r) 120)::Ht) hSv hs inferInstance)
 by_cases hf:lU p t r.root l=true
 ·rw [vI hf,hf]
  refine W.k ?_
  refine rP ((tr,cl (rtc d r) 120)::(Hd++(Hv++Ht))) [.int .i64 1,.slice va vl vc,.int .u64 0,.slice none 0 0] ?_
  exact .inr ⟨hdn2,_,0,_,_,rfl,⟨rfl⟩,⟨vs,Hv,Ht,hSv,hRv,rfl⟩,rfl⟩
 have hff:lU p t r.root l=false:=by simpa using hf
 rw [hff]
 have hpa:=fun v=>aIU h v lvs logs hRl hn2 hb2
 refine W.k ?_
 refine aG (hpa _) ?_ (hpre:=fun w2 hs=>Rd.own (Hc:=Hlt) hSl hs inferInstance)
 rintro _ _ ⟨Hn,hP,rfl⟩
 clear hpa hld1 hld2 hall hc4 hmy hpl hl1
 cases hpl:nW p t logs with
 | none=>
  rw [hpl] at hP
  obtain⟨rfl,rfl⟩:=hP
  have hlr:wY p t r logs=none:=by unfold wY;rw [hpl]
  rw [tB hf hlr]
  refine W.k fun b_=>?_
  (refine SW.l [] [0,1,2,3,4,5,6,7,8,9,10,11,12,13] ?_)
  refine W.k ?_
  refine rP ((tr,cl (rtc d r) 120)::(Hd++(Hv++Ht))) [.int .i64 3,.slice va vl vc,.int .u64 0,.slice none 0 0] ?_
  exact .inr ⟨hdn2,_,0,_,_,rfl,⟨rfl⟩,⟨vs,Hv,Ht,hSv,hRv,rfl⟩,rfl⟩
 | some y=>
 rw [hpl] at hP
 obtain⟨c,es⟩:=y
 obtain⟨ev,us,rfl,hSe,hRe⟩:=hP
 have hSe1:=hSe.isOne
 have hmay:=aBl hpl
 dsimp only at hSe hRe hmay ⊢
 by_cases hc:¬ (c.toNat:Int)=r.c
 ·have hlr:wY p t r logs=none:=by unfold wY;rw [hpl];dsimp only;rw [if_neg hc]
  rw [tB hf hlr]
  refine W.k fun b_=>?_
  (refine SW.l [] [0,1,2,3,4,5,6,7,8,9,10,11,12,13] ?_)
  refine W.k ?_
  refine rP ((tr,cl (rtc d r) 120)::(Hd++(Hv++Ht))) [.int .i64 3,.slice va vl vc,.int .u64 0,.slice none 0 0] ?_
  exact .inr ⟨hdn2,_,0,_,_,rfl,⟨rfl⟩,⟨vs,Hv,Ht,hSv,hRv,rfl⟩,rfl⟩
 have hc2:(c.toNat:Int)=r.c:=Decidable.not_not.1 hc
 have hlr:wY p t r logs=some (c,es):=by unfold wY;rw [hpl];dsimp only;rw [if_pos hc2]
 rw [wT hf hlr]
 have hl4:=aBu p c es l
 have hl256:=aBt (c:=c) hmay hb1
 dsimp only
 have hredo:sL p c es l=sM (eE c (nD p l) es) (rH p l es) (dW es):=rfl
 refine W.k fun b_=>?_
 generalize b_=b8 at *
 (refine SW.l [] [0,1,2,3,4,5,6,7,8,9,10,11,12,13] ?_)
 refine W.k ?_
 refine aG (aBp h _ vs l hRv hn1 hb1) ?_ (hpre:=fun w2 hs=>Rd.own (Hc:=Ht) hSv hs inferInstance)
 rintro v10 _ ⟨Hep,hSp,rfl⟩
 have hebl:=sC p l
 have hesl:1≤es.length∧es.length≤t:=by unfold gV at hmay;rw [bX,decide_eq_true_iff] at hmay;exact hmay.1
 have hmall:∀ (k:Nat) (x:Ent),es[k]?=some x → -1<x.1∧x.1<(Gm.sealed p:Nat)∧x.2.length=256:=by unfold gV at hmay;rw [bX] at hmay;exact mP hmay.2
 have hmL:oM p (-1) es=true:=by unfold gV at hmay;rw [bX] at hmay;exact hmay.2
 have htlt:=vQ hmay
 have htle:=tG es
 have hul:us.length=es.length:=by rw [hRe.1,aD]
 have hoc:=hRe.oc
 have hvl2:=hRv.1
 have hocv:=hRv.oc
 have hel2:=gE us es hul
 have hmt:=fun v=>aIP (p:=p) v us es hul hoc hmL oQ oQ
 have hx0 : -1<(es[0]'oQ).1∧(es[0]'oQ).1<(Gm.sealed p:Nat)∧_:=hmall 0 _ (aA oQ)
 have hs1:1≤Gm.sealed p:=oQ
 clear hx0
 rw [hredo] at hl4 hl256 ⊢
 clear hredo hmay hpl hlr hmL
 generalize nD p l=E0 at *
 rcases hSp with ⟨-,hz,-⟩|⟨be,elen0,ecap0,ejunk0,rfl,hexl0,hej0,hec0,rfl⟩
 ·have h9:=iE E0
  rw [hz,List.length_nil] at h9
  omega
 have hSe0:=hSe
 rcases hSe with ⟨-,hz,-⟩|⟨eb,elen,ecap,ejunk,rfl,hexl,hej,hec,rfl⟩
 ·rw [hz] at hel2;simp at hel2;omega
 obtain rfl:elen=es.length:=by omega
 rw [iE] at hexl0
 obtain rfl:elen0=E0.length:=by omega
 refine W.k fun b_=>?_
 refine W.ap (Sl.own 23 1 b_ (len:=0) (xs:=[]) rfl) (ys:=vs) (mm:=vl) (fun w2 hs=>hSv.srcAt hs inferInstance) (fun v11 H11 h11=>?_) (hys:=by omega) (hbytes:=by simp;omega)
 rw [List.nil_append] at h11
 rcases h11 with ⟨-,hz,-⟩|⟨bb,len,cap11,junk,rfl,hxl,hj,hlc,rfl⟩
 ·rw [hz] at hvl2;simp at hvl2;omega
 obtain rfl:len=vs.length:=by omega
 refine W.j ?_
 refine bW [1,2,5,8,10,11] [(bb,cl (vs++junk) 23),(be,cl (uv E0++ejunk0) 33)] (fun _:List Value=>[]) (fun y=>[(bb,cl (y++junk) 23),(be,cl (uv (eE c E0 es)++ejunk0) 33)]) (fun y=>RB (Ht++Hlt) y (rH p l es)) ?_ ?_
 ·rw [show uv E0=uv (eE c E0 (es.take 0)) from rfl]
  refine W.k ?_
  refine bF [1,2,5,8,10,11,87,88] (fun y:Nat×List Value=>[(89,.int .i64 (y.1:Int))]) (fun y=>[(bb,cl (y.2++junk) 23),(be,cl (uv (eE c E0 (es.take y.1))++ejunk0) 33)]) (fun y=>es.length-y.1) (fun y=>y.1≤es.length∧RB (Ht++Hlt) y.2 (rH p l (es.take y.1))) (0,vs) ⟨Nat.zero_le _,hRv.mono fun x hx=>aN _ hx⟩ ?_
  rintro⟨k,vs2⟩ ⟨hk,hR2⟩
  dsimp only at hk hR2 ⊢
  have hvl3:=hR2.1
  rw [uP,hn1] at hvl3
  have hoc2:=hR2.oc
  by_cases hkn:k<es.length
  ·have hx:=aA hkn
   have htk:es.take (k+1)=es.take k++[es[k]]:=by rw [bA,hx];rfl
   obtain⟨u,huk,hru⟩:=hRe.2 k es[k].2 (by rw [aH,hx];rfl)
   have hrow:=xQ (junk:=ejunk) hul huk hx
   obtain⟨hx1,hx2,hx3⟩:=hmall k _ hx
   have hSs:=aCH p l (es.take k) es[k]
   have hEs:=zP c E0 (es.take k) es[k]
   rw [← htk] at hSs hEs
   have hEl:=oH c (es.take k) E0
   have huo:=hru.one
   generalize es[k]=x at *
   obtain⟨K,hKK⟩:∃ K:Nat,x.1=(K:Int):=⟨x.1.toNat,by omega⟩
   rw [show x.1.toNat=K by omega] at hSs hEs
   rw [hKK] at hrow
   have hsa:=aGL h (K:=3) (n:=Gm.sealed p) (base:=1+Gm.epochs p) (.inr (.inl ⟨rfl,rfl,rfl⟩)) (K:Int)
   rw [show Gm.atK (Gm.sealed p) (1+Gm.epochs p) (K:Int)=((1+Gm.epochs p+K:Nat):Int) by unfold Gm.atK;rw [if_pos oQ];omega] at hsa
   have hset:=yF (vs:=vs2) (junk:=junk) (i:=1+Gm.epochs p+K) oQ u
   have hset2:=aG0 (eE c E0 (es.take k)) K c
   rw [← hEs] at hset2
   have hset3:=yF (vs:=uv (eE c E0 (es.take k))) (junk:=ejunk0) (i:=K) (by rw [iE,hEl];omega) (eX c)
   rw [hset2] at hset3
   have hlt1:1+Gm.epochs p+K<(vs2++junk).length:=by rw [aB];omega
   have hlt2:K<(uv (eE c E0 (es.take k))++ejunk0).length:=by rw [aB,iE,hEl];omega
   refine W.k fun b_=>?_
   (refine SW.l [] [0,1,2,3,4,6,7] ?_;refine aX 5 ?_)
   refine W.cq hsa ?_
   (refine SL.l [8] ?_;refine aX 9 ?_;refine W.i ?_;refine SS.dn ?_)
   rw [hset]
   refine W.k ?_
   rw [hset3]
   refine aQ.mk (k+1,vs2.set (1+Gm.epochs p+K) u) ?_
   refine⟨hkn,?_⟩
   dsimp only
   rw [hSs]
   exact hR2.set (hru.mono fun x hx=>aM _ hx) _
  ·have hkl:k=es.length:=oQ
   rw [hkl,bP] at hR2 ⊢
   subst hkl
   refine W.k ?_
   refine bZ.mk vs2 ?_
   exact hR2
 rintro vs2 hR2
 have hEl:=oH c es E0
 have hvl3:=hR2.1
 rw [uP,hn1] at hvl3
 generalize eE c E0 es=E1 at *
 generalize rH p l es=M1 at *
 refine W.k ?_
 refine aG (hmt _) ?_ (hpre:=fun w2 hs=>Rd.own (Hc:=[]) hSe0 hs inferInstance)
 rintro _ Hq hSt
 have hSt1:=hSt.isOne
 obtain⟨ta,tl,tc2,rfl,htl⟩:=hSt.form
 rw [Nat.mul_one,aD] at htl
 subst htl
 refine W.j ?_
 refine bW [1,2,5,8,10,11] [(bb,cl (vs2++junk) 23)] (fun _:List Value×Hp=>[]) (fun y=>(bb,cl (y.1++junk) 23)::y.2) (fun y=>RB ((Ht++Hlt)++y.2) y.1 (sM E1 M1 (dW es))) ?_ ?_
 ·refine W.k ?_
  refine bF [1,2,5,8,10,11,111,112] (fun y:Nat×List Value×Hp=>[(113,.int .i64 (y.1:Int))]) (fun y=>(bb,cl (y.2.1++junk) 23)::y.2.2) (fun y=>(dW es).length-y.1) (fun y=>y.1≤(dW es).length∧RB ((Ht++Hlt)++y.2.2) y.2.1 (sM E1 M1 ((dW es).take y.1))) (0,vs2,[]) ⟨Nat.zero_le _,by rw [aF];exact hR2⟩ ?_
  rintro⟨k,vs3,Hn3⟩ ⟨hk,hR3⟩
  dsimp only at hk hR3 ⊢
  have hvl4:=hR3.1
  rw [yC] at hvl4
  have hM1:=hR2.1
  have hoc3:=hR3.oc
  by_cases hkn:k<(dW es).length
  ·rcases hSt with ⟨hz,hz2,-⟩|⟨qb,qlen,qcap,qjunk,hz,hqxl,hqj,hqc,rfl⟩
   ·simp only [Value.slice.injEq] at hz;omega
   simp only [Value.slice.injEq] at hz
   obtain⟨rfl,rfl,rfl⟩:=hz
   have hx:=aA hkn
   have hlu:(nv (dW es)++qjunk)[k]?=some (.int .i64 (((dW es)[k]:Nat):Int)):=by
    rw [aO (by rw [aD];exact hkn),aH,hx];rfl
   have htk:(dW es).take (k+1)=(dW es).take k++[(dW es)[k]]:=by rw [bA,hx];rfl
   have hlt:=htlt _ (cP hkn)
   have hTs:=aCI E1 M1 ((dW es).take k) (dW es)[k]
   rw [← htk] at hTs
   generalize (dW es)[k]=q at *
   have hsb:=aFF q oQ (.slice (some ⟨be,0,none⟩) E0.length ecap0) E1
   have hea:=aGL h (K:=2) (n:=Gm.epochs p) (base:=1) (.inl ⟨rfl,rfl,rfl⟩) (q:Int)
   rw [show Gm.atK (Gm.epochs p) 1 (q:Int)=((1+q:Nat):Int) by unfold Gm.atK;rw [if_pos oQ];omega] at hea
   have hlt1:1+q<(vs3++junk).length:=by rw [aB];omega
   refine W.k ?_
   refine W.cw hea ?_
   refine aG hsb ?_ (hpre:=fun w2 hs=>Rd.own (Hc:=[]) (e:=33) (Hs:=[(be,cl (uv E1++ejunk0) 33)]) (.inr ⟨be,E0.length,ecap0,ejunk0,rfl,by rw [iE,hEl,Nat.mul_one],hej0,hec0,rfl⟩) hs inferInstance)
   rintro v5 H5 h5
   have h51:=h5.isOne
   have hset:=yF (vs:=vs3) (junk:=junk) (i:=1+q) oQ v5
   refine W.k ?_
   rw [hset]
   refine aQ.mk (k+1,vs3.set (1+q) v5,H5++Hn3) ?_
   refine⟨hkn,?_⟩
   dsimp only
   rw [hTs]
   refine (hR3.mono fun x hx=>?_).set ((RdH.of h5).mono fun x hx=>?_) _
   ·rcases bG.1 hx with h|h
    ·exact aN _ h
    ·exact aM _ (aM _ h)
   ·exact aM _ (aN _ hx)
  ·have hkl:k=(dW es).length:=oQ
   rw [hkl,bP] at hR3
   subst hkl
   refine W.k ?_
   refine bZ.mk (vs3,Hn3) ?_
   exact hR3
 rintro⟨vs3,Hn3⟩ hR3
 dsimp only at hR3 ⊢
 have hvl5:=hR3.1
 generalize sM E1 M1 (dW es)=l4 at *
 have hSw:Sl 23 1 (.slice (some ⟨bb,0,none⟩) vs.length cap11) vs3 [(bb,cl (vs3++junk) 23)]:=.inr ⟨bb,vs.length,cap11,junk,rfl,by omega,hj,hlc,rfl⟩
 have hbf2:bS (fun i=>[(0,1),(1,1),(2,2)][i]?) [.int .i64 0,.slice none 0 0,.int .u64 0,.slice none 0 0] [(0,.int .i64 2),(1,.slice (some ⟨bb,0,none⟩) vs.length cap11),(2,.agg [eX c,.slice (some ⟨eb,0,none⟩) es.length ecap].toArray)]=some [.int .i64 2,.slice (some ⟨bb,0,none⟩) vs.length cap11,eX c,.slice (some ⟨eb,0,none⟩) es.length ecap]:=rfl
 refine W.k ?_
 refine W.cq (hfi ((Ht++Hlt)++Hn3) _ vs3 l4 hR3 oQ hl256) ?_ (hpre:=fun w2 hs=>Rd.own (Hc:=(tr,cl (rtc d r) 120)::((Ht++Hlt)++Hn3)) hSw hs inferInstance)
 by_cases hf2:lU p t r.root l4=true
 ·rw [if_pos hf2,hf2]
  refine W.k ?_
  refine rP ((tr,cl (rtc d r) 120)::(Hd++([(bb,cl (vs3++junk) 23)]++((Ht++Hlt)++Hn3)))) [.int .i64 2,.slice (some ⟨bb,0,none⟩) vs.length cap11,eX c,.slice (some ⟨eb,0,none⟩) es.length ecap] ?_
  exact .inr ⟨hdn2,_,(c.toNat:Int),_,_,rfl,⟨rfl⟩,⟨vs3,_,_,hSw,hR3,rfl⟩,rfl⟩
 ·have hff2:lU p t r.root l4=false:=by simpa using hf2
  rw [if_neg hf2,hff2]
  refine W.k ?_
  refine rP ((tr,cl (rtc d r) 120)::(Hd++(Hv++Ht))) [.int .i64 3,.slice va vl vc,.int .u64 0,.slice none 0 0] ?_
  exact .inr ⟨hdn2,_,0,_,_,rfl,⟨rfl⟩,⟨vs,Hv,Ht,hSv,hRv,rfl⟩,rfl⟩
end
end Go.Proofs.YtnhnpjokpelkbaaGreat
