/- What stands on a device: the document's. -/
import Derived.Test.YtmceanmblcadcaaGreatPn28
import Derived.Test.YtmceanmblcadcaaGreatPn29
import Derived.Test.YtmceanmblcadcaaGreatPn25
set_option linter.unusedVariables false
set_option linter.unusedSimpArgs false
set_option linter.unusedSectionVars false
set_option maxHeartbeats 4000000
namespace Go.Proofs.YtmceanmblcadcaaGreat
open Go Go.Proofs.Tryz
section
attribute [local irreducible] SW SL SQ SH SA SS Pu Fin bU aP
theorem xH{p:Nat}:∀ {l:List Ent} {last:Int},vC p last l=true→∀ (k:Nat) (x y:Ent),l[k]?=some x→l[k+1]?=some y→x.1<y.1
 | [],_,_,k,x,y,h,_=>by simp at h
 | z::l,last,hm,k,x,y,hx,hy=>by
  rw [tU,bY] at hm
  cases k with
  | zero=>cases hx;exact (oU hm.2 0 y hy).1
  | succ k=>exact xH hm.2 k x y hx hy
theorem aFj{p:Nat}{l:List Ent}(hm:vC p (-1) l=true):∀ k,k≤l.length→(k=0∧gF (l.take k)=[])∨∃ x,l[k-1]?=some x∧0<k∧(gF (l.take k)).getLast?=some (x.1.toNat/32)∧∀ q∈gF (l.take k),q≤x.1.toNat/32:=by
 intro k
 induction k with
 | zero=>intro _;exact .inl ⟨rfl,rfl⟩
 | succ k ih=>
  intro hk
  have hx:=aA (show k<l.length by omega)
  have hts:gF (l.take (k+1))=uV (gF (l.take k)) l[k]:=by rw [bG,hx,← xV];rfl
  refine .inr ⟨l[k],hx,by omega,?_⟩
  rw [hts]
  rcases ih oQ with ⟨h0,h1⟩|⟨y,hy,h0,h1,h2⟩
  ·rw [h1]
   unfold uV
   simp
  ·have hr:=xH hm (k-1) y l[k] hy (by rw [show k-1+1=k by omega];exact hx)
   have hle:y.1.toNat/32≤l[k].1.toNat/32:=Nat.div_le_div_right oQ
   unfold uV
   split
   ·rename_i hin
    have:=h2 _ hin
    exact⟨by rw [h1];congr 1;omega,fun q hq=>gS (h2 q hq) hle⟩
   ·refine⟨by simp,fun q hq=>?_⟩
    rcases bQ.1 hq with h|h
    ·exact gS (h2 q h) hle
    ·rw [cY] at h;omega
theorem aE5{p:Nat}(v:Value)(us:List Value)(l:List Ent)(hul:us.length=l.length)(hoc:OC us)(hm:vC p (-1) l=true)(hs:Gm.sealed p≤1000)(hn:l.length≤1000) :
  Tri prog 237 [v] [] (fun w=>Rd [] w 2 v (jO us l)) (fun r H=>Sl 3 1 r (nv (gF l)) H):=by
 refine Tri.mk func237 rfl ntmps237 rfl fun w hw=>?_
 unfold jO at hw
 obtain⟨a,ca,rfl,hcap,hg⟩:=hw.rows dQ (pE us l)
 have hzl:(List.zipWith (fun u (x:Ent)=>[Value.int .i64 x.1,u]) us l).length=l.length:=by rw [iE,hul,jV]
 rw [hzl] at hcap ⊢
 have hY:One (Value.slice a l.length ca):=⟨rfl⟩
 refine W.j ?_
 refine bZ [] [] (fun x:Value×Hp=>[(3,x.1)]) (fun x=>x.2) (fun x=>Sl 3 1 x.1 (nv (gF l)) x.2) ?_ ?_
 ·refine W.k ?_
  refine bH [6,7] (fun x:Nat×Value×Hp=>[(3,x.2.1),(8,.int .i64 (x.1:Int))]) (fun x=>x.2.2) (fun x=>l.length-x.1) (fun x=>x.1≤l.length∧Sl 3 1 x.2.1 (nv (gF (l.take x.1))) x.2.2) (0,.slice none 0 0,[]) ⟨Nat.zero_le _,Sl.nil _ _⟩ ?_
  rintro⟨k,v2,H2⟩ ⟨hk,h2⟩
  dsimp only at hk h2 ⊢
  have h21:=h2.isOne
  by_cases hkn:k<l.length
  ·have hx:=aA hkn
   have hz:(List.zipWith (fun u (x:Ent)=>[Value.int .i64 x.1,u]) us l)[k]?=some [.int .i64 l[k].1,us[k]]:=by rw [fP,hx,aA (show k<us.length by omega)]
   obtain⟨pb,po,lv,T,fz,rfl,hb,hkK,hv⟩:=hg k _ hz
   have hts:gF (l.take (k+1))=uV (gF (l.take k)) l[k]:=by rw [bG,hx,← xV];rfl
   have htl:(gF (l.take k)).length≤k:=by have:=zC (l.take k);rw [aI] at this;omega
   have hla:=aFj hm k hk
   have hmk:=oU hm k _ hx
   have hri:=fun y hy (h0:0<k)=>xH hm (k-1) y l[k] hy (by rw [show k-1+1=k by omega];exact hx)
   have hou:One us[k]:=⟨hoc.ok _ (dO _)⟩
   generalize us[k]=u at *
   generalize l[k]=x at *
   generalize gF (l.take k)=o at *
   generalize hO2:gF (l.take (k+1))=o2 at *
   obtain⟨K,hKK⟩:∃ K:Nat,x.1=(K:Int):=⟨x.1.toNat,by omega⟩
   rw [hKK] at hv
   have hdv:((K:Int)/32)=((K/32:Nat):Int):=rfl
   unfold uV at hts
   rw [show x.1.toNat=K by omega] at hts
   have hb31:bP (fun i=>some (i*1,1)) (zs [.int .i64 0] 1) [(0,.int .i64 ((K/32:Nat):Int))]=some (nv [K/32]):=rfl
   have hS0:=h2
   rcases hla with ⟨h0,rfl⟩|⟨y,hy,h0,h1,h3⟩
   ·rw [if_neg (by simp)] at hts
    rcases h2 with ⟨rfl,-,rfl⟩|⟨qb,qlen,qcap,qjunk,rfl,hqx,hqj,hqc,rfl⟩
    ·refine W.k fun b_=>?_
     (refine SW.l [] [0,1,2,3,4,5,6,7,8,9,10,11,12,13,14,15] ?_)
     refine W.k fun b_=>?_
     refine W.ap hS0 (ys:=nv [K/32]) (mm:=1) (fun w2 hs=>(Sl.own 3 1 b_ (xs:=nv [K/32]) rfl).srcAt hs inferInstance) (fun v3 H3 h33=>?_) (hys:=rfl) (hbytes:=by simp;try omega)
     have h331:=h33.isOne
     rw [← bC,← hts] at h33
     refine W.k ?_
     refine aP.mk (k+1,v3,H3) ?_
     exact⟨hkn,by dsimp only;rw [hO2];exact h33⟩
    ·obtain rfl:qlen=0:=by simp at hqx;omega
     refine W.k fun b_=>?_
     (refine SW.l [] [0,1,2,3,4,5,6,7,8,9,10,11,12,13,14,15] ?_)
     refine W.k fun b_=>?_
     refine W.ap hS0 (ys:=nv [K/32]) (mm:=1) (fun w2 hs=>(Sl.own 3 1 b_ (xs:=nv [K/32]) rfl).srcAt hs inferInstance) (fun v3 H3 h33=>?_) (hys:=rfl) (hbytes:=by simp;try omega)
     have h331:=h33.isOne
     rw [← bC,← hts] at h33
     refine W.k ?_
     refine aP.mk (k+1,v3,H3) ?_
     exact⟨hkn,by dsimp only;rw [hO2];exact h33⟩
   ·rcases h2 with ⟨rfl,hz2,rfl⟩|⟨qb,qlen,qcap,qjunk,rfl,hqx,hqj,hqc,rfl⟩
    ·have:o=[]:=by simpa using hz2
     rw [this] at h1;simp at h1
    have hol:qlen=o.length:=by rw [aJ] at hqx;omega
    subst hol
    have hmo:=List.mem_of_getLast? h1
    have hol1:0<o.length:=List.length_pos_of_mem hmo
    rw [List.getLast?_eq_getElem?] at h1
    have hyx:=hri y hy h0
    have hyK:y.1.toNat/32≤K/32:=Nat.div_le_div_right oQ
    have hlast:(nv o++qjunk)[o.length-1]?=some (.int .i64 ((y.1.toNat/32:Nat):Int)):=by
     rw [aK (by rw [aJ];omega),aL,h1];rfl
    generalize y.1.toNat/32=m at *
    haveI:dK ((o.length:Int)-1) (o.length-1):=⟨by omega⟩
    by_cases hin:K/32∈o
    ·rw [if_pos hin] at hts
     have hmK:m=K/32:=by have:=h3 _ hin;omega
     subst hts
     refine W.k fun b_=>?_
     (refine SW.l [] [0,1,2,3,4,5,6,7,8,9,10,11,12,13,14,15] ?_)
     refine W.k ?_
     refine aP.mk (k+1,.slice (some ⟨qb,0,none⟩) o2.length qcap,[(qb,cl (nv o2++qjunk) 3)]) ?_
     exact⟨hkn,by dsimp only;rw [hO2];exact hS0⟩
    ·rw [if_neg hin] at hts
     have hmK:¬ m=K/32:=fun h=>hin (h▸hmo)
     refine W.k fun b_=>?_
     (refine SW.l [] [0,1,2,3,4,5,6,7,8,9,10,11,12,13,14,15] ?_)
     refine W.k fun b_=>?_
     refine W.ap hS0 (ys:=nv [K/32]) (mm:=1) (fun w2 hs=>(Sl.own 3 1 b_ (xs:=nv [K/32]) rfl).srcAt hs inferInstance) (fun v3 H3 h33=>?_) (hys:=rfl) (hbytes:=by simp;try omega)
     have h331:=h33.isOne
     rw [← bC,← hts] at h33
     refine W.k ?_
     refine aP.mk (k+1,v3,H3) ?_
     exact⟨hkn,by dsimp only;rw [hO2];exact h33⟩
  ·have hkl:k=l.length:=oQ
   rw [hkl,cK] at h2
   subst hkl
   refine W.k ?_
   refine bU.mk (v2,H2) ?_
   exact h2
 rintro⟨v2,H2⟩ h2
 dsimp only at h2 ⊢
 have h21:=h2.isOne
 refine W.k ?_
 refine Fin.to H2 ?_
 exact F.f1 h2
instance arrEq:EqB prog 54 32 where
 guard:=by kernel_rfl
 row:=inferInstance
 ok:=⟨_,underlying54,underlying5,by kernel_rfl,inferInstance⟩
theorem aBe{d tr sp p t:Nat}(h:Gm.Ok p t){σ:Dv}{Hd:Hp}(hD:jY d σ Hd)(hlen:σ.len=256*Gm.total p t)(from_ n:Nat)(hn:from_+n≤Gm.total p t) :
  Tri prog 234 [oW d tr sp p t,.int .i64 (from_:Int),.int .i64 (n:Int)] Hd (fun _=>True)
  (fun v H=>∃ v1 Hb,v=.tuple #[v1,.int .i64 (ldS σ from_ n).1]∧Bls v1 (ldS σ from_ n).2 Hb∧H=Hd++Hb):=by
 refine Tri.mk func234 rfl ntmps234 rfl fun w hw=>?_
 have htl:=Gm.total_le2 h
 unfold ldS
 generalize Gm.total p t=m at *
 refine W.j fun b_=>?_
 refine bZ [] [] (fun x:Value×Hp=>[(8,x.1)]) (fun x=>x.2) (fun x=>(n=0∨σ.down=false)∧Bls x.1 (σ.blks from_ n) x.2) ?_ ?_
 ·refine W.k ?_
  refine bH [1,2,3] (fun x:Nat×Value×List Value×Hp×Hp=>[(8,x.2.1),(9,.int .i64 (x.1:Int))]) (fun x=>x.2.2.2.1++x.2.2.2.2) (fun x=>n-x.1)
   (fun x=>(x.1≤n∧(x.1=0∨σ.down=false))∧Sl 23 1 x.2.1 x.2.2.1 x.2.2.2.1∧RB x.2.2.2.2 x.2.2.1 (σ.blks from_ x.1)) (0,.slice none 0 0,[],[],[]) ⟨⟨Nat.zero_le _,.inl rfl⟩,Sl.nil _ _,RB.nil _⟩ ?_
  rintro⟨k,v2,vs2,Hv2,Ht2⟩ ⟨⟨hk,hk0⟩,hS2,hR2⟩
  dsimp only at hk hk0 hS2 hR2 ⊢
  have hY2:=hS2.isOne
  have hvl2:=hR2.1
  rw [Dv.blks_len] at hvl2
  by_cases hkn:k<n
  ·have hld:=aIf hD ((256*(from_+k):Nat):Int) 256
   have hr0:σ.rdy ((256*(from_+k):Nat):Int) 256=if σ.down=true then 8 else 0:=by
    unfold Dv.rdy
    split
    ·rfl
    ·rw [hlen,if_neg oQ]
   rw [hr0] at hld
   rw [show ((256*(from_+k):Nat):Int)=256*((from_:Int)+(k:Int)) by omega] at hld
   refine W.k ?_
   refine aH hld ?_
   rintro _ _ ⟨sv,Hs,rfl,hsv,rfl⟩
   have hsv1:=hsv.isOne
   obtain⟨a3,l3,c3,rfl,-⟩:=hsv.form
   by_cases hdn:σ.down=true
   ·rw [if_pos hdn]
    rw [if_neg (by rw [hdn];simp;omega)]
    refine W.k ?_
    refine Fin.to (Hd++[]) ?_
    exact F.f2 ⟨_,[],rfl,⟨[],[],[],Sl.nil _ _,RB.nil _,rfl⟩,rfl⟩
   ·rw [if_neg hdn]
    have hb44:bP (fun i=>some (i*1,1)) (zs [.slice none 0 0] 1) [(0,.slice a3 l3 c3)]=some [.slice a3 l3 c3]:=rfl
    refine W.k fun b_=>?_
    refine W.ap hS2 (ys:=[.slice a3 l3 c3]) (mm:=1) (fun w2 hs=>(Sl.own 23 1 b_ (xs:=[.slice a3 l3 c3]) rfl).srcAt hs inferInstance) (fun v3 H3 h3=>?_) (hys:=rfl) (hbytes:=by rw [hvl2];simp;omega)
    have h31:=h3.isOne
    refine W.k ?_
    refine aP.mk (k+1,v3,vs2++[.slice a3 l3 c3],H3,Hs++Ht2) ?_
    refine⟨⟨hkn,.inr (by simpa using hdn)⟩,h3,?_⟩
    dsimp only
    rw [Dv.blks_succ]
    exact (hR2.mono fun x hx=>aN _ hx).snoc ((RdH.of hsv).mono fun x hx=>aT _ hx)
  ·have hkn2:k=n:=oQ
   subst hkn2
   refine W.k ?_
   refine bU.mk (v2,Hv2++Ht2) ?_
   exact⟨hk0,vs2,Hv2,Ht2,hS2,hR2,rfl⟩
 rintro⟨v2,Hb2⟩ ⟨hok,hB⟩
 dsimp only at hok hB ⊢
 have hY2:=hB.one
 rw [if_pos hok]
 refine W.k ?_
 refine Fin.to (Hd++Hb2) ?_
 exact F.f2 ⟨v2,Hb2,rfl,hB,rfl⟩
theorem xO{p t:Nat}(h:Gm.Ok p t){Ht:Hp}(v:Value)(vs:List Value)(bss:List (List UInt8))(hR:RB Ht vs bss)(hn:bss.length=Gm.leaves p)(hb:∀ b∈bss,b.length=256) :
  Tri prog 190 [jQ p t,v] Ht (fun w=>Rd (Ht.map Prod.fst) w 1 v vs) (fun r H=>∃ Hs,Sl 33 1 r (uv (kW p bss)) Hs∧H=Hs++Ht):=by
 refine Tri.mk func190 rfl ntmps190 rfl fun w hw=>?_
 have hse:=pC h
 have hep:=vF h
 have hw0:=hw
 obtain⟨a,la,ca,rfl,hl1,hc1,hr1⟩:=hw.get
 rw [Nat.mul_one,hR.1] at hl1
 subst hl1
 have hY:One (Value.slice a bss.length ca):=⟨rfl⟩
 have hll:=Gm.leaves_le h
 have hL:Gm.leaves p=1+Gm.epochs p+Gm.sealed p:=rfl
 have hel:kW p bss=(List.range (Gm.sealed p)).map (qE ((bss.drop 1).take (Gm.epochs p))):=rfl
 have hE:32*Gm.epochs p≥Gm.sealed p:=by unfold Gm.epochs Gm.up;omega
 have hRp:=hR.part 1 (Gm.epochs p)
 have hpl:((bss.drop 1).take (Gm.epochs p)).length=Gm.epochs p:=by rw [aI,aW];omega
 have hpb:∀ b∈(bss.drop 1).take (Gm.epochs p),b.length=256:=fun b hbm=>hb b (jC (eE hbm))
 have hcut:=hw0.cutN ca 1 (1+Gm.epochs p) (ca-1) oQ oQ oQ oQ
 rw [show 1+Gm.epochs p-1=Gm.epochs p by omega] at hcut
 rw [hel]
 clear hel
 generalize (bss.drop 1).take (Gm.epochs p)=es at *
 generalize Gm.sealed p=S at *
 generalize Gm.epochs p=E at *
 refine W.j fun b_=>?_
 refine bZ [] [] (fun x:Value×Hp=>[(5,x.1)]) (fun x=>x.2) (fun x=>Sl 33 1 x.1 (uv ((List.range S).map (qE es))) x.2) ?_ ?_
 ·refine W.k ?_
  refine bH [1,2] (fun x:Nat×Value×Hp=>[(5,x.2.1),(6,.int .i64 (x.1:Int))]) (fun x=>x.2.2) (fun x=>S-x.1) (fun x=>x.1≤S∧Sl 33 1 x.2.1 (uv ((List.range x.1).map (qE es))) x.2.2) (0,.slice none 0 0,[]) ⟨Nat.zero_le _,Sl.nil _ _⟩ ?_
  rintro⟨k,v2,H2⟩ ⟨hk,h2⟩
  dsimp only at hk h2 ⊢
  have h21:=h2.isOne
  by_cases hkn:k<S
  ·have hcut2:=hcut
   rw [Nat.mul_one,Nat.one_mul] at hcut2
   have hre:=aGD (.slice (jX a ca 1 1) E (ca-1)) _ es hRp hpb k oQ oQ
   have hl2:(uv ((List.range k).map (qE es))).length=k:=by rw [iA];simp
   have hsn:uv ((List.range (k+1)).map (qE es))=uv ((List.range k).map (qE es))++[dX (qE es k)]:=by unfold uv;rw [bJ,bC,bC];rfl
   generalize hO2:uv ((List.range (k+1)).map (qE es))=o2 at *
   generalize uv ((List.range k).map (qE es))=o at *
   have hb44:bP (fun i=>some (i*1,1)) (zs [.int .u64 0] 1) [(0,dX (qE es k))]=some [dX (qE es k)]:=rfl
   haveI i2:dK (1+(E:Int)) (1+E):=⟨by omega⟩
   refine W.k ?_
   refine W.cw hse ?_
   refine W.cw hep ?_
   refine W.sG ?_ (i1:=i2)
   rw [show 1+E-1=E by omega]
   refine W.k ?_
   refine aH hre ?_ (hpre:=fun w2 hs=>hcut2.ro (Hc:=Ht) hs)
   rintro _ Hx ⟨rfl,hx⟩
   have hx:=hx.symm
   subst hx
   refine W.k fun b_=>?_
   refine W.ap h2 (ys:=[dX (qE es k)]) (mm:=1) (fun w2 hs=>(Sl.own 33 1 b_ (xs:=[dX (qE es k)]) rfl).srcAt hs inferInstance) (fun v3 H3 h3=>?_) (hys:=rfl) (hbytes:=by simp;omega)
   rw [← hsn] at h3
   have h31:=h3.isOne
   refine W.k ?_
   refine aP.mk (k+1,v3,H3) ?_
   exact⟨hkn,by dsimp only;rw [hO2];exact h3⟩
  ·obtain rfl:k=S:=by omega
   refine W.k ?_
   refine W.cw hse ?_
   refine bU.mk (v2,H2) ?_
   exact h2
 rintro⟨v2,H2⟩ h2
 dsimp only at h2 ⊢
 have h21:=h2.isOne
 refine W.k ?_
 refine Fin.to (H2++Ht) ?_
 exact F.f1 ⟨H2,h2,rfl⟩
theorem aIb{d tr sp p t:Nat}(h:Gm.Ok p t){r:Rg}(hr:r.Ok){Ht:Hp}(v:Value)(vs:List Value)(bss:List (List UInt8))(hR:RB Ht vs bss)(hn:bss.length=Gm.leaves p)(hb:∀ b∈bss,b.length=256) :
  Tri prog 235 [oW d tr sp p t,v] ((tr,cl (rtc d r) 119)::Ht) (fun w=>Rd (tr::Ht.map Prod.fst) w 1 v vs)
  (fun o H=>o=.bool (kJ p t r.root bss)∧H=(tr,cl (rtc d r) 119)::Ht):=by
 refine Tri.mk func235 rfl ntmps235 rfl fun w hw=>?_
 have hw0:=hw
 have hll:=Gm.leaves_le h
 have hL:Gm.leaves p=1+Gm.epochs p+Gm.sealed p:=rfl
 obtain⟨a,la,ca,rfl,hl1,hc1,hr1⟩:=hw.get
 rw [Nat.mul_one,hR.1] at hl1
 subst hl1
 have hY:One (Value.slice a bss.length ca):=⟨rfl⟩
 obtain⟨bb,o,l,T,fz,rfl,hbh,hkK,hy⟩:=hr1 oQ
 have hle:=uA (.slice (some ⟨bb,o,none⟩) bss.length ca) vs bss hR oQ hb
 obtain⟨f1,f2,f3⟩:=aCP d hr
 obtain⟨u,hu1,hu2⟩:=hR.2 0 _ (aA (show 0<bss.length by omega))
 have hlu:l[o+0]?=some u:=by
  have h2:((l.drop o).take (bss.length*1))[0]?=vs[0]?:=by rw [hy]
  rw [bB,if_pos oQ,bA,hu1] at h2
  exact h2
 rw [jD] at hlu
 have hu3:=hu2
 have huo:=hu2.one
 obtain⟨ua,ul,uc,rfl,-⟩:=hu3
 have h32:(fS bss).length=32:=Sha.sum_len _
 have hro:uP (eR bss)=fS bss:=rfl
 have hsl:(eR bss).length≤1024:=by rw [iZ];omega
 have hrr:=fun vv=>aEl (eR bss) (nL bss) vv hsl
 rw [hro] at hrr
 have hsb:=aCM h
 have hg0:bss.getD 0 []=bss[0]:=by rw [aC,aA (show 0<bss.length by omega)];rfl
 have hf:kJ p t r.root bss=(decide (fS bss=r.root)&&decide (gA p t=bss[0])):=by unfold kJ;rw [hg0]
 rw [hf]
 clear hf
 generalize bss[0]=b0 at *
 generalize hRT:fS bss=rt at *
 refine W.k fun b_=>?_
 (refine SW.l [] [0,3,4,5,6,7,8] ?_;refine aU 1 ?_)
 refine aH hle ?_ (hpre:=fun w2 hs=>hw0.ro (Hc:=Ht) hs)
 rintro _ _ ⟨Hs,hSl,rfl⟩
 have hSl1:=hSl.isOne
 (refine bI [] ?_;refine aU 2 ?_)
 refine W.cq (hrr _) ?_ (hpre:=fun w2 hs=>Rd.own (Hc:=[]) hSl hs inferInstance)
 by_cases he:rt=r.root
 ·rw [decide_eq_true he,kA]
  (refine bI [] ?_;refine eW 9 rfl (aHV rfl rfl rfl h32 he) ?_;refine SG.l [10,11,12,13] ?_;(first|refine dU 14 rfl ?_|refine vS hu2 14 [] rfl ?_);refine SG.l [15,16] ?_;(first|refine dU 17 rfl ?_;refine SG.l [18,19,20,21,22] ?_|refine aU 17 ?_))
  refine aH hsb ?_
  rintro v2 Hs2 hs2
  have hs21:=hs2.isOne
  (refine bI [] ?_;(first|refine dU 18 rfl ?_|refine aHk hs2 18 [] rfl ?_);(first|refine dU 19 rfl ?_|refine eW 19 rfl (aHW rfl rfl rfl) ?_);refine SG.l [20,21,22] ?_)
  refine W.k ?_
  refine Fin.to ((tr,cl (rtc d r) 119)::Ht) ?_
  exact F.f1 ⟨congrArg Value.bool (decide_eq_decide.2 ⟨Eq.symm,Eq.symm⟩),rfl⟩
 ·rw [decide_eq_false he,eZ]
  (refine bI [] ?_;refine eW 9 rfl (aHU rfl rfl rfl h32 hr.len he) ?_;refine SG.l [10,11,12,13,14,15,16] ?_;(first|refine dU 17 rfl ?_;refine SG.l [18,19,20,21,22] ?_|refine aU 17 ?_))
  refine W.k ?_
  refine Fin.to ((tr,cl (rtc d r) 119)::Ht) ?_
  exact F.f1 ⟨rfl,rfl⟩
theorem aH8{d tr sp p t:Nat}(h:Gm.Ok p t){σ:Dv}{r:Rg}{Hd:Hp}(hD:jY d σ Hd)(hlen:σ.len=256*Gm.total p t)(hr:r.Ok) :
  Tri prog 189 [oW d tr sp p t] ((tr,cl (rtc d r) 119)::Hd) (fun _=>True)
  (fun v H=>(σ.down=true∧v=.tuple #[.agg #[.int .i64 0,.slice none 0 0,.int .u64 0,.slice none 0 0],.int .i64 8]∧H=(tr,cl (rtc d r) 119)::Hd) ∨
   (σ.down=false∧∃ v1 cv ev Hb,v=.tuple #[.agg #[.int .i64 ((fE p t σ r).1:Nat),v1,.int .u64 cv,ev],.int .i64 0]∧One ev∧Bls v1 (fE p t σ r).2 Hb∧H=(tr,cl (rtc d r) 119)::(Hd++Hb))):=by
 refine Tri.mk func189 rfl ntmps189 rfl fun w hw=>?_
 have hmy:=aBP (tr:=tr) (s:=sp) h hD hlen
 have ht:=h.2.2.2
 have hall:=wH h
 have hc4:=aE6 h
 have hpl:=mX (Gm.all p t)
 have hll:=Gm.leaves_le h
 have hsl:=Gm.sealed_le h
 have hel:=Gm.epochs_le h
 have hLe:Gm.leaves p=1+Gm.epochs p+Gm.sealed p:=rfl
 have htot:Gm.total p t=Gm.leaves p+(1+t):=rfl
 have hld1:=aBe (tr:=tr) (sp:=sp) h hD hlen 0 (Gm.leaves p) oQ
 have hld2:=aBe (tr:=tr) (sp:=sp) h hD hlen (Gm.leaves p) (1+t) oQ
 rw [show ((1+t:Nat):Int)=1+(t:Int) by omega] at hld2
 obtain⟨f1,f2,f3⟩:=aCP d hr
 refine W.k fun _ b_=>?_
 refine aH hmy ?_
 rintro _ Hx ⟨rfl,hx⟩
 have hx:=hx.symm
 subst hx
 refine W.k ?_
 generalize b_=bf at *
 (refine SW.l [6] [0,1,4,5] ?_;refine aU 2 ?_)
 refine aH hall ?_
 rintro _ _ ⟨Hs,hS,rfl⟩
 obtain⟨a,len,cap,rfl,hl1⟩:=hS.form
 rw [hpl,Gm.all_len] at hl1
 have hl2:len=Gm.leaves p+(1+t):=oQ
 subst hl2
 clear hS
 (refine SL.l [3] ?_;refine cQ 6 ?_)
 refine W.cq hc4 ?_
 (refine SL.l [7,8,9] ?_)
 have e0:((Gm.leaves p+(1+t):Nat):Int)-((1+t:Nat):Int)=((Gm.leaves p:Nat):Int):=oQ
 rw [e0]
 have hbfl:∀ (k:Int) (a1:Option Addr) (l1 c1:Nat),bP (fun i=>[(0,1),(1,1),(2,2)][i]?) [.int .i64 0,.slice none 0 0,.int .u64 0,.slice none 0 0] [(0,.int .i64 k),(1,.slice a1 l1 c1)]=some [.int .i64 k,.slice a1 l1 c1,.int .u64 0,.slice none 0 0]:=fun _ _ _ _=>rfl
 by_cases hdn:σ.down=true
 ·have e1:ldS σ 0 (Gm.leaves p)=(8,[]):=by unfold ldS;rw [if_neg (by rw [hdn];simp;omega)]
  rw [e1] at hld1
  dsimp only at hld1
  refine W.k ?_
  refine aH hld1 ?_
  rintro _ _ ⟨v1,Hb,rfl,hB,rfl⟩
  have hB1:=hB.one
  refine W.k ?_
  refine oN ((tr,cl (rtc d r) 119)::Hd) [.int .i64 0,.slice none 0 0,.int .u64 0,.slice none 0 0] ?_
  exact .inl ⟨hdn,rfl,rfl⟩
 have hdn2:σ.down=false:=by simpa using hdn
 have e1:ldS σ 0 (Gm.leaves p)=(0,σ.blks 0 (Gm.leaves p)):=by unfold ldS;rw [if_pos (.inr hdn2)]
 have e2:ldS σ (Gm.leaves p) (1+t)=(0,σ.blks (Gm.leaves p) (1+t)):=by unfold ldS;rw [if_pos (.inr hdn2)]
 rw [e1] at hld1
 rw [e2] at hld2
 dsimp only at hld1 hld2
 have hb1:=sN (a:=0) (n:=Gm.leaves p) hD.1 hdn2 hlen oQ
 have hb2:=sN (a:=Gm.leaves p) (n:=1+t) hD.1 hdn2 hlen oQ
 have hn1:=σ.blks_len 0 (Gm.leaves p)
 have hn2:=σ.blks_len (Gm.leaves p) (1+t)
 have hlb:fE p t σ r=rI p t r (σ.blks 0 (Gm.leaves p)) (σ.blks (Gm.leaves p) (1+t)):=rfl
 rw [hlb]
 clear hlb e1 e2 hdn
 generalize σ.blks 0 (Gm.leaves p)=l at *
 generalize σ.blks (Gm.leaves p) (1+t)=logs at *
 refine W.k ?_
 refine aH hld1 ?_
 rintro _ _ ⟨v1,Hb,rfl,⟨vs,Hv,Ht,hSv,hRv,rfl⟩,rfl⟩
 have hSv1:=hSv.isOne
 obtain⟨va,vl,vc,rfl,hvl⟩:=hSv.form
 refine W.k ?_
 refine aH hld2 ?_
 rintro _ _ ⟨v2,Hlb,rfl,⟨lvs,Hlv,Hlt,hSl,hRl,rfl⟩,rfl⟩
 have hSl1:=hSl.isOne
 obtain⟨la,ll,lc,rfl,-⟩:=hSl.form
 have hfi:=fun (Ht:Hp) v vs (bss:List (List UInt8)) hR hn hb=>aIb (d:=d) (tr:=tr) (sp:=sp) h hr (Ht:=Ht) v vs bss hR hn hb
 refine W.k ?_
 refine W.cq (hfi Ht _ vs l hRv hn1 hb1) ?_ (hpre:=fun w2 hs=>Rd.own (Hc:=(tr,cl (rtc d r) 119)::Ht) hSv hs inferInstance)
 by_cases hf:kJ p t r.root l=true
 ·rw [rJ hf,hf]
  refine W.k ?_
  refine oN ((tr,cl (rtc d r) 119)::(Hd++(Hv++Ht))) [.int .i64 1,.slice va vl vc,.int .u64 0,.slice none 0 0] ?_
  exact .inr ⟨hdn2,_,0,_,_,rfl,⟨rfl⟩,⟨vs,Hv,Ht,hSv,hRv,rfl⟩,rfl⟩
 have hff:kJ p t r.root l=false:=by simpa using hf
 rw [hff]
 have hpa:=fun v=>aE9 h v lvs logs hRl hn2 hb2
 refine W.k ?_
 refine aH (hpa _) ?_ (hpre:=fun w2 hs=>Rd.own (Hc:=Hlt) hSl hs inferInstance)
 rintro _ _ ⟨Hn,hP,rfl⟩
 clear hpa hld1 hld2 hall hc4 hmy hpl hl1
 cases hpl:lR p t logs with
 | none=>
  rw [hpl] at hP
  obtain⟨rfl,rfl⟩:=hP
  have hlr:tA p t r logs=none:=by unfold tA;rw [hpl]
  rw [pK hf hlr]
  refine W.k fun b_=>?_
  (refine SW.l [] [0,1,2,3,4,5,6,7,8,9,10,11,12,13] ?_)
  refine W.k ?_
  refine oN ((tr,cl (rtc d r) 119)::(Hd++(Hv++Ht))) [.int .i64 3,.slice va vl vc,.int .u64 0,.slice none 0 0] ?_
  exact .inr ⟨hdn2,_,0,_,_,rfl,⟨rfl⟩,⟨vs,Hv,Ht,hSv,hRv,rfl⟩,rfl⟩
 | some y=>
 rw [hpl] at hP
 obtain⟨c,es⟩:=y
 obtain⟨ev,us,rfl,hSe,hRe⟩:=hP
 have hSe1:=hSe.isOne
 have hmay:=xM hpl
 dsimp only at hSe hRe hmay ⊢
 by_cases hc:¬ (c.toNat:Int)=r.c
 ·have hlr:tA p t r logs=none:=by unfold tA;rw [hpl];dsimp only;rw [if_neg hc]
  rw [pK hf hlr]
  refine W.k fun b_=>?_
  (refine SW.l [] [0,1,2,3,4,5,6,7,8,9,10,11,12,13] ?_)
  refine W.k ?_
  refine oN ((tr,cl (rtc d r) 119)::(Hd++(Hv++Ht))) [.int .i64 3,.slice va vl vc,.int .u64 0,.slice none 0 0] ?_
  exact .inr ⟨hdn2,_,0,_,_,rfl,⟨rfl⟩,⟨vs,Hv,Ht,hSv,hRv,rfl⟩,rfl⟩
 have hc2:(c.toNat:Int)=r.c:=Decidable.not_not.1 hc
 have hlr:tA p t r logs=some (c,es):=by unfold tA;rw [hpl];dsimp only;rw [if_pos hc2]
 rw [sV hf hlr]
 have hl4:=xS p c es l
 have hl256:=xR (c:=c) hmay hb1
 dsimp only
 have hredo:pA p c es l=pB (lO c (kW p l) es) (oB p l es) (gF es):=rfl
 refine W.k fun b_=>?_
 generalize b_=b8 at *
 (refine SW.l [] [0,1,2,3,4,5,6,7,8,9,10,11,12,13] ?_)
 refine W.k ?_
 refine aH (xO h _ vs l hRv hn1 hb1) ?_ (hpre:=fun w2 hs=>Rd.own (Hc:=Ht) hSv hs inferInstance)
 rintro v10 _ ⟨Hep,hSp,rfl⟩
 have hebl:=qF p l
 have hesl:1≤es.length∧es.length≤t:=by unfold oD at hmay;rw [bY,decide_eq_true_iff] at hmay;exact hmay.1
 have hmall:∀ (k:Nat) (x:Ent),es[k]?=some x → -1<x.1∧x.1<(Gm.sealed p:Nat)∧x.2.length=256:=by unfold oD at hmay;rw [bY] at hmay;exact oU hmay.2
 have hmL:vC p (-1) es=true:=by unfold oD at hmay;rw [bY] at hmay;exact hmay.2
 have htlt:=aEo hmay
 have htle:=zC es
 have hul:us.length=es.length:=by rw [hRe.1,aJ]
 have hoc:=hRe.oc
 have hvl2:=hRv.1
 have hocv:=hRv.oc
 have hel2:=lH us es hul
 have hmt:=fun v=>aE5 (p:=p) v us es hul hoc hmL oQ oQ
 have hx0 : -1<(es[0]'oQ).1∧(es[0]'oQ).1<(Gm.sealed p:Nat)∧_:=hmall 0 _ (aA oQ)
 have hs1:1≤Gm.sealed p:=oQ
 clear hx0
 rw [hredo] at hl4 hl256 ⊢
 clear hredo hmay hpl hlr hmL
 generalize kW p l=E0 at *
 rcases hSp with ⟨-,hz,-⟩|⟨be,elen0,ecap0,ejunk0,rfl,hexl0,hej0,hec0,rfl⟩
 ·have h9:=iA E0
  rw [hz,cM] at h9
  omega
 have hSe0:=hSe
 rcases hSe with ⟨-,hz,-⟩|⟨eb,elen,ecap,ejunk,rfl,hexl,hej,hec,rfl⟩
 ·rw [hz] at hel2;simp at hel2;omega
 obtain rfl:elen=es.length:=by omega
 rw [iA] at hexl0
 obtain rfl:elen0=E0.length:=by omega
 refine W.k fun b_=>?_
 refine W.ap (Sl.own 23 1 b_ (len:=0) (xs:=[]) rfl) (ys:=vs) (mm:=vl) (fun w2 hs=>hSv.srcAt hs inferInstance) (fun v11 H11 h11=>?_) (hys:=by omega) (hbytes:=by simp;omega)
 rw [List.nil_append] at h11
 rcases h11 with ⟨-,hz,-⟩|⟨bb,len,cap11,junk,rfl,hxl,hj,hlc,rfl⟩
 ·rw [hz] at hvl2;simp at hvl2;omega
 obtain rfl:len=vs.length:=by omega
 refine W.j ?_
 refine bZ [1,2,5,8,10,11] [(bb,cl (vs++junk) 23),(be,cl (uv E0++ejunk0) 33)] (fun _:List Value=>[]) (fun y=>[(bb,cl (y++junk) 23),(be,cl (uv (lO c E0 es)++ejunk0) 33)]) (fun y=>RB (Ht++Hlt) y (oB p l es)) ?_ ?_
 ·rw [show uv E0=uv (lO c E0 (es.take 0)) from rfl]
  refine W.k ?_
  refine bH [1,2,5,8,10,11,87,88] (fun y:Nat×List Value=>[(89,.int .i64 (y.1:Int))]) (fun y=>[(bb,cl (y.2++junk) 23),(be,cl (uv (lO c E0 (es.take y.1))++ejunk0) 33)]) (fun y=>es.length-y.1) (fun y=>y.1≤es.length∧RB (Ht++Hlt) y.2 (oB p l (es.take y.1))) (0,vs) ⟨Nat.zero_le _,hRv.mono fun x hx=>aT _ hx⟩ ?_
  rintro⟨k,vs2⟩ ⟨hk,hR2⟩
  dsimp only at hk hR2 ⊢
  have hvl3:=hR2.1
  rw [qU,hn1] at hvl3
  have hoc2:=hR2.oc
  by_cases hkn:k<es.length
  ·have hx:=aA hkn
   have htk:es.take (k+1)=es.take k++[es[k]]:=by rw [bG,hx];rfl
   obtain⟨u,huk,hru⟩:=hRe.2 k es[k].2 (by rw [aL,hx];rfl)
   have hrow:=aDW (junk:=ejunk) hul huk hx
   obtain⟨hx1,hx2,hx3⟩:=hmall k _ hx
   have hSs:=aAo p l (es.take k) es[k]
   have hEs:=aAn c E0 (es.take k) es[k]
   rw [← htk] at hSs hEs
   have hEl:=tY c (es.take k) E0
   have huo:=hru.one
   generalize es[k]=x at *
   obtain⟨K,hKK⟩:∃ K:Nat,x.1=(K:Int):=⟨x.1.toNat,by omega⟩
   rw [show x.1.toNat=K by omega] at hSs hEs
   rw [hKK] at hrow
   have hsa:=aDy h (K:=3) (n:=Gm.sealed p) (base:=1+Gm.epochs p) (.inr (.inl ⟨rfl,rfl,rfl⟩)) (K:Int)
   rw [show Gm.atK (Gm.sealed p) (1+Gm.epochs p) (K:Int)=((1+Gm.epochs p+K:Nat):Int) by unfold Gm.atK;rw [if_pos oQ];omega] at hsa
   have hset:=wN (vs:=vs2) (junk:=junk) (i:=1+Gm.epochs p+K) oQ u
   have hset2:=aG5 (lO c E0 (es.take k)) K c
   rw [← hEs] at hset2
   have hset3:=wN (vs:=uv (lO c E0 (es.take k))) (junk:=ejunk0) (i:=K) (by rw [iA,hEl];omega) (dX c)
   rw [hset2] at hset3
   have hlt1:1+Gm.epochs p+K<(vs2++junk).length:=by rw [aB];omega
   have hlt2:K<(uv (lO c E0 (es.take k))++ejunk0).length:=by rw [aB,iA,hEl];omega
   refine W.k fun b_=>?_
   (refine SW.l [] [0,1,2,3,4,6,7] ?_;refine aU 5 ?_)
   refine W.cq hsa ?_
   (refine SL.l [8] ?_;refine aU 9 ?_;refine W.i ?_;refine eH ?_)
   rw [hset]
   refine W.k ?_
   rw [hset3]
   refine aP.mk (k+1,vs2.set (1+Gm.epochs p+K) u) ?_
   refine⟨hkn,?_⟩
   dsimp only
   rw [hSs]
   exact hR2.set (hru.mono fun x hx=>aN _ hx) _
  ·have hkl:k=es.length:=oQ
   rw [hkl,cK] at hR2 ⊢
   subst hkl
   refine W.k ?_
   refine bU.mk vs2 ?_
   exact hR2
 rintro vs2 hR2
 have hEl:=tY c es E0
 have hvl3:=hR2.1
 rw [qU,hn1] at hvl3
 generalize lO c E0 es=E1 at *
 generalize oB p l es=M1 at *
 refine W.k ?_
 refine aH (hmt _) ?_ (hpre:=fun w2 hs=>Rd.own (Hc:=[]) hSe0 hs inferInstance)
 rintro _ Hq hSt
 have hSt1:=hSt.isOne
 obtain⟨ta,tl,tc2,rfl,htl⟩:=hSt.form
 rw [Nat.mul_one,aJ] at htl
 subst htl
 refine W.j ?_
 refine bZ [1,2,5,8,10,11] [(bb,cl (vs2++junk) 23)] (fun _:List Value×Hp=>[]) (fun y=>(bb,cl (y.1++junk) 23)::y.2) (fun y=>RB ((Ht++Hlt)++y.2) y.1 (pB E1 M1 (gF es))) ?_ ?_
 ·refine W.k ?_
  refine bH [1,2,5,8,10,11,111,112] (fun y:Nat×List Value×Hp=>[(113,.int .i64 (y.1:Int))]) (fun y=>(bb,cl (y.2.1++junk) 23)::y.2.2) (fun y=>(gF es).length-y.1) (fun y=>y.1≤(gF es).length∧RB ((Ht++Hlt)++y.2.2) y.2.1 (pB E1 M1 ((gF es).take y.1))) (0,vs2,[]) ⟨Nat.zero_le _,by rw [aE];exact hR2⟩ ?_
  rintro⟨k,vs3,Hn3⟩ ⟨hk,hR3⟩
  dsimp only at hk hR3 ⊢
  have hvl4:=hR3.1
  rw [tZ] at hvl4
  have hM1:=hR2.1
  have hoc3:=hR3.oc
  by_cases hkn:k<(gF es).length
  ·rcases hSt with ⟨hz,hz2,-⟩|⟨qb,qlen,qcap,qjunk,hz,hqxl,hqj,hqc,rfl⟩
   ·simp only [Value.slice.injEq] at hz;omega
   simp only [Value.slice.injEq] at hz
   obtain⟨rfl,rfl,rfl⟩:=hz
   have hx:=aA hkn
   have hlu:(nv (gF es)++qjunk)[k]?=some (.int .i64 (((gF es)[k]:Nat):Int)):=by
    rw [aK (by rw [aJ];exact hkn),aL,hx];rfl
   have htk:(gF es).take (k+1)=(gF es).take k++[(gF es)[k]]:=by rw [bG,hx];rfl
   have hlt:=htlt _ (dO hkn)
   have hTs:=aAp E1 M1 ((gF es).take k) (gF es)[k]
   rw [← htk] at hTs
   generalize (gF es)[k]=q at *
   have hsb:=aCL q oQ (.slice (some ⟨be,0,none⟩) E0.length ecap0) E1
   have hea:=aDy h (K:=2) (n:=Gm.epochs p) (base:=1) (.inl ⟨rfl,rfl,rfl⟩) (q:Int)
   rw [show Gm.atK (Gm.epochs p) 1 (q:Int)=((1+q:Nat):Int) by unfold Gm.atK;rw [if_pos oQ];omega] at hea
   have hlt1:1+q<(vs3++junk).length:=by rw [aB];omega
   refine W.k ?_
   refine W.cw hea ?_
   refine aH hsb ?_ (hpre:=fun w2 hs=>Rd.own (Hc:=[]) (e:=33) (Hs:=[(be,cl (uv E1++ejunk0) 33)]) (.inr ⟨be,E0.length,ecap0,ejunk0,rfl,by rw [iA,hEl,Nat.mul_one],hej0,hec0,rfl⟩) hs inferInstance)
   rintro v5 H5 h5
   have h51:=h5.isOne
   have hset:=wN (vs:=vs3) (junk:=junk) (i:=1+q) oQ v5
   refine W.k ?_
   rw [hset]
   refine aP.mk (k+1,vs3.set (1+q) v5,H5++Hn3) ?_
   refine⟨hkn,?_⟩
   dsimp only
   rw [hTs]
   refine (hR3.mono fun x hx=>?_).set ((RdH.of h5).mono fun x hx=>?_) _
   ·rcases bQ.1 hx with h|h
    ·exact aT _ h
    ·exact aN _ (aN _ h)
   ·exact aN _ (aT _ hx)
  ·have hkl:k=(gF es).length:=oQ
   rw [hkl,cK] at hR3
   subst hkl
   refine W.k ?_
   refine bU.mk (vs3,Hn3) ?_
   exact hR3
 rintro⟨vs3,Hn3⟩ hR3
 dsimp only at hR3 ⊢
 have hvl5:=hR3.1
 generalize pB E1 M1 (gF es)=l4 at *
 have hSw:Sl 23 1 (.slice (some ⟨bb,0,none⟩) vs.length cap11) vs3 [(bb,cl (vs3++junk) 23)]:=.inr ⟨bb,vs.length,cap11,junk,rfl,by omega,hj,hlc,rfl⟩
 have hbf2:bP (fun i=>[(0,1),(1,1),(2,2)][i]?) [.int .i64 0,.slice none 0 0,.int .u64 0,.slice none 0 0] [(0,.int .i64 2),(1,.slice (some ⟨bb,0,none⟩) vs.length cap11),(2,.agg [dX c,.slice (some ⟨eb,0,none⟩) es.length ecap].toArray)]=some [.int .i64 2,.slice (some ⟨bb,0,none⟩) vs.length cap11,dX c,.slice (some ⟨eb,0,none⟩) es.length ecap]:=rfl
 refine W.k ?_
 refine W.cq (hfi ((Ht++Hlt)++Hn3) _ vs3 l4 hR3 oQ hl256) ?_ (hpre:=fun w2 hs=>Rd.own (Hc:=(tr,cl (rtc d r) 119)::((Ht++Hlt)++Hn3)) hSw hs inferInstance)
 by_cases hf2:kJ p t r.root l4=true
 ·rw [if_pos hf2,hf2]
  refine W.k ?_
  refine oN ((tr,cl (rtc d r) 119)::(Hd++([(bb,cl (vs3++junk) 23)]++((Ht++Hlt)++Hn3)))) [.int .i64 2,.slice (some ⟨bb,0,none⟩) vs.length cap11,dX c,.slice (some ⟨eb,0,none⟩) es.length ecap] ?_
  exact .inr ⟨hdn2,_,(c.toNat:Int),_,_,rfl,⟨rfl⟩,⟨vs3,_,_,hSw,hR3,rfl⟩,rfl⟩
 ·have hff2:kJ p t r.root l4=false:=by simpa using hf2
  rw [if_neg hf2,hff2]
  refine W.k ?_
  refine oN ((tr,cl (rtc d r) 119)::(Hd++(Hv++Ht))) [.int .i64 3,.slice va vl vc,.int .u64 0,.slice none 0 0] ?_
  exact .inr ⟨hdn2,_,0,_,_,rfl,⟨rfl⟩,⟨vs,Hv,Ht,hSv,hRv,rfl⟩,rfl⟩
end
end Go.Proofs.YtmceanmblcadcaaGreat
