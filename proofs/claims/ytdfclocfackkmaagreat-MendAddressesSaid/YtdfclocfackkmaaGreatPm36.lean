/- What stands on a device: the document's. -/
import Derived.Test.YtdfclocfackkmaaGreatPm35
import Derived.Test.YtdfclocfackkmaaGreatPm34
set_option linter.unusedVariables false
set_option linter.unusedSimpArgs false
set_option linter.unusedSectionVars false
set_option maxHeartbeats 4000000
namespace Go.Proofs.YtdfclocfackkmaaGreat
open Go Go.Proofs.Tryz
section
attribute [local irreducible] SW SL SQ SH SA SS Pu Fin bS aN
theorem aA6{p:Nat}:∀ {l:List Ent} {last:Int},nE p last l=true->∀ (k:Nat) (x y:Ent),l[k]?=some x->l[k+1]?=some y->x.1<y.1
 | [],_,_,k,x,y,h,_=>by simp at h
 | z::l,last,hm,k,x,y,hx,hy=>by
  rw [xI,bR] at hm;cases k with
  | zero=>cases hx;exact (nF hm.2 0 y hy).1
  | succ k=>exact aA6 hm.2 k x y hx hy
theorem aJx{p:Nat}{l:List Ent}(hm:nE p (-1) l=true):∀ k,k<=l.length->(k=0/\dA (l.take k)=[])\/∃ x,l[k-1]?=some x/\0<k/\(dA (l.take k)).getLast?=some (x.1.toNat/32)/\∀ q∈dA (l.take k),q<=x.1.toNat/32:=by
 intro k;induction k with
 | zero=>intro _;exact .inl ⟨rfl,rfl⟩
 | succ k ih=>
  intro hk
  have hx:=aA (show k<l.length by omega)
  have hts:dA (l.take (k+1))=vM (dA (l.take k)) l[k]:=by rw [aY,hx,<-xT];rfl
  refine .inr ⟨l[k],hx,oQ,?_⟩
  rw [hts]
  rcases ih oQ with ⟨h0,h1⟩|⟨y,hy,h0,h1,h2⟩
  ·rw [h1]
   unfold vM
   simp
  ·have hr:=aA6 hm (k-1) y l[k] hy (by rw [show k-1+1=k by omega];exact hx)
   have hle:y.1.toNat/32<=l[k].1.toNat/32:=Nat.div_le_div_right oQ
   unfold vM
   split
   ·rename_i hin
    have:=h2 _ hin
    exact⟨by rw [h1];congr 1;omega,fun q hq=>cZ (h2 q hq) hle⟩
   ·refine⟨by simp,fun q hq=>?_⟩
    rcases bJ.1 hq with h|h
    ·exact cZ (h2 q h) hle
    ·rw [bW] at h;omega
theorem aBj{p:Nat}(v:Value)(us:LV)(l:List Ent)(hul:us.length=l.length)(hoc:OC us)(hm:nE p (-1) l=true)(hs:Gm.sealed p<=1000)(hn:l.length<=1000):Tri prog 66 [v] [] (fun w=>Rd [] w 2 v (eH us l)) (fun r H=>Sl 3 1 r (nv (dA l)) H):=by
 refine Tri.mt func66 ntmps66 fun w hw=>?_;unfold eH at hw;obtain⟨a,ca,rfl,hcap,hg⟩:=hw.rows dQ (nH us l);have hzl:(List.zipWith (fun u (x:Ent)=>[Value.int .i64 x.1,u]) us l).length=l.length:=by rw [fZ,hul,iS]
 rw [hzl] at hcap |-;have hY:One (Value.slice a l.length ca):=⟨rfl⟩;refine W.j ?_;refine bP [] [] (fun x:Value×Hp=>[(3,x.1)]) (fun x=>x.2) (fun x=>Sl 3 1 x.1 (nv (dA l)) x.2) ?_ ?_
 ·refine W.k ?_;refine bE [6,7] (fun x:Nat×Value×Hp=>[(3,x.2.1),(8,.int .i64 (x.1:Int))]) (fun x=>x.2.2) (fun x=>l.length-x.1) (fun x=>x.1<=l.length/\Sl 3 1 x.2.1 (nv (dA (l.take x.1))) x.2.2) (0,.slice none 0 0,[]) ⟨Nat.zero_le _,Sl.nil _ _⟩ ?_;rintro⟨k,v2,H2⟩ ⟨hk,h2⟩;dsimp only at hk h2 |-;have h21:=h2.isOne;by_cases hkn:k<l.length
  ·have hx:=aA hkn;have hz:(List.zipWith (fun u (x:Ent)=>[Value.int .i64 x.1,u]) us l)[k]?=some [.int .i64 l[k].1,us[k]]:=by rw [eV,hx,aA (show k<us.length by omega)]
   obtain⟨pb,po,lv,T,fz,rfl,hb,hkK,hv⟩:=hg k _ hz;have hts:dA (l.take (k+1))=vM (dA (l.take k)) l[k]:=by rw [aY,hx,<-xT];rfl
   have htl:(dA (l.take k)).length<=k:=by have:=oH (l.take k);rw [aH] at this;omega
   have hla:=aJx hm k hk;have hmk:=nF hm k _ hx;have hri:=fun y hy (h0:0<k)=>aA6 hm (k-1) y l[k] hy (by rw [show k-1+1=k by omega];exact hx);have hou:One us[k]:=⟨hoc.ok _ (dG _)⟩;generalize us[k]=u at *;generalize l[k]=x at *;generalize dA (l.take k)=o at *;generalize hO2:dA (l.take (k+1))=o2 at *;obtain⟨K,hKK⟩:∃ K:Nat,x.1=(K:Int):=⟨x.1.toNat,oQ⟩;rw [hKK] at hv;have hdv:((K:Int)/32)=((K/32:Nat):Int):=rfl;unfold vM at hts;rw [show x.1.toNat=K by omega] at hts;have hb31:bV (fun i=>some (i*1,1)) (zs [.int .i64 0] 1) [(0,.int .i64 ((K/32:Nat):Int))]=some (nv [K/32]):=rfl;have hS0:=h2;rcases hla with ⟨h0,rfl⟩|⟨y,hy,h0,h1,h3⟩
   ·rw [if_neg (by simp)] at hts;rcases h2 with ⟨rfl,-,rfl⟩|⟨qb,qlen,qcap,qjunk,rfl,hqx,hqj,hqc,rfl⟩
    ·refine W.k fun b_=>?_;(refine SW.l [] [0,1,2,3,4,5,6,7,8,9,10,11,12,13,14,15] ?_);refine W.k fun b_=>?_;refine W.ap hS0 (ys:=nv [K/32]) (mm:=1) (fun w2 hs=>(Sl.own 3 1 b_ (xs:=nv [K/32]) rfl).srcAt hs inferInstance) (fun v3 H3 h33=>?_) (hys:=rfl) (hbytes:=by simp;try omega);have h331:=h33.isOne;rw [<-aZ,<-hts] at h33;refine W.k ?_;refine aN.mk (k+1,v3,H3) ?_;exact⟨hkn,by dsimp only;rw [hO2];exact h33⟩
    obtain rfl:qlen=0:=by simp at hqx;omega
    refine W.k fun b_=>?_;(refine SW.l [] [0,1,2,3,4,5,6,7,8,9,10,11,12,13,14,15] ?_);refine W.k fun b_=>?_;refine W.ap hS0 (ys:=nv [K/32]) (mm:=1) (fun w2 hs=>(Sl.own 3 1 b_ (xs:=nv [K/32]) rfl).srcAt hs inferInstance) (fun v3 H3 h33=>?_) (hys:=rfl) (hbytes:=by simp;try omega);have h331:=h33.isOne;rw [<-aZ,<-hts] at h33;refine W.k ?_;refine aN.mk (k+1,v3,H3) ?_;exact⟨hkn,by dsimp only;rw [hO2];exact h33⟩
   rcases h2 with ⟨rfl,hz2,rfl⟩|⟨qb,qlen,qcap,qjunk,rfl,hqx,hqj,hqc,rfl⟩
   ·have:o=[]:=by simpa using hz2
    rw [this] at h1;simp at h1
   have hol:qlen=o.length:=by rw [aC] at hqx;omega
   subst hol;have hmo:=List.mem_of_getLast? h1;have hol1:0<o.length:=nV hmo;rw [List.getLast?_eq_getElem?] at h1;have hyx:=hri y hy h0;have hyK:y.1.toNat/32<=K/32:=Nat.div_le_div_right oQ;have hlast:(nv o++qjunk)[o.length-1]?=some (.int .i64 ((y.1.toNat/32:Nat):Int)):=by rw [aJ (by rw [aC];omega),aL,h1];rfl
   generalize y.1.toNat/32=m at *;haveI:eB ((o.length:Int)-1) (o.length-1):=⟨oQ⟩;by_cases hin:K/32∈o
   ·rw [if_pos hin] at hts;have hmK:m=K/32:=by have:=h3 _ hin;omega
    subst hts;refine W.k fun b_=>?_;(refine SW.l [] [0,1,2,3,4,5,6,7,8,9,10,11,12,13,14,15] ?_);refine W.k ?_;refine aN.mk (k+1,.slice (some ⟨qb,0,none⟩) o2.length qcap,[(qb,cl (nv o2++qjunk) 3)]) ?_;exact⟨hkn,by dsimp only;rw [hO2];exact hS0⟩
   rw [if_neg hin] at hts;have hmK:¬ m=K/32:=fun h=>hin (h▸hmo);refine W.k fun b_=>?_;(refine SW.l [] [0,1,2,3,4,5,6,7,8,9,10,11,12,13,14,15] ?_);refine W.k fun b_=>?_;refine W.ap hS0 (ys:=nv [K/32]) (mm:=1) (fun w2 hs=>(Sl.own 3 1 b_ (xs:=nv [K/32]) rfl).srcAt hs inferInstance) (fun v3 H3 h33=>?_) (hys:=rfl) (hbytes:=by simp;try omega);have h331:=h33.isOne;rw [<-aZ,<-hts] at h33;refine W.k ?_;refine aN.mk (k+1,v3,H3) ?_;exact⟨hkn,by dsimp only;rw [hO2];exact h33⟩
  have hkl:k=l.length:=oQ;rw [hkl,bO] at h2;subst hkl;refine W.k ?_;refine bS.mk (v2,H2) ?_;exact h2
 rintro⟨v2,H2⟩ h2;dsimp only at h2 |-;have h21:=h2.isOne;refine W.k ?_;refine Fin.to H2 ?_;exact F.f1 h2
instance arrEq:EqB prog 90 32 where
 guard:=by kernel_rfl
 row:=inferInstance
 ok:=⟨_,underlying90,underlying5,kQ,inferInstance⟩
theorem aDQ{d tr sp p t:Nat}(h:Gm.Ok p t){C:Dv}{Hd:Hp}(hD:gS d C Hd)(hlen:C.len=256*Gm.total p t)(from_ n:Nat)(hn:from_+n<=Gm.total p t):Tri prog 61 [qS d tr sp p t,.int .i64 (from_:Int),.int .i64 (n:Int)] Hd NT (fun v H=>∃ v1 Hb,v=.tuple #[v1,.int .i64 (ldS C from_ n).1]/\Bls v1 (ldS C from_ n).2 Hb/\H=Hd++Hb):=by
 refine Tri.mt func61 ntmps61 fun w hw=>?_;have htl:=Gm.total_le2 h;unfold ldS;generalize Gm.total p t=m at *;refine W.j fun b_=>?_;refine bP [] [] (fun x:Value×Hp=>[(8,x.1)]) (fun x=>x.2) (fun x=>(n=0\/C.down=false)/\Bls x.1 (C.blks from_ n) x.2) ?_ ?_
 ·refine W.k ?_;refine bE [1,2,3] (fun x:Nat×Value×LV×Hp×Hp=>[(8,x.2.1),(9,.int .i64 (x.1:Int))]) (fun x=>x.2.2.2.1++x.2.2.2.2) (fun x=>n-x.1)
   (fun x=>(x.1<=n/\(x.1=0\/C.down=false))/\Sl 31 1 x.2.1 x.2.2.1 x.2.2.2.1/\RB x.2.2.2.2 x.2.2.1 (C.blks from_ x.1)) (0,.slice none 0 0,[],[],[]) ⟨⟨Nat.zero_le _,.inl rfl⟩,Sl.nil _ _,RB.nil _⟩ ?_
  rintro⟨k,v2,vs2,Hv2,Ht2⟩ ⟨⟨hk,hk0⟩,hS2,hR2⟩;dsimp only at hk hk0 hS2 hR2 |-;have hY2:=hS2.isOne;have hvl2:=hR2.1;rw [Dv.blks_len] at hvl2;by_cases hkn:k<n
  ·have hld:=aES hD ((256*(from_+k):Nat):Int) 256;have hr0:C.rdy ((256*(from_+k):Nat):Int) 256=if C.down=true then 8 else 0:=by
    unfold Dv.rdy;split
    ·rfl
    rw [hlen,if_neg oQ]
   rw [hr0] at hld;rw [show ((256*(from_+k):Nat):Int)=256*((from_:Int)+(k:Int)) by omega] at hld;refine W.k ?_;refine aF hld ?_;rintro _ _ ⟨sv,Hs,rfl,hsv,rfl⟩;have hsv1:=hsv.isOne;obtain⟨a3,l3,c3,rfl,-⟩:=hsv.form;by_cases hdn:C.down=true
   ·rw [if_pos hdn];rw [if_neg (by rw [hdn];simp;omega)];refine W.k ?_;refine Fin.to (Hd++[]) ?_;exact F.f2 ⟨_,[],rfl,⟨[],[],[],Sl.nil _ _,RB.nil _,rfl⟩,rfl⟩
   rw [if_neg hdn];have hb44:bV (fun i=>some (i*1,1)) (zs [.slice none 0 0] 1) [(0,.slice a3 l3 c3)]=some [.slice a3 l3 c3]:=rfl;refine W.k fun b_=>?_;refine W.ap hS2 (ys:=[.slice a3 l3 c3]) (mm:=1) (fun w2 hs=>(Sl.own 31 1 b_ (xs:=[.slice a3 l3 c3]) rfl).srcAt hs inferInstance) (fun v3 H3 h3=>?_) (hys:=rfl) (hbytes:=by rw [hvl2];simp;omega);have h31:=h3.isOne;refine W.k ?_;refine aN.mk (k+1,v3,vs2++[.slice a3 l3 c3],H3,Hs++Ht2) ?_;refine⟨⟨hkn,.inr (by simpa using hdn)⟩,h3,?_⟩;dsimp only;rw [Dv.blks_succ];exact (hR2.mono fun x hx=>aM _ hx).snoc ((RdH.of hsv).mono fun x hx=>aO _ hx)
  have hkn2:k=n:=oQ;subst hkn2;refine W.k ?_;refine bS.mk (v2,Hv2++Ht2) ?_;exact⟨hk0,vs2,Hv2,Ht2,hS2,hR2,rfl⟩
 rintro⟨v2,Hb2⟩ ⟨hok,hB⟩;dsimp only at hok hB |-;have hY2:=hB.one;rw [if_pos hok];refine W.k ?_;refine Fin.to (Hd++Hb2) ?_;exact F.f2 ⟨v2,Hb2,rfl,hB,rfl⟩
theorem aDP{p t:Nat}(h:Gm.Ok p t){Ht:Hp}(v:Value)(vs:LV)(bss:LL)(hR:RB Ht vs bss)(hn:bss.length=Gm.leaves p)(hb:∀ b∈bss,b.length=256):Tri prog 64 [kM p t,v] Ht (fun w=>Rd (Ht.map Prod.fst) w 1 v vs) (fun r H=>∃ Hs,Sl 23 1 r (uv (nZ p bss)) Hs/\H=Hs++Ht):=by
 refine Tri.mt func64 ntmps64 fun w hw=>?_;have hse:=rS h;have hep:=zG h;have hw0:=hw;obtain⟨a,la,ca,rfl,hl1,hc1,hr1⟩:=hw.get;rw [Nat.mul_one,hR.1] at hl1;subst hl1;have hY:One (Value.slice a bss.length ca):=⟨rfl⟩;have hll:=Gm.leaves_le h;have hL:Gm.leaves p=1+Gm.epochs p+Gm.sealed p:=rfl;have hel:nZ p bss=(List.range (Gm.sealed p)).map (vN ((bss.drop 1).take (Gm.epochs p))):=rfl;have hE:32*Gm.epochs p>=Gm.sealed p:=by unfold Gm.epochs Gm.up;omega
 have hRp:=hR.part 1 (Gm.epochs p);have hpl:((bss.drop 1).take (Gm.epochs p)).length=Gm.epochs p:=by rw [aH,bG];omega
 have hpb:∀ b∈(bss.drop 1).take (Gm.epochs p),b.length=256:=fun b hbm=>hb b (kH (dM hbm));have hcut:=hw0.cutN ca 1 (1+Gm.epochs p) (ca-1) oQ oQ oQ oQ;rw [show 1+Gm.epochs p-1=Gm.epochs p by omega] at hcut;rw [hel];clear hel;generalize (bss.drop 1).take (Gm.epochs p)=es at *;generalize Gm.sealed p=S at *;generalize Gm.epochs p=E at *;refine W.j fun b_=>?_;refine bP [] [] (fun x:Value×Hp=>[(5,x.1)]) (fun x=>x.2) (fun x=>Sl 23 1 x.1 (uv ((List.range S).map (vN es))) x.2) ?_ ?_
 ·refine W.k ?_;refine bE [1,2] (fun x:Nat×Value×Hp=>[(5,x.2.1),(6,.int .i64 (x.1:Int))]) (fun x=>x.2.2) (fun x=>S-x.1) (fun x=>x.1<=S/\Sl 23 1 x.2.1 (uv ((List.range x.1).map (vN es))) x.2.2) (0,.slice none 0 0,[]) ⟨Nat.zero_le _,Sl.nil _ _⟩ ?_;rintro⟨k,v2,H2⟩ ⟨hk,h2⟩;dsimp only at hk h2 |-;have h21:=h2.isOne;by_cases hkn:k<S
  ·have hcut2:=hcut;rw [Nat.mul_one,Nat.one_mul] at hcut2;have hre:=aKZ (.slice (lI a ca 1 1) E (ca-1)) _ es hRp hpb k oQ oQ;have hl2:(uv ((List.range k).map (vN es))).length=k:=by rw [eN];simp
   have hsn:uv ((List.range (k+1)).map (vN es))=uv ((List.range k).map (vN es))++[dZ (vN es k)]:=by unfold uv;rw [bT,aZ,aZ];rfl
   generalize hO2:uv ((List.range (k+1)).map (vN es))=o2 at *;generalize uv ((List.range k).map (vN es))=o at *;have hb44:bV (fun i=>some (i*1,1)) (zs [.int .u64 0] 1) [(0,dZ (vN es k))]=some [dZ (vN es k)]:=rfl;haveI i2:eB (1+(E:Int)) (1+E):=⟨oQ⟩;refine W.k ?_;refine W.cw hse ?_;refine W.cw hep ?_;refine W.sG ?_ (i1:=i2);rw [show 1+E-1=E by omega];refine W.k ?_;refine aF hre ?_ (hpre:=fun w2 hs=>hcut2.ro (Hc:=Ht) hs);rintro _ Hx ⟨rfl,hx⟩;have hx:=hx.symm;subst hx;refine W.k fun b_=>?_;refine W.ap h2 (ys:=[dZ (vN es k)]) (mm:=1) (fun w2 hs=>(Sl.own 23 1 b_ (xs:=[dZ (vN es k)]) rfl).srcAt hs inferInstance) (fun v3 H3 h3=>?_) (hys:=rfl) (hbytes:=by simp;omega);rw [<-hsn] at h3;have h31:=h3.isOne;refine W.k ?_;refine aN.mk (k+1,v3,H3) ?_;exact⟨hkn,by dsimp only;rw [hO2];exact h3⟩
  obtain rfl:k=S:=by omega
  refine W.k ?_;refine W.cw hse ?_;refine bS.mk (v2,H2) ?_;exact h2
 rintro⟨v2,H2⟩ h2;dsimp only at h2 |-;have h21:=h2.isOne;refine W.k ?_;refine Fin.to (H2++Ht) ?_;exact F.f1 ⟨H2,h2,rfl⟩
theorem aMP{d tr sp p t:Nat}(h:Gm.Ok p t){r:Rg}(hr:r.Ok){Ht:Hp}(v:Value)(vs:LV)(bss:LL)(hR:RB Ht vs bss)(hn:bss.length=Gm.leaves p)(hb:∀ b∈bss,b.length=256):Tri prog 62 [qS d tr sp p t,v] ((tr,cl (rtc d r) 100)::Ht) (fun w=>Rd (tr::Ht.map Prod.fst) w 1 v vs) (fun o H=>o=.bool (lC p t r.root bss)/\H=(tr,cl (rtc d r) 100)::Ht):=by
 refine Tri.mt func62 ntmps62 fun w hw=>?_;have hw0:=hw;have hll:=Gm.leaves_le h;have hL:Gm.leaves p=1+Gm.epochs p+Gm.sealed p:=rfl;obtain⟨a,la,ca,rfl,hl1,hc1,hr1⟩:=hw.get;rw [Nat.mul_one,hR.1] at hl1;subst hl1;have hY:One (Value.slice a bss.length ca):=⟨rfl⟩;obtain⟨bb,o,l,T,fz,rfl,hbh,hkK,hy⟩:=hr1 oQ;have hle:=xP (.slice (some ⟨bb,o,none⟩) bss.length ca) vs bss hR oQ hb;obtain⟨f1,f2,f3⟩:=aDV d hr;obtain⟨u,hu1,hu2⟩:=hR.2 0 _ (aA (show 0<bss.length by omega));have hlu:l[o+0]?=some u:=by
  have h2:((l.drop o).take (bss.length*1))[0]?=vs[0]?:=by rw [hy]
  rw [bD,if_pos oQ,bH,hu1] at h2;exact h2
 rw [jL] at hlu;have hu3:=hu2;have huo:=hu2.one;obtain⟨ua,ul,uc,rfl,-⟩:=hu3;have h32:(gE bss).length=32:=Sha.sum_len _;have hro:fN (gF bss)=gE bss:=rfl;have hsl:(gF bss).length<=1024:=by rw [lB];omega
 have hrr:=fun vv=>aB3 (gF bss) (qN bss) vv hsl;rw [hro] at hrr;have hsb:=aGk h;have hg0:bss.getD 0 []=bss[0]:=by rw [aE,aA (show 0<bss.length by omega)];rfl
 have hf:lC p t r.root bss=(decide (gE bss=r.root)&&decide (iC p t=bss[0])):=by unfold lC;rw [hg0]
 rw [hf];clear hf;generalize bss[0]=b0 at *;generalize hRT:gE bss=rt at *;refine W.k fun b_=>?_;(refine SW.l [] [0,3,4,5,6,7,8] ?_;refine aX 1 ?_);refine aF hle ?_ (hpre:=fun w2 hs=>hw0.ro (Hc:=Ht) hs);rintro _ _ ⟨Hs,hSl,rfl⟩;have hSl1:=hSl.isOne;(refine bB [] ?_;refine aX 2 ?_);refine W.cq (hrr _) ?_ (hpre:=fun w2 hs=>Rd.own (Hc:=[]) hSl hs inferInstance);by_cases he:rt=r.root
 ·rw [decide_eq_true he,jO];(refine bB [] ?_;refine dS 9 rfl (aH2 rfl rfl rfl h32 he) ?_;refine SG.l [10,11,12,13] ?_;(first|refine cY 14 rfl ?_|refine zU hu2 14 [] rfl ?_);refine SG.l [15,16] ?_;(first|refine cY 17 rfl ?_;refine SG.l [18,19,20,21,22] ?_|refine aX 17 ?_));refine aF hsb ?_;rintro v2 Hs2 hs2;have hs21:=hs2.isOne;(refine bB [] ?_;(first|refine cY 18 rfl ?_|refine aHA hs2 18 [] rfl ?_);(first|refine cY 19 rfl ?_|refine dS 19 rfl (aMy rfl rfl rfl) ?_);refine SG.l [20,21,22] ?_);refine W.k ?_;refine Fin.to ((tr,cl (rtc d r) 100)::Ht) ?_;exact F.f1 ⟨congrArg Value.bool (decide_eq_decide.2 ⟨Eq.symm,Eq.symm⟩),rfl⟩
 rw [decide_eq_false he,fX];(refine bB [] ?_;refine dS 9 rfl (aMx rfl rfl rfl h32 hr.len he) ?_;refine SG.l [10,11,12,13,14,15,16] ?_;(first|refine cY 17 rfl ?_;refine SG.l [18,19,20,21,22] ?_|refine aX 17 ?_));refine W.k ?_;refine Fin.to ((tr,cl (rtc d r) 100)::Ht) ?_;exact F.f1 ⟨rfl,rfl⟩
theorem aId{d tr sp p t:Nat}(h:Gm.Ok p t){C:Dv}{r:Rg}{Hd:Hp}(hD:gS d C Hd)(hlen:C.len=256*Gm.total p t)(hr:r.Ok):Tri prog 19 [qS d tr sp p t] ((tr,cl (rtc d r) 100)::Hd) NT (fun v H=>(C.down=true/\v=.tuple #[.agg #[.int .i64 0,.slice none 0 0,.int .u64 0,.slice none 0 0],.int .i64 8]/\H=(tr,cl (rtc d r) 100)::Hd) \/ (C.down=false/\∃ v1 cv ev Hb,v=.tuple #[.agg #[.int .i64 ((eW p t C r).1:Nat),v1,.int .u64 cv,ev],.int .i64 0]/\One ev/\Bls v1 (eW p t C r).2 Hb/\H=(tr,cl (rtc d r) 100)::(Hd++Hb))):=by
 refine Tri.mt func19 ntmps19 fun w hw=>?_;have hmy:=aEX (tr:=tr) (s:=sp) h hD hlen;have ht:=h.2.2.2;have hall:=aAA h;have hc4:=aJi h;have hpl:=pR (Gm.all p t);have hll:=Gm.leaves_le h;have hsl:=Gm.sealed_le h;have hel:=Gm.epochs_le h;have hLe:Gm.leaves p=1+Gm.epochs p+Gm.sealed p:=rfl;have htot:Gm.total p t=Gm.leaves p+(1+t):=rfl;have hld1:=aDQ (tr:=tr) (sp:=sp) h hD hlen 0 (Gm.leaves p) oQ;have hld2:=aDQ (tr:=tr) (sp:=sp) h hD hlen (Gm.leaves p) (1+t) oQ;rw [show ((1+t:Nat):Int)=1+(t:Int) by omega] at hld2;obtain⟨f1,f2,f3⟩:=aDV d hr;refine W.k fun _ b_=>?_;refine aF hmy ?_;rintro _ Hx ⟨rfl,hx⟩;have hx:=hx.symm;subst hx;refine W.k ?_;generalize b_=bf at *;(refine SW.l [6] [0,1,4,5] ?_;refine aX 2 ?_);refine aF hall ?_;rintro _ _ ⟨Hs,hS,rfl⟩;obtain⟨a,len,cap,rfl,hl1⟩:=hS.form;rw [hpl,Gm.all_len] at hl1;have hl2:len=Gm.leaves p+(1+t):=oQ;subst hl2;clear hS;(refine SL.l [3] ?_;refine bL 6 ?_);refine W.cq hc4 ?_;(refine SL.l [7,8,9] ?_);have e0:((Gm.leaves p+(1+t):Nat):Int)-((1+t:Nat):Int)=((Gm.leaves p:Nat):Int):=oQ;rw [e0];have hbfl:∀ (k:Int) (a1:Option Addr) (l1 c1:Nat),bV (fun i=>[(0,1),(1,1),(2,2)][i]?) [.int .i64 0,.slice none 0 0,.int .u64 0,.slice none 0 0] [(0,.int .i64 k),(1,.slice a1 l1 c1)]=some [.int .i64 k,.slice a1 l1 c1,.int .u64 0,.slice none 0 0]:=fun _ _ _ _=>rfl;by_cases hdn:C.down=true
 ·have e1:ldS C 0 (Gm.leaves p)=(8,[]):=by unfold ldS;rw [if_neg (by rw [hdn];simp;omega)]
  rw [e1] at hld1;dsimp only at hld1;refine W.k ?_;refine aF hld1 ?_;rintro _ _ ⟨v1,Hb,rfl,hB,rfl⟩;have hB1:=hB.one;refine W.k ?_;refine pT ((tr,cl (rtc d r) 100)::Hd) [.int .i64 0,.slice none 0 0,.int .u64 0,.slice none 0 0] ?_;exact .inl ⟨hdn,rfl,rfl⟩
 have hdn2:C.down=false:=by simpa using hdn
 have e1:ldS C 0 (Gm.leaves p)=(0,C.blks 0 (Gm.leaves p)):=by unfold ldS;rw [if_pos (.inr hdn2)]
 have e2:ldS C (Gm.leaves p) (1+t)=(0,C.blks (Gm.leaves p) (1+t)):=by unfold ldS;rw [if_pos (.inr hdn2)]
 rw [e1] at hld1;rw [e2] at hld2;dsimp only at hld1 hld2;have hb1:=vX (a:=0) (n:=Gm.leaves p) hD.1 hdn2 hlen oQ;have hb2:=vX (a:=Gm.leaves p) (n:=1+t) hD.1 hdn2 hlen oQ;have hn1:=C.blks_len 0 (Gm.leaves p);have hn2:=C.blks_len (Gm.leaves p) (1+t);have hlb:eW p t C r=uJ p t r (C.blks 0 (Gm.leaves p)) (C.blks (Gm.leaves p) (1+t)):=rfl;rw [hlb];clear hlb e1 e2 hdn;generalize C.blks 0 (Gm.leaves p)=l at *;generalize C.blks (Gm.leaves p) (1+t)=logs at *;refine W.k ?_;refine aF hld1 ?_;rintro _ _ ⟨v1,Hb,rfl,⟨vs,Hv,Ht,hSv,hRv,rfl⟩,rfl⟩;have hSv1:=hSv.isOne;obtain⟨va,vl,vc,rfl,hvl⟩:=hSv.form;refine W.k ?_;refine aF hld2 ?_;rintro _ _ ⟨v2,Hlb,rfl,⟨lvs,Hlv,Hlt,hSl,hRl,rfl⟩,rfl⟩;have hSl1:=hSl.isOne;obtain⟨la,ll,lc,rfl,-⟩:=hSl.form;have hfi:=fun (Ht:Hp) v vs (bss:LL) hR hn hb=>aMP (d:=d) (tr:=tr) (sp:=sp) h hr (Ht:=Ht) v vs bss hR hn hb;refine W.k ?_;refine W.cq (hfi Ht _ vs l hRv hn1 hb1) ?_ (hpre:=fun w2 hs=>Rd.own (Hc:=(tr,cl (rtc d r) 100)::Ht) hSv hs inferInstance);by_cases hf:lC p t r.root l=true
 ·rw [pF hf,hf];refine W.k ?_;refine pT ((tr,cl (rtc d r) 100)::(Hd++(Hv++Ht))) [.int .i64 1,.slice va vl vc,.int .u64 0,.slice none 0 0] ?_;exact .inr ⟨hdn2,_,0,_,_,rfl,⟨rfl⟩,⟨vs,Hv,Ht,hSv,hRv,rfl⟩,rfl⟩
 have hff:lC p t r.root l=false:=by simpa using hf
 rw [hff];have hpa:=fun v=>aJm h v lvs logs hRl hn2 hb2;refine W.k ?_;refine aF (hpa _) ?_ (hpre:=fun w2 hs=>Rd.own (Hc:=Hlt) hSl hs inferInstance);rintro _ _ ⟨Hn,hP,rfl⟩;clear hpa hld1 hld2 hall hc4 hmy hpl hl1;cases hpl:nN p t logs with
 | none=>
  rw [hpl] at hP
  obtain⟨rfl,rfl⟩:=hP
  have hlr:uP p t r logs=none:=by unfold uP;rw [hpl]
  rw [nQ hf hlr]
  refine W.k fun b_=>?_
  (refine SW.l [] [0,1,2,3,4,5,6,7,8,9,10,11,12,13] ?_)
  refine W.k ?_
  refine pT ((tr,cl (rtc d r) 100)::(Hd++(Hv++Ht))) [.int .i64 3,.slice va vl vc,.int .u64 0,.slice none 0 0] ?_
  exact .inr ⟨hdn2,_,0,_,_,rfl,⟨rfl⟩,⟨vs,Hv,Ht,hSv,hRv,rfl⟩,rfl⟩
 | some y=>
 rw [hpl] at hP;obtain⟨c,es⟩:=y;obtain⟨ev,us,rfl,hSe,hRe⟩:=hP;have hSe1:=hSe.isOne;have hmay:=aBh hpl;dsimp only at hSe hRe hmay |-;by_cases hc:¬ (c.toNat:Int)=r.c
 ·have hlr:uP p t r logs=none:=by unfold uP;rw [hpl];dsimp only;rw [if_neg hc]
  rw [nQ hf hlr];refine W.k fun b_=>?_;(refine SW.l [] [0,1,2,3,4,5,6,7,8,9,10,11,12,13] ?_);refine W.k ?_;refine pT ((tr,cl (rtc d r) 100)::(Hd++(Hv++Ht))) [.int .i64 3,.slice va vl vc,.int .u64 0,.slice none 0 0] ?_;exact .inr ⟨hdn2,_,0,_,_,rfl,⟨rfl⟩,⟨vs,Hv,Ht,hSv,hRv,rfl⟩,rfl⟩
 have hc2:(c.toNat:Int)=r.c:=Decidable.not_not.1 hc;have hlr:uP p t r logs=some (c,es):=by unfold uP;rw [hpl];dsimp only;rw [if_pos hc2]
 rw [qB hf hlr];have hl4:=tS p c es l;have hl256:=aBm (c:=c) hmay hb1;dsimp only;have hredo:qH p c es l=rR (eD c (nZ p l) es) (qX p l es) (dA es):=rfl;refine W.k fun b_=>?_;generalize b_=b8 at *;(refine SW.l [] [0,1,2,3,4,5,6,7,8,9,10,11,12,13] ?_);refine W.k ?_;refine aF (aDP h _ vs l hRv hn1 hb1) ?_ (hpre:=fun w2 hs=>Rd.own (Hc:=Ht) hSv hs inferInstance);rintro v10 _ ⟨Hep,hSp,rfl⟩;have hebl:=tB p l;have hesl:1<=es.length/\es.length<=t:=by unfold iY at hmay;rw [bR,decide_eq_true_iff] at hmay;exact hmay.1
 have hmall:∀ (k:Nat) (x:Ent),es[k]?=some x -> -1<x.1/\x.1<(Gm.sealed p:Nat)/\x.2.length=256:=by unfold iY at hmay;rw [bR] at hmay;exact nF hmay.2
 have hmL:nE p (-1) es=true:=by unfold iY at hmay;rw [bR] at hmay;exact hmay.2
 have htlt:=uW hmay;have htle:=oH es;have hul:us.length=es.length:=by rw [hRe.1,aC]
 have hoc:=hRe.oc;have hvl2:=hRv.1;have hocv:=hRv.oc;have hel2:=fL us es hul;have hmt:=fun v=>aBj (p:=p) v us es hul hoc hmL oQ oQ;have hx0 : -1<(es[0]'oQ).1/\(es[0]'oQ).1<(Gm.sealed p:Nat)/\_:=hmall 0 _ (aA oQ);have hs1:1<=Gm.sealed p:=oQ;clear hx0;rw [hredo] at hl4 hl256 |-;clear hredo hmay hpl hlr hmL;generalize nZ p l=E0 at *;rcases hSp with ⟨-,hz,-⟩|⟨be,elen0,ecap0,ejunk0,rfl,hexl0,hej0,hec0,rfl⟩
 ·have h9:=eN E0;rw [hz,List.length_nil] at h9;omega
 have hSe0:=hSe;rcases hSe with ⟨-,hz,-⟩|⟨eb,elen,ecap,ejunk,rfl,hexl,hej,hec,rfl⟩
 ·rw [hz] at hel2;simp at hel2;omega
 obtain rfl:elen=es.length:=by omega
 rw [eN] at hexl0;obtain rfl:elen0=E0.length:=by omega
 refine W.k fun b_=>?_;refine W.ap (Sl.own 31 1 b_ (len:=0) (xs:=[]) rfl) (ys:=vs) (mm:=vl) (fun w2 hs=>hSv.srcAt hs inferInstance) (fun v11 H11 h11=>?_) (hys:=by omega) (hbytes:=by simp;omega);rw [List.nil_append] at h11;rcases h11 with ⟨-,hz,-⟩|⟨bb,len,cap11,junk,rfl,hxl,hj,hlc,rfl⟩
 ·rw [hz] at hvl2;simp at hvl2;omega
 obtain rfl:len=vs.length:=by omega
 refine W.j ?_;refine bP [1,2,5,8,10,11] [(bb,cl (vs++junk) 31),(be,cl (uv E0++ejunk0) 23)] (fun _:LV=>[]) (fun y=>[(bb,cl (y++junk) 31),(be,cl (uv (eD c E0 es)++ejunk0) 23)]) (fun y=>RB (Ht++Hlt) y (qX p l es)) ?_ ?_
 ·rw [show uv E0=uv (eD c E0 (es.take 0)) from rfl];refine W.k ?_;refine bE [1,2,5,8,10,11,87,88] (fun y:Nat×LV=>[(89,.int .i64 (y.1:Int))]) (fun y=>[(bb,cl (y.2++junk) 31),(be,cl (uv (eD c E0 (es.take y.1))++ejunk0) 23)]) (fun y=>es.length-y.1) (fun y=>y.1<=es.length/\RB (Ht++Hlt) y.2 (qX p l (es.take y.1))) (0,vs) ⟨Nat.zero_le _,hRv.mono fun x hx=>aO _ hx⟩ ?_;rintro⟨k,vs2⟩ ⟨hk,hR2⟩;dsimp only at hk hR2 |-;have hvl3:=hR2.1;rw [tT,hn1] at hvl3;have hoc2:=hR2.oc;by_cases hkn:k<es.length
  ·have hx:=aA hkn;have htk:es.take (k+1)=es.take k++[es[k]]:=by rw [aY,hx];rfl
   obtain⟨u,huk,hru⟩:=hRe.2 k es[k].2 (by rw [aL,hx];rfl);have hrow:=uG (junk:=ejunk) hul huk hx;obtain⟨hx1,hx2,hx3⟩:=hmall k _ hx;have hSs:=aCT p l (es.take k) es[k];have hEs:=uS c E0 (es.take k) es[k];rw [<-htk] at hSs hEs;have hEl:=lR c (es.take k) E0;have huo:=hru.one;generalize es[k]=x at *;obtain⟨K,hKK⟩:∃ K:Nat,x.1=(K:Int):=⟨x.1.toNat,oQ⟩;rw [show x.1.toNat=K by omega] at hSs hEs;rw [hKK] at hrow;have hsa:=zF h (K:=3) (n:=Gm.sealed p) (base:=1+Gm.epochs p) (.inr (.inl ⟨rfl,rfl,rfl⟩)) (K:Int);rw [show Gm.atK (Gm.sealed p) (1+Gm.epochs p) (K:Int)=((1+Gm.epochs p+K:Nat):Int) by unfold Gm.atK;rw [if_pos oQ];omega] at hsa;have hset:=uV (vs:=vs2) (junk:=junk) (i:=1+Gm.epochs p+K) oQ u;have hset2:=aE5 (eD c E0 (es.take k)) K c;rw [<-hEs] at hset2;have hset3:=uV (vs:=uv (eD c E0 (es.take k))) (junk:=ejunk0) (i:=K) (by rw [eN,hEl];omega) (dZ c);rw [hset2] at hset3;have hlt1:1+Gm.epochs p+K<(vs2++junk).length:=by rw [aB];omega
   have hlt2:K<(uv (eD c E0 (es.take k))++ejunk0).length:=by rw [aB,eN,hEl];omega
   refine W.k fun b_=>?_;(refine SW.l [] [0,1,2,3,4,6,7] ?_;refine aX 5 ?_);refine W.cq hsa ?_;(refine SL.l [8] ?_;refine aX 9 ?_;refine W.i ?_;refine SS.dn ?_);rw [hset];refine W.k ?_;rw [hset3];refine aN.mk (k+1,vs2.set (1+Gm.epochs p+K) u) ?_;refine⟨hkn,?_⟩;dsimp only;rw [hSs];exact hR2.set (hru.mono fun x hx=>aM _ hx) _
  have hkl:k=es.length:=oQ;rw [hkl,bO] at hR2 |-;subst hkl;refine W.k ?_;refine bS.mk vs2 ?_;exact hR2
 rintro vs2 hR2;have hEl:=lR c es E0;have hvl3:=hR2.1;rw [tT,hn1] at hvl3;generalize eD c E0 es=E1 at *;generalize qX p l es=M1 at *;refine W.k ?_;refine aF (hmt _) ?_ (hpre:=fun w2 hs=>Rd.own (Hc:=[]) hSe0 hs inferInstance);rintro _ Hq hSt;have hSt1:=hSt.isOne;obtain⟨ta,tl,tc2,rfl,htl⟩:=hSt.form;rw [Nat.mul_one,aC] at htl;subst htl;refine W.j ?_;refine bP [1,2,5,8,10,11] [(bb,cl (vs2++junk) 31)] (fun _:LV×Hp=>[]) (fun y=>(bb,cl (y.1++junk) 31)::y.2) (fun y=>RB ((Ht++Hlt)++y.2) y.1 (rR E1 M1 (dA es))) ?_ ?_
 ·refine W.k ?_;refine bE [1,2,5,8,10,11,111,112] (fun y:Nat×LV×Hp=>[(113,.int .i64 (y.1:Int))]) (fun y=>(bb,cl (y.2.1++junk) 31)::y.2.2) (fun y=>(dA es).length-y.1) (fun y=>y.1<=(dA es).length/\RB ((Ht++Hlt)++y.2.2) y.2.1 (rR E1 M1 ((dA es).take y.1))) (0,vs2,[]) ⟨Nat.zero_le _,by rw [aG];exact hR2⟩ ?_;rintro⟨k,vs3,Hn3⟩ ⟨hk,hR3⟩;dsimp only at hk hR3 |-;have hvl4:=hR3.1;rw [xN] at hvl4;have hM1:=hR2.1;have hoc3:=hR3.oc;by_cases hkn:k<(dA es).length
  ·rcases hSt with ⟨hz,hz2,-⟩|⟨qb,qlen,qcap,qjunk,hz,hqxl,hqj,hqc,rfl⟩
   ·simp only [Value.slice.injEq] at hz;omega
   simp only [Value.slice.injEq] at hz;obtain⟨rfl,rfl,rfl⟩:=hz;have hx:=aA hkn;have hlu:(nv (dA es)++qjunk)[k]?=some (.int .i64 (((dA es)[k]:Nat):Int)):=by rw [aJ (by rw [aC];exact hkn),aL,hx];rfl
   have htk:(dA es).take (k+1)=(dA es).take k++[(dA es)[k]]:=by rw [aY,hx];rfl
   have hlt:=htlt _ (dG hkn);have hTs:=aCU E1 M1 ((dA es).take k) (dA es)[k];rw [<-htk] at hTs;generalize (dA es)[k]=q at *;have hsb:=aAu q oQ (.slice (some ⟨be,0,none⟩) E0.length ecap0) E1;have hea:=zF h (K:=2) (n:=Gm.epochs p) (base:=1) (.inl ⟨rfl,rfl,rfl⟩) (q:Int);rw [show Gm.atK (Gm.epochs p) 1 (q:Int)=((1+q:Nat):Int) by unfold Gm.atK;rw [if_pos oQ];omega] at hea;have hlt1:1+q<(vs3++junk).length:=by rw [aB];omega
   refine W.k ?_;refine W.cw hea ?_;refine aF hsb ?_ (hpre:=fun w2 hs=>Rd.own (Hc:=[]) (e:=23) (Hs:=[(be,cl (uv E1++ejunk0) 23)]) (.inr ⟨be,E0.length,ecap0,ejunk0,rfl,by rw [eN,hEl,Nat.mul_one],hej0,hec0,rfl⟩) hs inferInstance);rintro v5 H5 h5;have h51:=h5.isOne;have hset:=uV (vs:=vs3) (junk:=junk) (i:=1+q) oQ v5;refine W.k ?_;rw [hset];refine aN.mk (k+1,vs3.set (1+q) v5,H5++Hn3) ?_;refine⟨hkn,?_⟩;dsimp only;rw [hTs];refine (hR3.mono fun x hx=>?_).set ((RdH.of h5).mono fun x hx=>?_) _
   ·rcases bJ.1 hx with h|h
    ·exact aO _ h
    exact aM _ (aM _ h)
   exact aM _ (aO _ hx)
  have hkl:k=(dA es).length:=oQ;rw [hkl,bO] at hR3;subst hkl;refine W.k ?_;refine bS.mk (vs3,Hn3) ?_;exact hR3
 rintro⟨vs3,Hn3⟩ hR3;dsimp only at hR3 |-;have hvl5:=hR3.1;generalize rR E1 M1 (dA es)=l4 at *;have hSw:Sl 31 1 (.slice (some ⟨bb,0,none⟩) vs.length cap11) vs3 [(bb,cl (vs3++junk) 31)]:=.inr ⟨bb,vs.length,cap11,junk,rfl,oQ,hj,hlc,rfl⟩;have hbf2:bV (fun i=>[(0,1),(1,1),(2,2)][i]?) [.int .i64 0,.slice none 0 0,.int .u64 0,.slice none 0 0] [(0,.int .i64 2),(1,.slice (some ⟨bb,0,none⟩) vs.length cap11),(2,.agg [dZ c,.slice (some ⟨eb,0,none⟩) es.length ecap].toArray)]=some [.int .i64 2,.slice (some ⟨bb,0,none⟩) vs.length cap11,dZ c,.slice (some ⟨eb,0,none⟩) es.length ecap]:=rfl;refine W.k ?_;refine W.cq (hfi ((Ht++Hlt)++Hn3) _ vs3 l4 hR3 oQ hl256) ?_ (hpre:=fun w2 hs=>Rd.own (Hc:=(tr,cl (rtc d r) 100)::((Ht++Hlt)++Hn3)) hSw hs inferInstance);by_cases hf2:lC p t r.root l4=true
 ·rw [if_pos hf2,hf2];refine W.k ?_;refine pT ((tr,cl (rtc d r) 100)::(Hd++([(bb,cl (vs3++junk) 31)]++((Ht++Hlt)++Hn3)))) [.int .i64 2,.slice (some ⟨bb,0,none⟩) vs.length cap11,dZ c,.slice (some ⟨eb,0,none⟩) es.length ecap] ?_;exact .inr ⟨hdn2,_,(c.toNat:Int),_,_,rfl,⟨rfl⟩,⟨vs3,_,_,hSw,hR3,rfl⟩,rfl⟩
 have hff2:lC p t r.root l4=false:=by simpa using hf2
 rw [if_neg hf2,hff2];refine W.k ?_;refine pT ((tr,cl (rtc d r) 100)::(Hd++(Hv++Ht))) [.int .i64 3,.slice va vl vc,.int .u64 0,.slice none 0 0] ?_;exact .inr ⟨hdn2,_,0,_,_,rfl,⟨rfl⟩,⟨vs,Hv,Ht,hSv,hRv,rfl⟩,rfl⟩
abbrev xZ(d tr s p t:Nat)(ev lv:Value)(w:Bool)(st:Int):LV:=[ptv d,ptv tr,ptv s,.int .i64 (p:Int),.int .i64 (t:Int),ev,lv,.bool w,.int .i64 st]
theorem Sl.rowD{e:Nat}{v:Value}{L:LL}{Hs:Hp}(h:Sl e 32 v (cbs L.flatten) Hs)(hL:D32 L)(h0:0<L.length):∃ (b cap:Nat) (junk:LV),v=.slice (some ⟨b,0,none⟩) L.length cap/\L.length<=cap/\Hs=[(b,cl (cbs L.flatten++junk) e)]/\∀ L':LL,D32 L'->L'.length=L.length->Sl e 32 v (cbs L'.flatten) [(b,cl (cbs L'.flatten++junk) e)]:=by
 rcases h with ⟨rfl,h2,rfl⟩|⟨b,len,cap,junk,rfl,hx,hj,hlc,rfl⟩
 ·have h3:=congrArg List.length h2;rw [aI,dH hL,List.length_nil] at h3;omega
 obtain rfl:len=L.length:=by rw [aI,dH hL] at hx;omega
 refine⟨b,cap,junk,rfl,hlc,rfl,fun L' h' hl=>.inr ⟨b,L.length,cap,junk,rfl,?_,hj,hlc,rfl⟩⟩;rw [aI,dH h',hl]
theorem aKY{p t:Nat}(h:Gm.Ok p t){K:Nat}(hK:(K:Int)<(Gm.sealed p:Nat)):Tri prog 65 [kM p t,.int .i64 3,.int .i64 (K:Int)] [] NT (fun v H=>v=.int .i64 ((Ks p K:Nat):Int)/\H=[]):=by have:=zF h (K:=3) (n:=Gm.sealed p) (base:=1+Gm.epochs p) (.inr (.inl ⟨rfl,rfl,rfl⟩)) (K:Int);rwa [show Gm.atK (Gm.sealed p) (1+Gm.epochs p) (K:Int)=((Ks p K:Nat):Int) by unfold Gm.atK;rw [if_pos oQ];show _=((1+Gm.epochs p+K:Nat):Int);omega] at this
theorem aKX{p t:Nat}(h:Gm.Ok p t){q:Nat}(hq:q<Gm.epochs p):Tri prog 65 [kM p t,.int .i64 2,.int .i64 (q:Int)] [] NT (fun v H=>v=.int .i64 ((1+q:Nat):Int)/\H=[]):=by have:=zF h (K:=2) (n:=Gm.epochs p) (base:=1) (.inl ⟨rfl,rfl,rfl⟩) (q:Int);rwa [show Gm.atK (Gm.epochs p) 1 (q:Int)=((1+q:Nat):Int) by unfold Gm.atK;rw [if_pos oQ];omega] at this
theorem aML{sp d tr s p t rc n N:Nat}{ws:LL}(h:Gm.Ok p t){C:Dv}{x:So}{Hd HT HR:Hp}(hx:x.Ok p)(hD:gS d C Hd)(hlen:C.len=256*Gm.total p t)(hS:sA sp d tr s p t x HT)(hSe:jN s rc n ws N HR)(hKo:kA n ws)(k:Int):Tri prog 40 [ptv sp,.int .i64 k] (HT++(Hd++HR)) NT (fun v H=>∃ v1 Hr HT',v=.tuple #[v1,.int .i64 (rdS p (dY (Rg.enc ws n)) k C x).1]/\Sl 5 1 v1 (cbs (rdS p (dY (Rg.enc ws n)) k C x).2.1) Hr/\sA sp d tr s p t (rdS p (dY (Rg.enc ws n)) k C x).2.2 HT'/\H=HT'++(Hd++(HR++Hr))):=by
 obtain⟨ev,lv,He,Hl,rfl,hE,hL⟩:=hS;refine Tri.mt func40 ntmps40 fun w hw=>?_;have oe:=hE.isOne;have ol:=hL.isOne;by_cases h0:x.st≠0
 ·have e1:rdS p (dY (Rg.enc ws n)) k C x=(x.st,[],x):=by unfold rdS;rw [if_pos h0]
  rw [e1];dsimp only;have h0':¬ x.st=0:=h0;refine W.k ?_;(refine SW.l [] [0,1,2,3,4,5,6] ?_);refine W.k ?_;refine Fin.to (((sp,cl (xZ d tr s p t ev lv x.w x.st) 144)::(He++Hl))++(Hd++(HR++[]))) ?_;exact F.f2 ⟨_,[],_,rfl,Sl.nil _ _,⟨ev,lv,He,Hl,rfl,hE,hL⟩,rfl⟩
 have h0':x.st=0:=Decidable.not_not.1 h0;have hsa:=zF h (K:=3) (n:=Gm.sealed p) (base:=1+Gm.epochs p) (.inr (.inl ⟨rfl,rfl,rfl⟩)) k;by_cases hk:¬ (0<=k/\k<(Gm.sealed p:Nat))
 ·have e1:rdS p (dY (Rg.enc ws n)) k C x=(3,[],x):=by unfold rdS;rw [if_neg h0,if_pos hk]
  rw [e1];dsimp only;rw [show Gm.atK (Gm.sealed p) (1+Gm.epochs p) k = -1 by unfold Gm.atK;rw [if_neg hk]] at hsa;refine W.k ?_;refine W.cw hsa ?_;refine Fin.to (((sp,cl (xZ d tr s p t ev lv x.w x.st) 144)::(He++Hl))++(Hd++(HR++[]))) ?_;exact F.f2 ⟨_,[],_,rfl,Sl.nil _ _,⟨ev,lv,He,Hl,rfl,hE,hL⟩,rfl⟩
 have hk2:=Decidable.not_not.1 hk;obtain⟨j,rfl⟩:∃ j:Nat,k=j:=⟨k.toNat,oQ⟩;have hsl:=Gm.sealed_le h;have hel:=Gm.epochs_le h;have hLe:Gm.leaves p=1+Gm.epochs p+Gm.sealed p:=rfl;have htot:Gm.total p t=Gm.leaves p+(1+t):=rfl;have hKs:Ks p j=1+Gm.epochs p+j:=rfl;rw [show Gm.atK (Gm.sealed p) (1+Gm.epochs p) (j:Int)=((Ks p j:Nat):Int) by unfold Gm.atK;rw [if_pos hk2,hKs];omega] at hsa;have hKl:Ks p j<Gm.total p t:=oQ;have hlvl:=hx.lv;have hld:=aES hD ((256*Ks p j:Nat):Int) 256;have hr0:C.rdy ((256*Ks p j:Nat):Int) 256=if C.down=true then 8 else 0:=by
  unfold Dv.rdy;split
  ·rfl
  rw [hlen,if_neg oQ]
 rw [hr0] at hld;have hbk:(C.blk (Ks p j))=C.loadB ((256*Ks p j:Nat):Int) 256:=rfl;have em:(256:Int)*((Ks p j:Nat):Int)=((256*Ks p j:Nat):Int):=oQ;by_cases hdn:C.down=true
 ·have e1:rdS p (dY (Rg.enc ws n)) j C x=(8,[],{ x with st:=8 }):=by unfold rdS;rw [if_neg h0,if_neg hk,if_pos hdn]
  rw [e1];dsimp only;rw [if_pos hdn,<-em] at hld;refine W.k ?_;refine W.cw hsa ?_;refine aF hld ?_;rintro _ _ ⟨sv,Hv,rfl,hsv,rfl⟩;have hsv1:=hsv.isOne;refine W.k ?_;rw [show (xZ d tr s p t ev lv x.w x.st).set 8 (.int .i64 8)=xZ d tr s p t ev lv x.w 8 from rfl];refine Fin.to (((sp,cl (xZ d tr s p t ev lv x.w 8) 144)::(He++Hl))++(Hd++(HR++[]))) ?_;exact F.f2 ⟨_,[],_,rfl,Sl.nil _ _,⟨ev,lv,He,Hl,rfl,hE,hL⟩,rfl⟩
 rw [if_neg hdn,<-hbk,<-em] at hld;have hdn2:C.down=false:=by simpa using hdn
 have hb256:(C.blk (Ks p j)).length=256:=Dv.blk_256 hD.1 hdn2 hlen hKl;have hlf:=fun v=>aB2 (Ks p j) v (C.blk (Ks p j)) (by rw [hb256];decide);have e1:rdS p (dY (Rg.enc ws n)) j C x=if Sha.sum (fV (Ks p j) (C.blk (Ks p j)))≠mK x.lv (Ks p j) then (20,[],{ x with st:=20 }) else (0,dY (Rg.enc ws n) (x.es.getD j 0) j (C.blk (Ks p j)),x):=by unfold rdS;rw [if_neg h0,if_neg hk,if_neg hdn];rfl
 rw [e1];clear e1 hbk hr0;have hs32:(Sha.sum (fV (Ks p j) (C.blk (Ks p j)))).length=32:=Sha.sum_len _;generalize C.blk (Ks p j)=B at *;generalize Sha.sum (fV (Ks p j) B)=S1 at *;obtain⟨lb,lc,lj,rfl,hlc,rfl,hLn⟩:=hL.rowD hx.d oQ;have hLx:=hLn x.lv hx.d rfl;clear hLn;have hxk:x.lv[Ks p j]?=some (mK x.lv ((Ks p j:Nat):Int)):=by unfold mK;rw [if_pos oQ,aS,aE,aA oQ];rfl
 have hg:=nD (junk:=lj) hx.d hxk;have hlv32:(mK x.lv ((Ks p j:Nat):Int)).length=32:=xG hx.d _;have hlvc:=lN hlv32;have hs32c:=lN hs32;have hfit:Ks p j*32+32<=(cbs x.lv.flatten++lj).length:=by rw [aB,aI,dH hx.d];omega
 refine W.k ?_;refine W.cw hsa ?_;refine aF hld ?_;rintro _ _ ⟨sv,Hv,rfl,hsv,rfl⟩;have hsv1:=hsv.isOne;refine W.k ?_;(refine SW.l [] [0,1,3,4,5,6,7,8,9] ?_;refine aX 2 ?_);refine W.cq (hlf sv) ?_ (hpre:=fun w2 hs=>Rd.own (Hc:=[]) hsv hs inferInstance);by_cases hne:S1=mK x.lv ((Ks p j:Nat):Int)
 ·rw [if_neg (fun hh=>hh hne)];(refine bB [] ?_;refine dS 10 rfl (aAr rfl rfl rfl hs32 hne) ?_;refine SS.dn ?_);have hen:x.es.length=Gm.sealed p:=hx.es;have hE0:=hE;rcases hE with ⟨-,hz,-⟩|⟨be,elen,ecap,ejunk,rfl,hexl,hej,hec,rfl⟩
  ·have h9:=eN x.es;rw [hz,List.length_nil] at h9;omega
  rw [eN] at hexl;obtain rfl:elen=x.es.length:=by omega
  have hlu:(uv x.es++ejunk)[j]?=some (dZ (x.es.getD j 0)):=by rw [aJ (by rw [eN];omega)];exact aD2 oQ
  have hso:=fun v=>aD6 hSe hKo (x.es.getD j 0) j oQ v B oQ;refine W.k ?_;(refine SW.l [14] [0,1,2,3,4,5,6,7,8,9,10,11,12,13] ?_;refine bL 14 ?_);refine aF (hso sv) ?_ (hpre:=fun w2 hs=>Rd.own (Hc:=HR) hsv hs inferInstance);rintro v1 _ ⟨Hr,hr,rfl⟩;have hr1:=hr.isOne;(refine SL.l [15,16,17] ?_);refine W.k ?_;refine Fin.to (((sp,cl (xZ d tr s p t (.slice (some ⟨be,0,none⟩) x.es.length ecap) (.slice (some ⟨lb,0,none⟩) x.lv.length lc) x.w x.st) 144)::([(be,cl (uv x.es++ejunk) 23)]++[(lb,cl (cbs x.lv.flatten++lj) 90)]))++(Hd++(HR++Hr))) ?_;exact F.f2 ⟨_,Hr,_,rfl,hr,⟨_,_,_,_,rfl,hE0,hLx⟩,rfl⟩
 rw [if_pos hne];(refine bB [] ?_;refine dS 10 rfl (aEJ rfl rfl rfl hs32 hlv32 hne) ?_;refine SS.dn ?_);refine W.k ?_;rw [show (xZ d tr s p t ev (.slice (some ⟨lb,0,none⟩) x.lv.length lc) x.w x.st).set 8 (.int .i64 20)=xZ d tr s p t ev (.slice (some ⟨lb,0,none⟩) x.lv.length lc) x.w 20 from rfl];refine Fin.to (((sp,cl (xZ d tr s p t ev (.slice (some ⟨lb,0,none⟩) x.lv.length lc) x.w 20) 144)::(He++[(lb,cl (cbs x.lv.flatten++lj) 90)]))++(Hd++(HR++[]))) ?_;exact F.f2 ⟨_,[],_,rfl,Sl.nil _ _,⟨ev,_,He,_,rfl,hE,hLx⟩,rfl⟩
end
end Go.Proofs.YtdfclocfackkmaaGreat
