/- A Commit, step by step: the document's. -/
import Derived.Test.YtdfclocfackkmaaGreatPm38
import Derived.Test.YtdfclocfackkmaaGreatPm40
set_option linter.unusedVariables false
set_option linter.unusedSimpArgs false
set_option linter.unusedSectionVars false
set_option maxHeartbeats 16000000
namespace Go.Proofs.YtdfclocfackkmaaGreat
open Go Go.Proofs.Tryz
section
attribute [local irreducible] SW SL SQ SH SA SS Pu Fin bS aN
theorem RB.cons{H:Hp}{u:Value}{us:LV}{b:LB}{bss:LL}(hu:RdH H u b)(h:RB H us bss):RB H (u::us) (b::bss):=⟨by simp [h.1],fun i c hi=>by
 cases i with
 | zero=>
  simp only [jF,cR] at hi |-
  subst hi
  exact⟨u,rfl,hu⟩
 | succ i=>simpa using h.2 i c (by simpa using hi)⟩
theorem aLl(l:LL)(a b:List (Int×LB)):jE l (a++b)=jE (jE l a) b:=by unfold jE;rw [iH]
abbrev aHR(d tr:Nat)(r:Rg)(HT Hd HR:Hp):Hp:=(tr,cl (rtc d r) 100)::(HT++(Hd++HR))
abbrev tG(d tr sp s p t:Nat)(r:Rg)(ev lv:Value)(w:Bool)(st:Int)(He Hl Hd HR:Hp):Hp:=(tr,cl (rtc d r) 100)::(((sp,cl (xZ d tr s p t ev lv w st) 144)::(He++Hl))++(Hd++HR))
structure DoS where
 k:Nat
 lv:Value
 us:LV
 HO:Hp
 HQ:Hp
 HR:Hp
theorem aMN{sp d tr s p t rc n N:Nat}{ws:LL}(h:Gm.Ok p t){C:Dv}{x:So}(hx:x.Ok p){r:Rg}(hr:r.Ok){Hd HT HR:Hp}(hD:gS d C Hd)(h8:C.ws.length%8=0)(hS:sA sp d tr s p t x HT)(hSe:jN s rc n ws N HR)(hKo:kA n ws)(hN:N<=100000000){lv:Value}{us:LV}{l:List Ent}(hm:iY p t l=true){c:UInt64}{X:UInt64->Nat->LB->LB}(hXX:dY (Rg.enc ws n)=X):Tri prog 105 [ptv sp,lv,dZ c] (aHR d tr r HT Hd HR) (fun w=>rV ((aHR d tr r HT Hd HR).map Prod.fst) w lv us l) (fun v H=>∃ Hd' HT' HR',v=.int .i64 (kV p c (dT X c l) (C,r,x)).1/\gS d (kV p c (dT X c l) (C,r,x)).2.1 Hd'/\sA sp d tr s p t { (kV p c (dT X c l) (C,r,x)).2.2.2 with st:=x.st } HT'/\jN s rc n ws (N+l.length) HR' /\ H=(tr,cl (rtc d (kV p c (dT X c l) (C,r,x)).2.2.1) 100)::(HT'++(Hd'++HR'))):=by
 obtain⟨ev,lfv,He,Hl,rfl,hE,hLf⟩:=hS;have hX1:∀ e k b,(X e k b).length=b.length:=fun e k b=>by rw [<-hXX];exact mJ (fun y=>Rg.enc_len ..) ..
 have hll:=Gm.leaves_le h;have hsl:=Gm.sealed_le h;have hel:=Gm.epochs_le h;have hLq:Gm.leaves p=1+Gm.epochs p+Gm.sealed p:=rfl;have ht:=h.2.2.2;obtain⟨hesl,hmall⟩:=wH hm;have hmL:nE p (-1) l=true:=by unfold iY at hm;rw [bR] at hm;exact hm.2
 have hm2:iY p t (dT X c l)=true:=by rw [aAH hX1];exact hm
 have htlt:=uW hm;have htle:=oH l;have hxl:=hx.es;have hxv:=hx.lv;have hx0:0<Gm.sealed p:=by obtain⟨h1,h2,-⟩:=hmall 0 _ (aA oQ);omega
 have oe:=hE.isOne;have ol:=hLf.isOne;obtain⟨ea,en,ec,rfl,hen⟩:=hE.form;rw [eN,Nat.mul_one] at hen;obtain⟨fa,fn,fc,rfl,hfn⟩:=hLf.form;rw [aI,dH hx.d] at hfn;obtain rfl:en=x.es.length:=hen.symm;obtain rfl:fn=x.lv.length:=by omega
 refine Tri.mt func105 ntmps105 fun w hw=>?_;obtain⟨hw1,hul,hws⟩:=hw;have hwo:OC us:=rV.oc (v:=lv) ⟨hw1,hul,hws⟩;have hw2:=hw1;unfold eH at hw2;obtain⟨a,ca,rfl,hcap,hg⟩:=hw2.rows dQ (nH us l);have hzl:(List.zipWith (fun u (x:Ent)=>[Value.int .i64 x.1,u]) us l).length=l.length:=by rw [fZ,hul,iS]
 rw [hzl] at hcap;rw [hzl] at hw1;rw [hzl];have hb22:bV (fun i=>[(0,1),(1,1)][i]?) ([.int .u64 0]++[.slice none 0 0]) [(0,dZ c)]=some [dZ c,.slice none 0 0]:=rfl;refine W.k fun _ b_=>?_;rename_i b7;refine W.ap (Sl.own 23 1 b_ (len:=0) (xs:=[]) rfl) (ys:=uv x.es) (mm:=x.es.length) (fun w2 hs=>hE.srcAt hs inferInstance) (fun v8 H8 h8'=>?_) (hys:=by rw [eN,Nat.mul_one]) (hbytes:=by rw [eN];simp;omega);rw [List.nil_append] at h8';rcases h8' with ⟨-,hz,-⟩|⟨be,elen,ecap,ej,rfl,hexl,hej,hec,rfl⟩
 ·have h9:=eN x.es;rw [hz,List.length_nil] at h9;omega
 rw [eN,Nat.mul_one] at hexl;obtain rfl:elen=x.es.length:=hexl.symm;refine W.k fun b_=>?_;refine W.ap (Sl.own 90 32 b_ (len:=0) (xs:=[]) rfl) (ys:=cbs x.lv.flatten) (mm:=x.lv.length) (fun w2 hs=>hLf.srcAt hs inferInstance) (fun v9 H9 h9'=>?_) (hys:=by rw [aI,dH hx.d]) (hbytes:=by rw [aI,dH hx.d];simp;omega);rw [List.nil_append] at h9';obtain⟨lb,lc,lj,rfl,hlc,rfl,hLn⟩:=h9'.rowD hx.d oQ;clear h9';have hES:∀ es:List UInt64,es.length=x.es.length->Sl 23 1 (.slice (some ⟨be,0,none⟩) x.es.length ecap) (uv es) [(be,cl (uv es++ej) 23)]:=fun es he=>.inr ⟨be,x.es.length,ecap,ej,rfl,by rw [eN,he,Nat.mul_one],hej,hec,rfl⟩;clear hej hec;have hLb0:Sl 166 2 (.slice none 0 0) (eH [] []) []:=Sl.nil _ _;refine W.j ?_;refine bP [0,1,2,7,8,9] ((b7,cl [dZ c,.slice none 0 0] 65)::(be,cl (uv x.es++ej) 23)::(lb,cl (cbs x.lv.flatten++lj) 90)::HR) (fun _:DoS=>[]) (fun y=>(b7,cl [dZ c,y.lv] 65)::(be,cl (uv (eD c x.es l)++ej) 23)::(lb,cl (cbs (jE x.lv (lM p (dT X c l))).flatten++lj) 90)::(y.HO++(y.HQ++y.HR)))
  (fun y=>Sl 166 2 y.lv (eH y.us (dT X c l)) y.HO/\RB y.HQ y.us ((dT X c l).map Prod.snd)/\jN s rc n ws (N+l.length) y.HR) ?_ ?_
 ·rw [show uv x.es=uv (eD c x.es (l.take 0)) from rfl,show cbs x.lv.flatten=cbs (jE x.lv (lM p (dT X c (l.take 0)))).flatten from rfl];refine W.k ?_;refine bE [0,1,2,7,8,9,35,36] (fun y:DoS=>[(37,.int .i64 (y.k:Int))]) (fun y=>(b7,cl [dZ c,y.lv] 65)::(be,cl (uv (eD c x.es (l.take y.k))++ej) 23)::(lb,cl (cbs (jE x.lv (lM p (dT X c (l.take y.k)))).flatten++lj) 90)::(y.HO++(y.HQ++y.HR))) (fun y=>l.length-y.k)
   (fun y=>y.k<=l.length/\Sl 166 2 y.lv (eH y.us (dT X c (l.take y.k))) y.HO/\RB y.HQ y.us ((dT X c (l.take y.k)).map Prod.snd)/\jN s rc n ws (N+y.k) y.HR) ⟨0,.slice none 0 0,[],[],[],HR⟩ ⟨Nat.zero_le _,hLb0,RB.nil _,hSe⟩ ?_
  rintro⟨k,ov,us2,HO,HQ2,HR2⟩ ⟨hk,hO,hR2,hS2⟩;dsimp only at hk hO hR2 hS2 |-;have oO:=hO.isOne;by_cases hkn:k<l.length
  ·have hx0:=aA hkn;obtain⟨u,huk,hru⟩:=hws k _ hx0;obtain⟨pb,po,plv,T,fz,rfl,hb,hbk,hv⟩:=hg k [.int .i64 l[k].1,u] (by rw [eV,huk,hx0]);obtain⟨hx1,hx2,hx3⟩:=hmall k _ hx0;have htk:l.take (k+1)=l.take k++[l[k]]:=by rw [aY,hx0];rfl
   have htkl:(dT X c (l.take k)).length=k:=by rw [mS,aH];omega
   have hul2:us2.length=(dT X c (l.take k)).length:=by rw [hR2.1,aC]
   have hecl:=fL us2 _ hul2;have huo:=hru.isOne;have hsn:=aC5 X c (l.take k) l[k];have hen2:=uS c x.es (l.take k) l[k];rw [<-htk] at hsn hen2;have hcn:=aDy p (dT X c (l.take k)) (l[k].1,X c l[k].1.toNat l[k].2);rw [<-hsn] at hcn;have hEl:=lR c (l.take k) x.es;have hV32:=sK hx.d (lM p (dT X c (l.take k))) (aAd _ _);have hVl:=qM x.lv (lM p (dT X c (l.take k)));have hvn:jE x.lv (lM p (dT X c (l.take (k+1))))=(jE x.lv (lM p (dT X c (l.take k)))).set (Ks p l[k].1.toNat) (Sha.sum (fV (Ks p l[k].1.toNat) (X c l[k].1.toNat l[k].2))):=by rw [hcn,aC7];rfl
   have hLs:=fun v=>kL hul2 v (l[k].1,X c l[k].1.toNat l[k].2);rw [<-hsn] at hLs;have hRs:∀ {H:Hp} {v:Value},RB H us2 ((dT X c (l.take k)).map Prod.snd)->RdH H v (X c l[k].1.toNat l[k].2)->RB H (us2++[v]) ((dT X c (l.take (k+1))).map Prod.snd):=fun h1 h2=>by rw [hsn,aZ];exact h1.snoc h2
   have hXl:=hX1 c l[k].1.toNat l[k].2;generalize jE x.lv (lM p (dT X c (l.take k)))=V at *;generalize eD c x.es (l.take k)=E at *;generalize dT X c (l.take k)=L0 at *;generalize l[k]=z at *;obtain⟨z1,z2⟩:=z;dsimp only at hx1 hx2 hx3 hv hen2 hvn hLs hRs hXl hru;obtain⟨K,rfl⟩:∃ K:Nat,z1=(K:Int):=⟨z1.toNat,oQ⟩;rw [aS] at hen2 hvn hXl;simp only [aS] at hRs;have hsea:=aIe hS2 hKo oQ c K oQ u z2 oQ;rw [hXX] at hsea;have hsa:=aKY h (show (K:Int)<_ by omega);have hKs:Ks p K=1+Gm.epochs p+K:=rfl;have hlf:=fun v=>aB2 (Ks p K) v (X c K z2) (by rw [hXl,hx3];decide);have hs32:(Sha.sum (fV (Ks p K) (X c K z2))).length=32:=Sha.sum_len _;have hcs:=lN hs32;have hset2:=aE5 E K c;rw [<-hen2] at hset2;have hset3:=uV (vs:=uv E) (junk:=ej) (i:=K) (by rw [eN,hEl];omega) (dZ c);rw [hset2] at hset3;have hlt2:K<(uv E++ej).length:=by rw [aB,eN,hEl];omega
   have hset4:=aAb (junk:=lj) (x:=Sha.sum (fV (Ks p K) (X c K z2))) hV32 (i:=Ks p K) oQ;rw [<-hvn] at hset4;have hfit:Ks p K*32+32<=(cbs V.flatten++lj).length:=by rw [aB,aI,dH hV32];omega
   generalize hSS:Sha.sum (fV (Ks p K) (X c K z2))=S1 at *;generalize hXK:X c K z2=B at *;clear hvn hen2 hsn hcn hSS hXK htk;generalize hV2e:jE x.lv (lM p (dT X c (l.take (k+1))))=V2 at *;generalize hE2e:eD c x.es (l.take (k+1))=E2 at *;refine W.k fun b_=>?_;generalize b_=b11;(refine SW.l [10] [0,1,2,3,4,5,6,7,8,9] ?_;refine bL 10 ?_);refine aF hsea ?_ (hpre:=fun w2 hs=>hru.ro (Hc:=HR2) hs);rintro v1 _ ⟨Hr1,HR3,hr1,rfl,hS3⟩;have hr11:=hr1.isOne;have hRd:=RdH.of hr1;have hr0:=hr1;obtain⟨a1,n1,c1,rfl,-⟩:=hr1.form;have hbe:=aGS (K:Int) a1 n1 c1;(refine SL.l [11,12] ?_);refine W.k fun b_=>?_;refine W.ap (ys:=[.int .i64 (K:Int),.slice a1 n1 c1]) (mm:=1) hO (fun w2 hs=>(Sl.own 166 2 b_ (len:=1) (xs:=[.int .i64 (K:Int),.slice a1 n1 c1]) rfl).srcAt hs inferInstance) (fun ov2 HO2 hO2=>?_) (hys:=rfl) (hbytes:=by rw [hecl,htkl];simp;omega);have oO2:=hO2.isOne;rw [<-hLs] at hO2;refine W.k ?_;rw [hset3,show [dZ c,ov].set 1 ov2=[dZ c,ov2] from rfl];(refine SW.l [7] [0,1,2,3,4,5,6] ?_;refine bL 7 ?_);refine W.cq hsa ?_;(refine SL.l [8,9] ?_);refine W.k ?_;refine W.cw (hlf _) ?_ (hpre:=fun w2 hs=>Rd.own (Hc:=[]) hr0 hs inferInstance);rw [hset4];subst hV2e hE2e;refine aN.mk ⟨k+1,ov2,us2++[.slice a1 n1 c1],HO2,HQ2++Hr1,HR3⟩ ?_;exact⟨hkn,hO2,hRs (hR2.mono fun y hy=>aO _ hy) (hRd.mono fun y hy=>aM _ hy),hS3⟩
  have hkl:k=l.length:=oQ;rw [hkl,bO] at hO hR2 |-;rw [hkl] at hS2;subst hkl;refine W.k ?_;refine bS.mk ⟨0,ov,us2,HO,HQ2,HR2⟩ ?_;exact⟨hO,hR2,hS2⟩
 rintro⟨k9,Lv,us2,HO,HQ2,HR2⟩ ⟨hO,hR2,hS2⟩;dsimp only at hO hR2 hS2 |-;have oO:=hO.isOne;obtain⟨La,Ll,Lc,rfl,-⟩:=hO.form;have htb:=aDb X c l;have hre:=aDR X c c l x.es;have hsl2:=mS X c l;have hchg:=aBR h (eD c x.es l) hm2;have hVN:=sK hx.d (oJ p (eD c x.es l) (dT X c l)) hchg.1;have hV1:=sK hx.d (lM p (dT X c l)) (aAd _ _);have hV1l:=qM x.lv (lM p (dT X c l));have hVtwo:jE x.lv (oJ p (eD c x.es l) (dT X c l))=jE (jE x.lv (lM p (dT X c l))) (oI (eD c x.es l) (dA l)):=by unfold oJ;rw [aLl,htb]
 have hVNl:=qM x.lv (oJ p (eD c x.es l) (dT X c l));have hEl:=lR c l x.es;clear hchg;generalize hLL:dT X c l=L2 at *;generalize hEE:eD c x.es l=E2 at *;generalize hVV:jE x.lv (oJ p E2 L2)=lvN at *;generalize jE x.lv (lM p L2)=V1 at *;have hmt:=fun v=>aBj (p:=p) v us l hul hwo hmL oQ oQ;refine W.k ?_;refine aF (hmt _) ?_ (hpre:=fun w2 hs=>hw1.ro (Hc:=[]) hs);rintro _ Hq hT;have hT1:=hT.isOne;obtain⟨ta,tl,tc2,rfl,htl⟩:=hT.form;rw [Nat.mul_one,aC] at htl;subst htl;refine W.j ?_;refine bP [0,1,2,7,8,9] [(lb,cl (cbs V1.flatten++lj) 90)] (fun _:Unit=>[]) (fun _=>[(lb,cl (cbs lvN.flatten++lj) 90)]) NT ?_ ?_
 ·rw [show cbs V1.flatten=cbs (jE V1 (oI E2 ((dA l).take 0))).flatten from rfl];refine W.k ?_;refine bE [0,1,2,7,8,9,82,83] (fun y:Nat=>[(84,.int .i64 (y:Int))]) (fun y=>[(lb,cl (cbs (jE V1 (oI E2 ((dA l).take y))).flatten++lj) 90)]) (fun y=>(dA l).length-y) (fun y=>y<=(dA l).length) 0 (Nat.zero_le _) ?_;rintro k hk;have hVk:=sK hV1 (oI E2 ((dA l).take k)) (aEm _ _);have hVkl:=qM V1 (oI E2 ((dA l).take k));by_cases hkn:k<(dA l).length
  ·rcases hT with ⟨hz,hz2,-⟩|⟨qb,qlen,qcap,qjunk,hz,hqxl,hqj,hqc,rfl⟩
   ·simp only [Value.slice.injEq] at hz;omega
   simp only [Value.slice.injEq] at hz;obtain⟨rfl,rfl,rfl⟩:=hz;have hx0:=aA hkn;have hlu:(nv (dA l)++qjunk)[k]?=some (.int .i64 (((dA l)[k]:Nat):Int)):=by rw [aJ (by rw [aC];exact hkn),aL,hx0];rfl
   have hlt:=htlt _ (dG hkn);have htk:(dA l).take (k+1)=(dA l).take k++[(dA l)[k]]:=by rw [aY,hx0];rfl
   have hbn:=aDz E2 ((dA l).take k) (dA l)[k];rw [<-htk] at hbn;have hvn:jE V1 (oI E2 ((dA l).take (k+1)))=(jE V1 (oI E2 ((dA l).take k))).set (1+(dA l)[k]) (Sha.sum (fV (1+(dA l)[k]) (epB (dA l)[k] E2))):=by rw [hbn,aC7];rfl
   clear hbn htk;generalize hV3e:jE V1 (oI E2 ((dA l).take (k+1)))=V3 at *;generalize jE V1 (oI E2 ((dA l).take k))=V at *;generalize (dA l)[k]=q at *;have hsb:=aAu q oQ (.slice (some ⟨be,0,none⟩) x.es.length ecap) E2;have hea:=aKX h hlt;have hlf:=fun v=>aB2 (1+q) v (epB q E2) (by rw [pP];decide);have hs32:(Sha.sum (fV (1+q) (epB q E2))).length=32:=Sha.sum_len _;have hcs:=lN hs32;have hset4:=aAb (junk:=lj) (x:=Sha.sum (fV (1+q) (epB q E2))) hVk (i:=1+q) oQ;rw [<-hvn] at hset4;have hfit:(1+q)*32+32<=(cbs V.flatten++lj).length:=by rw [aB,aI,dH hVk];omega
   clear hvn;generalize Sha.sum (fV (1+q) (epB q E2))=S1 at *;generalize epB q E2=B at *;refine W.k ?_;refine W.cw hea ?_;refine aF hsb ?_ (hpre:=fun w2 hs=>Rd.own (Hc:=[]) (hES E2 hEl) hs inferInstance);rintro v5 H5 h5;have h51:=h5.isOne;refine W.k ?_;refine W.cw (hlf v5) ?_ (hpre:=fun w2 hs=>Rd.own (Hc:=[]) h5 hs inferInstance);rw [hset4];subst hV3e;refine aN.mk (k+1) ?_;exact hkn
  have hkl:k=(dA l).length:=oQ;rw [hkl,bO,<-hVtwo];refine W.k ?_;refine bS.mk () ?_;exact trivial
 rintro⟨⟩ -;have hLvN:=hLn lvN hVN hVNl;have henc:=fun v=>aIh c v us2 L2 hR2 oQ;refine W.k ?_;refine aF (henc _) ?_ (hpre:=fun w2 hs=>Rd.own (Hc:=[]) hO hs inferInstance);rintro v5 _ ⟨u0,Hv,Hn,hSv,hRn,rfl⟩;have hbl:(uO c L2).length=1+L2.length:=by unfold uO;rw [aW,aC];omega
 have hb256:∀ b∈uO c L2,b.length=256:=fun b hb=>by
  unfold uO at hb;rcases cD.1 hb with rfl|hb
  ·exact xE _ _
  obtain⟨y,hy,rfl⟩:=bM.1 hb;obtain⟨i,hi⟩:=cW.1 hy;exact aAn hm2 i y hi
 have hRB:RB (HQ2++Hn) (u0::us2) (uO c L2):=RB.cons (hRn.mono fun y hy=>aM _ hy) (hR2.mono fun y hy=>aO _ hy);have hvl:=hRB.1;have hSv1:=hSv.isOne;rcases hSv with ⟨-,hz,-⟩|⟨bb,len,cap,junk,rfl,hxl5,hj5,hlc5,rfl⟩
 ·simp at hz
 obtain rfl:len=(uO c L2).length:=by omega
 have hlog:pH p c L2=(putL (gB (Gm.leaves p) (uO c L2))).and feS:=rfl;generalize u0::us2=vs5 at *;have hLq3:L2.length<=t:=oQ;generalize hbs:uO c L2=bss at *;refine W.j ?_;refine bP [0,1,2,7,8,9] Hd (fun _:Dv×Hp=>[]) (fun x=>x.2) (fun x=>gS d x.1 x.2/\putL (gB (Gm.leaves p) bss) C=(0,x.1)) ?_ ?_
 ·refine W.k ?_;refine bE [0,1,2,7,8,9,105,106] (fun x:Nat×Dv×Hp=>[(107,.int .i64 (x.1:Int))]) (fun x=>x.2.2) (fun x=>bss.length-x.1) (fun x=>x.1<=bss.length/\gS d x.2.1 x.2.2/\putL ((gB (Gm.leaves p) bss).take x.1) C=(0,x.2.1)) (0,C,Hd) ⟨Nat.zero_le _,hD,by rw [cU];rfl⟩ ?_;rintro⟨k,σ2,Hd⟩ ⟨hk,hD,hp⟩;dsimp only at hk hD hp |-;by_cases hkn:k<bss.length
  ·have hbk:=aA hkn;have hbl:=hb256 _ (dG hkn);have hrow:(gB (Gm.leaves p) bss)[k]?=some (Gm.leaves p+k,bss[k]):=by unfold gB;rw [fD,hbk];rfl
   obtain⟨hs1,hs2⟩:=rD hp hrow;dsimp only at hs1 hs2;have hwl:σ2.ws.length=C.ws.length:=by have:=iZ ((gB (Gm.leaves p) bss).take k) C;rw [hp] at this;exact this
   have hla:=zF h (K:=4) (n:=1+t) (base:=Gm.leaves p) (.inr (.inr ⟨rfl,rfl,rfl⟩)) (k:Int);rw [show Gm.atK (1+t) (Gm.leaves p) (k:Int)=((Gm.leaves p+k:Nat):Int) by unfold Gm.atK;rw [if_pos oQ];omega] at hla;obtain⟨u,hu1,hu2⟩:=hRB.2 k _ hbk;have hv:(vs5++junk)[k]?=some u:=by rw [aJ oQ];exact hu1
   have huo:=hu2.one;have hpt:=aBq (tr:=tr) (s:=s) (p:=p) (t:=t) hD (by rw [hwl];exact h8) (Gm.leaves p+k) oQ u bss[k] oQ;generalize bss[k]=b at *;refine W.k ?_;(refine SW.l [12] [0,1,2,3,4,5,6,7,8,9,11] ?_;refine aX 10 ?_);refine W.cq hla ?_;(refine bB [] ?_;refine bL 12 ?_);refine aF hpt ?_ (hpre:=fun w2 hs=>hu2.rd (Hc:=Hd) hs);rintro _ Hd2 ⟨rfl,hD2⟩;(refine SL.l [13,14] ?_);by_cases h0:(fM (Gm.leaves p+k) b σ2).1=0
   ·rw [if_pos h0] at hs1;refine W.k ?_;refine aN.mk (k+1,(fM (Gm.leaves p+k) b σ2).2,Hd2) ?_;exact⟨hkn,hD2,hs1⟩
   have he:=hs2 h0;have hwd:pH p c L2 C=fM (Gm.leaves p+k) b σ2:=by rw [hlog];unfold DS.and;rw [he,if_neg h0]
   have hdo:kV p c L2 (C,r,x)=((fM (Gm.leaves p+k) b σ2).1,(fM (Gm.leaves p+k) b σ2).2,r,{ x with st:=8 }):=aEp (by rw [hwd]) h0;rw [hdo];refine W.k ?_;refine Fin.to (tG d tr sp s p t r (.slice ea x.es.length ec) (.slice fa x.lv.length fc) x.w x.st He Hl Hd2 HR2) ?_;exact F.f1 ⟨Hd2,_,HR2,rfl,hD2,⟨_,_,He,Hl,rfl,hE,hLf⟩,hS2,rfl⟩
  have hkn:k=bss.length:=oQ;rw [aAt (by unfold gB;rw [nI];omega)] at hp;subst hkn;refine W.k ?_;refine bS.mk (σ2,Hd) ?_;exact⟨hD,hp⟩
 rintro⟨σ2,Hd⟩ ⟨hD,hp⟩;dsimp only at hD hp |-;have hwl2:σ2.ws.length=C.ws.length:=by have:=iZ (gB (Gm.leaves p) bss) C;rw [hp] at this;exact this
 have hwd:pH p c L2 C=feS σ2:=by rw [hlog];exact DS.and_eq hp
 have hfe:=wO hD;have hg1:(⟨(c.toNat:Int),fN lvN⟩:Rg).Ok:=⟨Sha.sum_len _,by show 0<=(c.toNat:Int);omega,by show (c.toNat:Int)<=_;have:=c.toNat_lt;omega⟩;have hbd:=aCi (c.toNat:Int) (x:=fN lvN) (Sha.sum_len _);have hrt:=aB3 lvN hVN (.slice (some ⟨lb,0,none⟩) x.lv.length lc) oQ;have hre2:eD c x.es L2=E2:=hre;by_cases hz0:σ2.actR 0 0=0;rotate_left
 ·have hdo:kV p c L2 (C,r,x)=(σ2.actR 0 0,σ2.fence,r,{ x with st:=8 }):=aEp hwd hz0;rw [hdo];refine W.k ?_;refine aF hfe ?_;rintro _ Hd2 ⟨rfl,hD2⟩;refine W.k ?_;refine Fin.to (tG d tr sp s p t r (.slice ea x.es.length ec) (.slice fa x.lv.length fc) x.w x.st He Hl Hd2 HR2) ?_;exact F.f1 ⟨Hd2,_,HR2,rfl,hD2,⟨_,_,He,Hl,rfl,hE,hLf⟩,hS2,rfl⟩
 rw [hz0] at hfe;have hfl:pH p c L2 C=(0,σ2.fence):=by rw [hwd];show (σ2.actR 0 0,σ2.fence)=_;rw [hz0]
 have hfwl:=wB σ2;refine W.k ?_;refine aF hfe ?_;rintro _ Hd2 ⟨rfl,hD2⟩;generalize σ2.fence=σ3 at *;have hst:=aHk tr d r ⟨(c.toNat:Int),fN lvN⟩ hr hg1 hD2;obtain⟨e3,σ4,r4,hg2⟩:∃ e σ4 r4,jX ⟨(c.toNat:Int),fN lvN⟩ (σ3,r)=(e,σ4,r4):=⟨_,_,_,rfl⟩;have q1:qL σ3 r ⟨(c.toNat:Int),fN lvN⟩=e3:=congrArg (fun y=>y.1) hg2;have q2:qK σ3 r ⟨(c.toNat:Int),fN lvN⟩=σ4:=congrArg (fun y=>y.2.1) hg2;have q3:oM σ3 r ⟨(c.toNat:Int),fN lvN⟩=r4:=congrArg (fun y=>y.2.2) hg2;rw [q1,q2,q3] at hst;have hw4:=aAz ⟨(c.toNat:Int),fN lvN⟩ (σ3,r);rw [hg2] at hw4;dsimp only at hw4;refine W.k ?_;(refine SW.l [9] [0,1,2,3,4,5,6] ?_;refine aX 7 ?_);refine W.cq hrt ?_ (hpre:=fun w2 hs=>Rd.own (Hc:=[]) hLvN hs inferInstance);(refine SL.l [8] ?_;refine bL 9 ?_);refine aF hst ?_;rintro _ _ ⟨rfl,Hd3,rfl,hD3⟩;(refine SL.l [10,11] ?_);by_cases hz1:e3=0;rotate_left
 ·have hdo:kV p c L2 (C,r,x)=(e3,σ4,r4,{ x with st:=8 }):=aJ9 hre2 hVV hfl hg2 hz1;rw [hdo];refine W.k ?_;refine Fin.to (tG d tr sp s p t r4 (.slice ea x.es.length ec) (.slice fa x.lv.length fc) x.w x.st He Hl Hd3 HR2) ?_;exact F.f1 ⟨Hd3,_,HR2,rfl,hD3,⟨_,_,He,Hl,rfl,hE,hLf⟩,hS2,rfl⟩
 subst hz1;have hE2:=hES E2 hEl;have hlay:=aOP (tr:=tr) (sp:=s) (c:=c) h hD3 (by rw [hw4,hfwl,hwl2];exact h8) hm2 hO hR2 hE2;obtain⟨e5,σ5,hg3⟩:∃ e σ5,uN p E2 L2 σ4=(e,σ5):=⟨_,_,rfl⟩;have hw5:=aEu p E2 L2 σ4;rw [hg3] at hlay hw5;dsimp only at hlay hw5;refine W.k ?_;rw [show ((xZ d tr s p t (.slice ea x.es.length ec) (.slice fa x.lv.length fc) x.w x.st).set 5 (.slice (some ⟨be,0,none⟩) x.es.length ecap)).set 6 (.slice (some ⟨lb,0,none⟩) x.lv.length lc)=xZ d tr s p t (.slice (some ⟨be,0,none⟩) x.es.length ecap) (.slice (some ⟨lb,0,none⟩) x.lv.length lc) x.w x.st from rfl];(refine SW.l [6] [0,1,2,3,4,5] ?_;refine bL 6 ?_);refine aF hlay ?_;rintro _ _ ⟨rfl,Hd4,hD4,rfl⟩;(refine SL.l [7,8] ?_);by_cases hz2:e5=0;rotate_left
 ·have hdo:kV p c L2 (C,r,x)=(e5,σ5,r4,⟨E2,lvN,x.w,8⟩):=aKa hre2 hVV hfl hg2 hg3 hz2;rw [hdo];refine W.k ?_;refine Fin.to (tG d tr sp s p t r4 (.slice (some ⟨be,0,none⟩) x.es.length ecap) (.slice (some ⟨lb,0,none⟩) x.lv.length lc) x.w x.st [(be,cl (uv E2++ej) 23)] [(lb,cl (cbs lvN.flatten++lj) 90)] Hd4 HR2) ?_;exact F.f1 ⟨Hd4,_,HR2,rfl,hD4,⟨_,_,_,_,rfl,hE2,hLvN⟩,hS2,rfl⟩
 subst hz2;have hsc:=aC1 (tr:=tr) (s:=s) h hD4 (by rw [hw5,hw4,hfwl,hwl2];exact h8) (1+l.length) oQ;rw [show ((1+l.length:Nat):Int)=1+(l.length:Int) by omega] at hsc;obtain⟨e6,σ6,hg4⟩:∃ e σ6,fU (Gm.leaves p) (1+l.length) σ5=(e,σ6):=⟨_,_,rfl⟩;rw [hg4] at hsc;dsimp only at hsc;rw [<-hsl2] at hg4;have hdo:kV p c L2 (C,r,x)=(e6,σ6,r4,⟨E2,lvN,x.w,if e6=0 then x.st else 8⟩):=aKb hre2 hVV hfl hg2 hg3 hg4;rw [hdo];refine W.k ?_;refine aF hsc ?_;rintro _ Hd5 ⟨rfl,hD5⟩;refine W.k ?_;refine Fin.to (tG d tr sp s p t r4 (.slice (some ⟨be,0,none⟩) x.es.length ecap) (.slice (some ⟨lb,0,none⟩) x.lv.length lc) x.w x.st [(be,cl (uv E2++ej) 23)] [(lb,cl (cbs lvN.flatten++lj) 90)] Hd5 HR2) ?_;exact F.f1 ⟨Hd5,_,HR2,rfl,hD5,⟨_,_,_,_,rfl,hE2,hLvN⟩,hS2,rfl⟩
theorem aMf(p:Nat)(c:UInt64)(l:List Ent)(C:Dv)(r:Rg)(x:So):(kV p c l (C,r,x)).2.2.2.st=if (kV p c l (C,r,x)).1=0 then x.st else 8:=by
 obtain⟨e,σ1,r2,ha⟩:∃ e σ1 r2,((pH p c l).t.and (jX ⟨(c.toNat:Int),fN (jE x.lv (oJ p (eD c x.es l) l))⟩)) (C,r)=(e,σ1,r2):=⟨_,_,_,rfl⟩;by_cases he:e=0
 ·subst he;obtain⟨e2,σ2,hb⟩:∃ e2 σ2,((uN p (eD c x.es l) l).and (fU (Gm.leaves p) (1+l.length))) σ1=(e2,σ2):=⟨_,_,rfl⟩;rw [sZ rfl rfl ha hb]
 rw [vY rfl rfl ha he];dsimp only;rw [if_neg he]
theorem aJe{sp d tr s p t rc n N:Nat}{ws:LL}(h:Gm.Ok p t){C:Dv}{x:So}(hx:x.Ok p){r:Rg}(hr:r.Ok){Hd HT HR:Hp}(hD:gS d C Hd)(h8:C.ws.length%8=0)(hS:sA sp d tr s p t x HT)(hSe:jN s rc n ws N HR)(hKo:kA n ws)(hN:N<=100000000){lv:Value}{us:LV}{l:List Ent}(hn:l.length<=1000){X:UInt64->Nat->LB->LB}(hXX:dY (Rg.enc ws n)=X):Tri prog 38 [ptv sp,lv] (aHR d tr r HT Hd HR) (fun w=>rV ((aHR d tr r HT Hd HR).map Prod.fst) w lv us l) (fun v H=>∃ Hd' HT' HR',v=.int .i64 (cmS p t X l (C,r,x)).1/\gS d (cmS p t X l (C,r,x)).2.1 Hd'/\sA sp d tr s p t (cmS p t X l (C,r,x)).2.2.2 HT'/\jN s rc n ws (N+1000) HR' /\ H=(tr,cl (rtc d (cmS p t X l (C,r,x)).2.2.1) 100)::(HT'++(Hd'++HR'))):=by
 have hS0:=hS;obtain⟨ev,lfv,He,Hl,rfl,hE,hLf⟩:=hS;have oe:=hE.isOne;have ol:=hLf.isOne;have hdo:=fun (c:UInt64) (hm:iY p t l=true)=>aMN (tr:=tr) h hx hr hD h8 hS0 hSe hKo hN (lv:=lv) (us:=us) hm (c:=c) hXX;have hSN:∀ {N':Nat} {H:Hp},N'<=N+1000->jN s rc n ws N' H->jN s rc n ws (N+1000) H:=fun hle ⟨lv,tw,te,tb,tp,L,Hc,HL,Ht,e,h1,h2,h3,h4⟩=>⟨lv,tw,te,tb,tp,L,Hc,HL,Ht,e,h1,h2,cZ h3 hle,h4⟩;have hSe1:=hSN oQ hSe;refine Tri.mt func38 ntmps38 fun w hw=>?_;have hw0:=hw;obtain⟨hw1,hul,hws⟩:=hw;have hle:=rV.le hw0;obtain⟨la,ll,lc,rfl,hlen,-⟩:=hw1.get;rw [fL us l hul] at hlen;obtain rfl:ll=l.length:=by omega
 obtain⟨f1,f2,f3⟩:=aDV d hr;have hc0:=hr.c0;have hc1:=hr.c1;have hend:∀ (e:Int),cmS p t X l (C,r,x)=(e,(C,r,x))->∃ Hd' HT' HR',(Value.int .i64 e:Value)=.int .i64 (cmS p t X l (C,r,x)).1/\gS d (cmS p t X l (C,r,x)).2.1 Hd'/\sA sp d tr s p t (cmS p t X l (C,r,x)).2.2.2 HT'/\jN s rc n ws (N+1000) HR' /\
   ((tr,cl (rtc d r) 100)::(((sp,cl (xZ d tr s p t ev lfv x.w x.st) 144)::(He++Hl))++(Hd++HR)):Hp)=(tr,cl (rtc d (cmS p t X l (C,r,x)).2.2.1) 100)::(HT'++(Hd'++HR')):=fun e he=>by
  rw [he]
  exact⟨Hd,_,HR,rfl,hD,⟨ev,lfv,He,Hl,rfl,hE,hLf⟩,hSe1,rfl⟩
 have hmS:nA p t r x l=if x.st≠0 then x.st else if x.w=false then 29 else if r.c=18446744073709551615 then 21 else if t<l.length then 28 else if l≠[]/\nE p (-1) l=false then 1 else 0:=rfl
 have hcno:∀ e,nA p t r x l=e->e≠0->cmS p t X l (C,r,x)=(e,(C,r,x)):=fun e h1 h2=>by unfold cmS;dsimp only;rw [if_pos (by rw [h1];exact h2),h1]
 by_cases h0:x.st≠0
 ·have h0':¬ x.st=0:=h0;have he:=hend x.st (hcno _ (by rw [hmS,if_pos h0]) h0);generalize cmS p t X l (C,r,x)=CC at *;refine W.k ?_;refine Fin.to (tG d tr sp s p t r ev lfv x.w x.st He Hl Hd HR) ?_;exact F.f1 he
 rw [if_neg h0] at hmS;have h0':x.st=0:=Decidable.not_not.1 h0;cases hxw:x.w with
 | false=>
  have he:=hend 29 (hcno _ (by rw [hmS,if_pos hxw]) dQ)
  rw [hxw] at he
  generalize cmS p t X l (C,r,x)=CC at *
  refine W.k ?_
  refine Fin.to (tG d tr sp s p t r ev lfv false x.st He Hl Hd HR) ?_
  exact F.f1 he
 | true=>
  rw [if_neg (by rw [hxw];decide)] at hmS
  rw [hxw] at hend
  haveI i1:U64 r.c (UInt64.ofNat r.c.toNat):=⟨by rw [aU];omega⟩
  by_cases hcl:r.c=18446744073709551615
  ·have he:=hend 21 (hcno _ (by rw [hmS,if_pos hcl]) dQ)
   have e1:(((UInt64.ofNat r.c.toNat+1).toNat:Nat):Int)=0:=by
    rw [gR,aU,show (1:UInt64).toNat=1 from rfl];omega
   generalize cmS p t X l (C,r,x)=CC at *
   refine W.k ?_
   refine Fin.to (tG d tr sp s p t r ev lfv true x.st He Hl Hd HR) ?_
   exact F.f1 he
  rw [if_neg hcl] at hmS
  have e1:(((UInt64.ofNat r.c.toNat+1).toNat:Nat):Int)=r.c+1:=by
   rw [gR,aU,show (1:UInt64).toNat=1 from rfl];omega
  have e2:UInt64.ofNat r.c.toNat+1=UInt64.ofNat (r.c+1).toNat:=sY.1 (by rw [aU];omega)
  by_cases hl0:l.length=0
  ·have hl00:l=[]:=bI hl0
   have he:=hend 0 (by
    unfold cmS
    dsimp only
    rw [if_neg (by rw [hmS,if_neg oQ,if_neg (fun hh=>hh.1 hl00)];simp),if_pos hl00])
   generalize cmS p t X l (C,r,x)=CC at *
   refine W.k ?_
   refine Fin.to (tG d tr sp s p t r ev lfv true x.st He Hl Hd HR) ?_
   exact F.f1 he
  have hl00:l≠[]:=fun e=>hl0 (by rw [e];rfl)
  by_cases htl:t<l.length
  ·have he:=hend 28 (hcno _ (by rw [hmS,if_pos htl]) dQ)
   generalize cmS p t X l (C,r,x)=CC at *
   refine W.k ?_
   refine Fin.to (tG d tr sp s p t r ev lfv true x.st He Hl Hd HR) ?_
   exact F.f1 he
  rw [if_neg htl] at hmS
  have hmy:=aIi h 0 (.slice la l.length lc) us l hle oQ
  have hmB:iY p t l=nE p (-1) l:=by unfold iY;rw [decide_eq_true (show 1<=l.length/\l.length<=t by omega),jO]
  cases hm:iY p t l with
  | false=>
   rw [hm] at hmy
   have he:=hend 1 (hcno _ (by rw [hmS,if_pos ⟨hl00,by rw [<-hmB];exact hm⟩]) dQ)
   generalize cmS p t X l (C,r,x)=CC at *
   refine W.k ?_
   refine eC hmy rfl ?_ (hpre:=fun w2 hs=>hw1.ro (Hc:=[]) hs)
   rintro _ _ ⟨rfl,rfl⟩
   refine W.k ?_
   refine Fin.to (tG d tr sp s p t r ev lfv true x.st He Hl Hd HR) ?_
   exact F.f1 he
  | true=>
   rw [hm] at hmy
   have h00:nA p t r x l=0:=by rw [hmS,if_neg (fun hh=>by rw [hmB,hh.2] at hm;cases hm)]
   have hd:=hdo (UInt64.ofNat (r.c+1).toNat) hm
   have hst:=aMf p (UInt64.ofNat (r.c+1).toNat) (dT X (UInt64.ofNat (r.c+1).toNat) l) C r x
   rw [aEo h00 hl00]
   rw [<-e2] at hd hst |-
   clear hdo hend hcno
   generalize kV p (UInt64.ofNat r.c.toNat+1) (dT X (UInt64.ofNat r.c.toNat+1) l) (C,r,x)=DD at *
   obtain⟨e,σ',r',x'⟩:=DD
   obtain⟨xe,xl,xw,xs⟩:=x'
   have hst':xs=if e=0 then x.st else 8:=hst
   clear hst
   dsimp only at hd |-
   subst hst'
   rw [hxw] at hd
   refine W.k ?_
   refine eC hmy rfl ?_ (hpre:=fun w2 hs=>hw1.ro (Hc:=[]) hs)
   rintro _ _ ⟨rfl,rfl⟩
   refine W.k ?_
   refine aF hd ?_ (hpre:=fun w2 hs=>hw0.ro hs)
   rintro _ _ ⟨Hd',HT',HR',rfl,hD',⟨ev',lv',He',Hl',rfl,hE',hL'⟩,hS',rfl⟩
   have oe':=hE'.isOne
   have ol':=hL'.isOne
   dsimp only at hE' hL'
   have hS2:=hSN oQ hS'
   by_cases he:e=0
   ·rw [if_pos he]
    refine W.k ?_
    refine Fin.to (tG d tr sp s p t r' ev' lv' xw x.st He' Hl' Hd' HR') ?_
    exact F.f1 ⟨Hd',_,HR',rfl,hD',⟨ev',lv',He',Hl',rfl,hE',hL'⟩,hS2,rfl⟩
   ·rw [if_neg he]
    refine W.k ?_
    rw [show (xZ d tr s p t ev' lv' xw x.st).set 8 (.int .i64 8)=xZ d tr s p t ev' lv' xw 8 from rfl]
    refine Fin.to (tG d tr sp s p t r' ev' lv' xw 8 He' Hl' Hd' HR') ?_
    exact F.f1 ⟨Hd',_,HR',rfl,hD',⟨ev',lv',He',Hl',rfl,hE',hL'⟩,hS2,rfl⟩
end
end Go.Proofs.YtdfclocfackkmaaGreat
