/- What a Commit will make: the sums of leaves; sealed entries in plain words. -/
import Derived.Test.YtdfclocfackkmaaGreatPm37
import Derived.Test.YtdfclocfackkmaaGreatPm39
set_option linter.unusedVariables false
set_option linter.unusedSimpArgs false
set_option linter.unusedSectionVars false
set_option maxHeartbeats 4000000
namespace Go.Proofs.YtdfclocfackkmaaGreat
open Go Go.Proofs.Tryz
section
attribute [local irreducible] SW SL SQ SH SA SS Pu Fin bS aN
theorem aQx(k:Int){x:LB}(h:x.length=32):bV (fun i=>[(0,1),(1,32)][i]?) ([.int .i64 0]++List.replicate 32 (.int .u8 0)) [(0,.int .i64 k),(1,dgV x)]=some (lA (k,x)):=by simp [bV,vl,lA,h]
theorem aQy(k:Int){x:LB}(h:x.length=32):bV (fun i=>some (i*33,33)) (zs (.int .i64 0::List.replicate 32 (.int .u8 0)) 1) [(0,.agg (lA (k,x)).toArray)]=some (lA (k,x)):=by simp [bV,vl,lA,h,zs]
theorem aG8{xs:List (Int×LB)}(h:∀ x∈xs,x.2.length=32):(nL xs).length=xs.length*33:=by rw [nL,dH (n:=33) (fun y hy=>by obtain⟨x,hx,rfl⟩:=bM.1 hy;exact pG (h x hx)),aC]
theorem aFY(xs:List (Int×LB))(x:Int×LB):nL xs++lA x=nL (xs++[x]):=by simp [nL]
theorem aHU{lb sb sp d tr s bk tb p t:Nat}{ev tp xv:Value}{wt:Bool}{st:Int}{xs:List (Int×LB)}{HX:Hp}(hX:Sl 282 33 xv (nL xs) HX)(h32:∀ x∈xs,x.2.length=32)(hn:xs.length<=1000)(o5:One ev)(o6:One tp){D:Bk}{Hk:Hp}(hK:eP bk tb D Hk)(k:Nat)(v:Value)(x:LB)(hx:x.length<=1000000):Tri prog 171 [.int .i64 (k:Int),v,ptv lb,ptv sb] ((lb,cl [xv] 280)::(sb,cl [ptv sp] 44)::(sp,cl (fP d tr s bk p t ev tp wt st) 231)::(HX++Hk)) (fun w2=>Rd (((lb,cl [xv] 280)::(sb,cl [ptv sp] 44)::(sp,cl (fP d tr s bk p t ev tp wt st) 231)::(HX++Hk)).map Prod.fst) w2 1 v (cbs x)) (fun r H=>r=.tuple #[]/\∃ xv' HX' Hk',Sl 282 33 xv' (nL (xs++[((k:Int),Sha.sum (fV k x))])) HX'/\eP bk tb (D.add (fV k x)) Hk'/\H=(lb,cl [xv'] 280)::(sb,cl [ptv sp] 44)::(sp,cl (fP d tr s bk p t ev tp wt st) 231)::(HX'++Hk')):=by refine Tri.mt func171 ntmps171 fun w hw=>?_;have hv1:=hw.isOne;have hlf:=aG7 hK k v x oQ;have hy:(Sha.sum (fV k x)).length=32:=Sha.sum_len _;generalize Sha.sum (fV k x)=y at *;generalize D.add (fV k x)=β2 at *;have hb2:=aQx (k:Int) hy;have hb4:=aQy (k:Int) hy;have hcs:=lN hy;have hn1:=aG8 h32;have hn3:=pG (x:=((k:Int),y)) hy;have hX1:=hX.isOne;refine W.k ?_;(refine SW.l [12,13] [0,1,2,3,4,5,6,7,8] ?_;refine aX 9 ?_);refine aF hlf ?_ (hpre:=fun w2 hs=>hw.ro (Hc:=Hk) hs);rintro _ Hk2 ⟨rfl,hK2⟩;(refine SL.l [10] ?_;refine aX 11 ?_);refine iQ (fun b7=>?_) (hr:=hb4);(refine bB [] ?_;refine bL 12 ?_);refine W.ap (ys:=lA ((k:Int),y)) (mm:=1) hX (fun w2 hs=>(Sl.own 282 33 b7 (len:=1) (xs:=lA ((k:Int),y)) hn3).srcAt hs inferInstance) (fun xv2 HX2 hX2=>?_) (hys:=hn3) (hbytes:=by rw [hn1,hn3];omega);have hX21:=hX2.isOne;rw [aFY] at hX2;(refine bB [] ?_;refine bL 13 ?_;refine W.i ?_;refine SS.dn ?_);refine W.k ?_;rw [show [xv].set 0 xv2=[xv2] from rfl];refine Fin.to ((lb,cl [xv2] 280)::(sb,cl [ptv sp] 44)::(sp,cl (fP d tr s bk p t ev tp wt st) 231)::(HX2++Hk2)) ?_;exact F.f0 ⟨rfl,xv2,HX2,Hk2,hX2,hK2,rfl⟩
theorem aC5(X:UInt64->Nat->LB->LB)(c:UInt64)(l:List Ent)(x:Ent):dT X c (l++[x])=dT X c l++[(x.1,X c x.1.toNat x.2)]:=by unfold dT;rw [aZ];rfl
theorem aDy(p:Nat)(l:List Ent)(x:Ent):lM p (l++[x])=lM p l++[(((Ks p x.1.toNat:Nat):Int),Sha.sum (fV (Ks p x.1.toNat) x.2))]:=by unfold lM;rw [aZ];rfl
theorem aDz(es:List UInt64)(ts:List Nat)(q:Nat):oI es (ts++[q])=oI es ts++[(((1+q:Nat):Int),Sha.sum (fV (1+q) (epB q es)))]:=by unfold oI;rw [aZ];rfl
theorem aAd(p:Nat)(l:List Ent):∀ x∈lM p l,x.2.length=32:=fun x hx=>by
 obtain⟨y,-,rfl⟩:=bM.1 hx
 exact Sha.sum_len _
theorem aEm(es:List UInt64)(ts:List Nat):∀ x∈oI es ts,x.2.length=32:=fun x hx=>by
 obtain⟨y,-,rfl⟩:=bM.1 hx
 exact Sha.sum_len _
theorem aDb(X:UInt64->Nat->LB->LB)(c:UInt64)(l:List Ent):dA (dT X c l)=dA l:=by
 have key:∀ (l:List Ent) (o:List Nat),(dT X c l).foldl vM o=l.foldl vM o:=fun l=>by
  induction l with
  | nil=>intro o;rfl
  | cons x l ih=>intro o;exact ih _
 exact key l []
theorem aDR(X:UInt64->Nat->LB->LB)(c c':UInt64)(l:List Ent):∀ es:List UInt64,eD c' es (dT X c l)=eD c' es l:=by
 unfold eD;induction l with
 | nil=>intro es;rfl
 | cons x l ih=>intro es;exact ih _
def aBK(c:UInt64)(l:List Ent)(s:Sr):Sr:=l.foldl (fun s x=>s.hid (c,x.1.toNat) x.2) s
theorem aIX(c:UInt64)(l:List Ent)(x:Ent)(s:Sr):aBK c (l++[x]) s=(aBK c l s).hid (c,x.1.toNat) x.2:=by unfold aBK;rw [iH];rfl
theorem wH{p t:Nat}{l:List Ent}(hm:iY p t l=true):(1<=l.length/\l.length<=t)/\∀ (k:Nat) (x:Ent),l[k]?=some x -> -1<x.1/\x.1<(Gm.sealed p:Nat)/\x.2.length=256:=by unfold iY at hm;rw [bR,decide_eq_true_iff] at hm;exact⟨hm.1,nF hm.2⟩
theorem aBR{p t:Nat}(h:Gm.Ok p t)(es:List UInt64){l:List Ent}(hm:iY p t l=true):(∀ x∈oJ p es l,x.2.length=32)/\(oJ p es l).any (fun x=>!okK (Gm.leaves p) x.1)=false/\(oJ p es l).length<=2*l.length:=by
 have hLq:Gm.leaves p=1+Gm.epochs p+Gm.sealed p:=rfl;refine⟨fun x hx=>?_,?_,?_⟩
 ·unfold oJ at hx;rcases bJ.1 hx with hx|hx
  ·exact aAd _ _ x hx
  exact aEm _ _ x hx
 ·rw [List.any_eq_false];intro x hx;unfold oJ at hx;have e:okK (Gm.leaves p) x.1=true:=by
   unfold okK;rw [decide_eq_true_iff];rcases bJ.1 hx with hx|hx
   ·obtain⟨y,hy,rfl⟩:=bM.1 hx;obtain⟨i,hi⟩:=cW.1 hy;obtain⟨h1,h2,-⟩:=(wH hm).2 i y hi;have hK:Ks p y.1.toNat=1+Gm.epochs p+y.1.toNat:=rfl;dsimp only;omega
   obtain⟨q,hq,rfl⟩:=bM.1 hx;have:=uW hm q hq;dsimp only;omega
  rw [e];decide
 unfold oJ lM oI;rw [aB,aC,aC];have:=oH l;omega
theorem aGS(K:Int)(a:Option Addr)(n c:Nat):bV (fun i=>some (i*2,2)) (zs [.int .i64 0,.slice none 0 0] 1) [(0,.agg [.int .i64 K,.slice a n c].toArray)]=some [.int .i64 K,.slice a n c]:=rfl
structure CG where
 k:Nat
 Lv:Value
 us:LV
 tv:Value
 xv:Value
 D:Bk
 HL:Hp
 HT:Hp
 HX:Hp
 Hk:Hp
 Hs:Hp
 HQ:Hp
abbrev rgz:Rg:=⟨0,z32⟩
theorem aPO(sp tp:Nat)(a:Option Addr)(m c:Nat):bV (fun i=>[(0,1),(1,2),(3,1),(4,1),(5,1),(6,1),(7,33)][i]?) ([.pointer none]++([.int .u64 0]++[.slice none 0 0])++[.slice none 0 0]++[.slice none 0 0]++[.slice none 0 0]++[.pointer none]++([.int .u64 0]++List.replicate 32 (.int .u8 0))) [(0,ptv sp),(3,.slice a m c),(5,ptv tp)]=some (chC sp 0 (.slice none 0 0) (.slice none 0 0) (.slice a m c) (.slice none 0 0) (ptv tp) rgz):=rfl
theorem aIJ{sp d tr s bk tb p t c0 b0 n:Nat}{ws:LL}{sr:Sr}(h:Gm.Ok p t){x:So}(hx:x.Ok p){r:Rg}(hr:r.Ok)(hc:r.c<18446744073709551615){D:Bk}{ev lv:Value}{tp:Nat}{us:LV}{l:List Ent}{He Ht Hk Hs HE HQ:Hp}(hE:Sl 23 1 ev (uv x.es) He)(hT:rJ tp bk x.lv Ht)(hK:eP bk tb D Hk)(hSe:lL s c0 b0 n ws sr Hs)(hKo:kA n ws)(hL:Sl 112 2 lv (eH us l) HE)(hR:RB HQ us (l.map Prod.snd))(hm:iY p t l=true){c:UInt64}(hcc:(c.toNat:Int)=r.c+1){X:UInt64->Nat->LB->LB}(hXX:dY (Aes.enc ws n)=X):Tri prog 98 [ptv sp,lv] ((sp,cl (fP d tr s bk p t ev (ptv tp) x.w x.st) 231)::(tr,cl (trc d r) 201)::(He++(Ht++(Hk++(Hs++(HE++HQ)))))) NT (fun v H=>∃ cp Lv bv nx tv tp2 us2 β2 HL2 HQ2 HB HN HT2 HTr Hk2 Hs2,v=.tuple #[ptv cp,.int .i64 0]/\Sl 112 2 Lv (eH us2 (dT X c l)) HL2/\RB HQ2 us2 ((dT X c l).map Prod.snd)/\Bls bv (uO c (dT X c l)) HB/\Sl 23 1 nx (uv (eD c x.es l)) HN/\Sl 3 1 tv (nv (dA l)) HT2/\rJ tp2 bk (jE x.lv (oJ p (eD c x.es l) (dT X c l))) HTr/\eP bk tb β2 Hk2/\lL s c0 b0 n ws (aBK c l sr) Hs2 /\ H=(cp,cl (chC sp (c.toNat:Int) Lv bv nx tv (ptv tp2) ⟨(c.toNat:Int),fN (jE x.lv (oJ p (eD c x.es l) (dT X c l)))⟩) 279)::(sp,cl (fP d tr s bk p t ev (ptv tp) x.w x.st) 231)::(tr,cl (trc d r) 201)::(He++(Ht++(Hk2++(Hs2++(HL2++(HQ2++(HB++(HN++(HT2++HTr))))))))) ):=by
 refine Tri.mt func98 ntmps98 fun w hw=>?_;have hll:=Gm.leaves_le h;have hsl:=Gm.sealed_le h;have hel:=Gm.epochs_le h;have hLq:Gm.leaves p=1+Gm.epochs p+Gm.sealed p:=rfl;have ht:=h.2.2.2;have hs1:1<=Gm.sealed p:=by unfold Gm.sealed;omega
 obtain⟨hl1,hall⟩:=wH hm;have hX1:∀ e k b,(X e k b).length=b.length:=fun e k b=>by rw [<-hXX];exact mJ (fun y=>Aes.enc_len ..) ..
 have hm2:iY p t (dT X c l)=true:=by rw [aAH hX1];exact hm
 have hSp:=fun (s':Sr) (H':Hp) (hS':lL s c0 b0 n ws s' H') (k:Nat) (hk:k<65536) v y hy=>aJQ hS' hKo c k hk v y hy;rw [hXX] at hSp;have hesl:=hx.es;have hlvl:=hx.lv;have hcu:=aFE x.es oQ oQ ev;have hcp:=aJB hT hx.d oQ oQ;have hrd:=uR tr d r hr;have hc0:=hr.c0;have oe:=hE.isOne;have htabs:=aDb X c l;have hchg:=aBR h (eD c x.es l) hm2;have hchgE:oJ p (eD c x.es l) (dT X c l)=lM p (dT X c l)++oI (eD c x.es l) (dA l):=by unfold oJ;rw [htabs]
 rw [mS] at hchg;have htlt:=uW hm;have htle:=oH l;have hul:us.length=l.length:=by rw [hR.1,aC]
 have hel2:=fL us l hul;haveI i1:U64 r.c (UInt64.ofNat r.c.toNat):=⟨by rw [aU];omega⟩;have e1:(((UInt64.ofNat r.c.toNat+1).toNat:Nat):Int)=(c.toNat:Int):=by rw [gR,aU,show (1:UInt64).toNat=1 from rfl,hcc];omega
 have hq0:(rgc r)[0]?=some (.int .u64 r.c):=rfl;rcases hL with ⟨-,hz,-⟩|⟨eb,elen,ecap,ejunk,rfl,hexl,hej,hec,rfl⟩
 ·rw [hz] at hel2;simp at hel2;omega
 obtain rfl:elen=l.length:=by omega
 refine W.k fun b_=>?_;generalize b_=sb;(refine SW.l [12] [0,1,2,3,4,6,7,8,9] ?_;refine aX 5 ?_);refine aF hcu ?_ (hpre:=fun w2 hs=>Rd.own (Hc:=[]) hE hs inferInstance);rintro nx HN (⟨-,hz,-⟩|⟨nb,nlen,ncap,njunk,rfl,hnxl,hnj,hnc,rfl⟩)
 ·have h9:=eN x.es;rw [hz,List.length_nil] at h9;omega
 rw [eN] at hnxl;obtain rfl:nlen=x.es.length:=by omega
 (refine bB [] ?_;refine aX 10 ?_);refine aF hcp ?_;rintro _ _ ⟨tp2,Htc,rfl,rfl,hTc⟩;have hbf:=aPO sp tp2 (some ⟨nb,0,none⟩) x.es.length ncap;(refine SL.l [11] ?_;refine bL 12 ?_;refine W.i fun b_=>?_;refine SG.l [13,14] ?_);refine W.k ?_;generalize b_=cb;refine W.cq hrd ?_;refine W.j fun b_=>?_;generalize b_=lb;rw [e1,show (chC sp 0 (.slice none 0 0) (.slice none 0 0) (.slice (some ⟨nb,0,none⟩) x.es.length ncap) (.slice none 0 0) (ptv tp2) rgz).set 1 (.int .u64 (c.toNat:Int))=chC sp (c.toNat:Int) (.slice none 0 0) (.slice none 0 0) (.slice (some ⟨nb,0,none⟩) x.es.length ncap) (.slice none 0 0) (ptv tp2) rgz from rfl];clear hcu hcp hrd hbf;refine bP [2,6,7,8] ((cb,cl (chC sp (c.toNat:Int) (.slice none 0 0) (.slice none 0 0) (.slice (some ⟨nb,0,none⟩) x.es.length ncap) (.slice none 0 0) (ptv tp2) rgz) 279)::(lb,cl [.slice none 0 0] 280)::(nb,cl (uv x.es++njunk) 23)::(Hk++Hs)) (fun _:CG=>[])
  (fun y=>(cb,cl (chC sp (c.toNat:Int) y.Lv (.slice none 0 0) (.slice (some ⟨nb,0,none⟩) x.es.length ncap) y.tv (ptv tp2) rgz) 279)::(lb,cl [y.xv] 280)::(nb,cl (uv (eD c x.es l)++njunk) 23)::(y.HL++(y.HT++(y.HX++(y.Hk++(y.Hs++y.HQ))))))
  (fun y=>Sl 112 2 y.Lv (eH y.us (dT X c l)) y.HL/\RB y.HQ y.us ((dT X c l).map Prod.snd)/\Sl 3 1 y.tv (nv (dA l)) y.HT/\Sl 282 33 y.xv (nL (lM p (dT X c l))) y.HX/\eP bk tb y.D y.Hk/\lL s c0 b0 n ws (aBK c l sr) y.Hs) ?_ ?_
 ·refine W.k ?_;rw [show uv x.es=uv (eD c x.es (l.take 0)) from rfl];refine bE [2,6,7,8,48,49] (fun y:CG=>[(50,.int .i64 (y.k:Int))])
   (fun y=>(cb,cl (chC sp (c.toNat:Int) y.Lv (.slice none 0 0) (.slice (some ⟨nb,0,none⟩) x.es.length ncap) y.tv (ptv tp2) rgz) 279)::(lb,cl [y.xv] 280)::(nb,cl (uv (eD c x.es (l.take y.k))++njunk) 23)::(y.HL++(y.HT++(y.HX++(y.Hk++(y.Hs++y.HQ))))))
   (fun y=>l.length-y.k)
   (fun y=>y.k<=l.length/\Sl 112 2 y.Lv (eH y.us (dT X c (l.take y.k))) y.HL/\RB y.HQ y.us ((dT X c (l.take y.k)).map Prod.snd)/\Sl 3 1 y.tv (nv (dA (l.take y.k))) y.HT/\Sl 282 33 y.xv (nL (lM p (dT X c (l.take y.k)))) y.HX/\eP bk tb y.D y.Hk/\lL s c0 b0 n ws (aBK c (l.take y.k) sr) y.Hs)
   ⟨0,.slice none 0 0,[],.slice none 0 0,.slice none 0 0,D,[],[],[],Hk,Hs,[]⟩ ⟨Nat.zero_le _,Sl.nil _ _,RB.nil _,Sl.nil _ _,Sl.nil _ _,hK,hSe⟩ ?_
  rintro⟨k,Lv,us2,tv,xv,β2,HL,HT,HX,Hk,Hs,HQ2⟩ ⟨hk,hL2,hR2,hT2,hX2,hK2,hS2⟩;dsimp only at hk hL2 hR2 hT2 hX2 hK2 hS2 |-;have oL:=hL2.isOne;have oT:=hT2.isOne;have oX:=hX2.isOne;by_cases hkn:k<l.length
  ·have hx0:=aA hkn;obtain⟨u,huk,hru⟩:=hR.2 k l[k].2 (by rw [aL,hx0];rfl);have hrow:=uG (junk:=ejunk) hul huk hx0;obtain⟨hx1,hx2,hx3⟩:=hall k _ hx0;have htk:l.take (k+1)=l.take k++[l[k]]:=by rw [aY,hx0];rfl
   have htkl:(l.take k).length=k:=by rw [aH];omega
   have hEs:=uS c x.es (l.take k) l[k];have hSs:=aC5 X c (l.take k) l[k];have hAs:=aDy p (dT X c (l.take k)) (l[k].1,X c l[k].1.toNat l[k].2);have hHs:=aIX c (l.take k) l[k] sr;have hTs:=xT (l.take k) l[k];rw [<-htk] at hEs hSs hHs hTs;rw [<-hSs] at hAs;have htl:=oH (l.take k);rw [htkl] at htl;have hcl:(lM p (dT X c (l.take k))).length=k:=by unfold lM;rw [aC,mS,htkl]
   have hc32:=aAd p (dT X c (l.take k));have hEl:=lR c (l.take k) x.es;have hsll:(dT X c (l.take k)).length=k:=by rw [mS,htkl]
   have hul2:us2.length=(dT X c (l.take k)).length:=by rw [hR2.1,aC]
   have hecl:=fL us2 _ hul2;have huo:=hru.one;generalize l[k]=z at *;obtain⟨K,hKK⟩:∃ K:Nat,z.1=(K:Int):=⟨z.1.toNat,oQ⟩;have hKn:z.1.toNat=K:=oQ;rw [hKn] at hEs hSs hAs hHs;unfold vM at hTs;rw [hKn] at hTs;rw [hKK] at hrow hSs hAs;have hse:=hSp _ _ hS2 K oQ u z.2 hx3;have hci:=aHI tv (dA (l.take k)) (K/32) oQ;have hsa:=qD h (K:Int);rw [show Gm.atK (Gm.sealed p) (1+Gm.epochs p) (K:Int)=((Ks p K:Nat):Int) by unfold Gm.atK;rw [if_pos oQ];show _=((1+Gm.epochs p+K:Nat):Int);omega] at hsa;have hdv:((K:Int)/32)=((K/32:Nat):Int):=rfl;have hYl:(X c K z.2).length=256:=by rw [hX1];exact hx3
   rw [<-hHs] at hse;have hset:=uV (vs:=uv (eD c x.es (l.take k))) (junk:=njunk) (i:=K) (by rw [eN,hEl];omega) (dZ c);rw [aE5,<-hEs] at hset;have hlt2:K<(uv (eD c x.es (l.take k))++njunk).length:=by rw [aB,eN,hEl];omega
   generalize X c K z.2=Y at *;have hLs:=kL hul2;generalize dT X c (l.take k)=S0 at *;generalize eD c x.es (l.take k)=E0 at *;generalize dA (l.take k)=T0 at *;refine W.k fun b_=>?_;generalize b_=eb2;(refine SW.l [14] [0,1,2,3,4,5,6,7,8,9,10,11,12,13] ?_;refine bL 14 ?_);refine aF hse ?_ (hpre:=fun w2 hs=>hru.rd (Hc:=Hs) hs);rintro _ _ ⟨q,Hs3,rfl,rfl,hS3⟩;have hq:Sl 5 1 (.slice (some ⟨q,0,none⟩) 256 256) (cbs Y) [(q,cl (cbs Y) 5)]:=Sl.own _ _ _ (len:=256) (by rw [aI];exact hYl);(refine SL.l [15,16,17,18,19,20] ?_);refine W.k ?_;(refine SW.l [11,15] [0,1,2,3,4,5,6,7,8,9] ?_;refine aX 10 ?_);refine iQ (fun b7=>?_) (hr:=aGS ..);(refine bB [] ?_;refine bL 11 ?_);refine W.ap (ys:=[.int .i64 (K:Int),.slice (some ⟨q,0,none⟩) 256 256]) (mm:=1) hL2 (fun w2 hs=>(Sl.own 112 2 b7 (len:=1) (xs:=[.int .i64 (K:Int),.slice (some ⟨q,0,none⟩) 256 256]) rfl).srcAt hs inferInstance) (fun Lv2 HL2 hL3=>?_) (hys:=rfl) (hbytes:=by rw [hecl,hsll];simp;omega);have oL2:=hL3.isOne;have hL4:=hLs (.slice (some ⟨q,0,none⟩) 256 256) ((K:Int),Y);dsimp only at hL4;rw [<-hL4,<-hSs] at hL3;have hR3:RB (HQ2++[(q,cl (cbs Y) 5)]) (us2++[.slice (some ⟨q,0,none⟩) 256 256]) ((dT X c (l.take (k+1))).map Prod.snd):=by rw [hSs,aZ];exact (hR2.mono fun y hy=>aO _ hy).snoc ((RdH.of hq).mono fun y hy=>aM _ hy)
   (refine SL.l [12,13,14] ?_;refine bL 15 ?_;refine W.i ?_;refine SS.dn ?_);rw [show (chC sp (c.toNat:Int) Lv (.slice none 0 0) (.slice (some ⟨nb,0,none⟩) x.es.length ncap) tv (ptv tp2) rgz).set 2 Lv2=chC sp (c.toNat:Int) Lv2 (.slice none 0 0) (.slice (some ⟨nb,0,none⟩) x.es.length ncap) tv (ptv tp2) rgz from rfl];refine W.k ?_;(refine SW.l [12] [0,1,2,3,4,5,6,7,8,9,10,11] ?_;refine bL 12 ?_;refine W.i ?_;refine SS.dn ?_);rw [hset];have hlc:=aHU (lb:=lb) (sb:=sb) (sp:=sp) (d:=d) (tr:=tr) (s:=s) (p:=p) (t:=t) (ev:=ev) (tp:=ptv tp) (wt:=x.w) (st:=x.st) hX2 hc32 oQ oe inferInstance hK2 (Ks p K) (.slice (some ⟨q,0,none⟩) 256 256) Y oQ;refine W.k ?_;rw [hdv];refine W.cq hci ?_ (hpre:=fun w2 hs=>Rd.own (Hc:=[]) hT2 hs inferInstance);by_cases hin:K/32∈T0
   ·rw [if_pos hin] at hTs;rw [decide_eq_true hin];rw [<-hTs] at hT2;refine W.k ?_;(refine SW.l [8,10] [0,1,2,3,4,5,6,7,9] ?_;refine bL 8 ?_);refine W.cq hsa ?_;(refine bB [] ?_;refine bL 10 ?_);refine dN ((lb,cl [xv] 280)::(sb,cl [ptv sp] 44)::(sp,cl (fP d tr s bk p t ev (ptv tp) x.w x.st) 231)::(HX++Hk)) rfl rfl rfl rfl rfl rfl hlc (fun w2 hs=>Rd.own (Hc:=(lb,cl [xv] 280)::(sb,cl [ptv sp] 44)::(sp,cl (fP d tr s bk p t ev (ptv tp) x.w x.st) 231)::(HX++Hk)) hq hs inferInstance) ?_;rintro _ _ ⟨rfl,xv2,HX2,Hk2,hX3,hK3,rfl⟩;have oX2:=hX3.isOne;rw [<-hAs] at hX3;(refine bB [] ?_;refine SS.dn ?_);refine W.k ?_;refine aN.mk ⟨k+1,Lv2,us2++[.slice (some ⟨q,0,none⟩) 256 256],tv,xv2,β2.add (fV (Ks p K) Y),HL2,HT,HX2,Hk2,Hs3,HQ2++[(q,cl (cbs Y) 5)]⟩ ?_;exact⟨hkn,hL3,hR3,hT2,hX3,hK3,hS3⟩
   rw [if_neg hin] at hTs;rw [decide_eq_false hin];have hb26:bV (fun i=>some (i*1,1)) (zs [.int .i64 0] 1) [(0,.int .i64 ((K/32:Nat):Int))]=some (nv [K/32]):=rfl;refine W.k fun b_=>?_;refine W.ap hT2 (ys:=nv [K/32]) (mm:=1) (fun w2 hs=>(Sl.own 3 1 b_ (xs:=nv [K/32]) rfl).srcAt hs inferInstance) (fun tv2 HT2 hT3=>?_) (hys:=rfl) (hbytes:=by simp;omega);have oT2:=hT3.isOne;rw [<-aZ,<-hTs] at hT3;refine W.k ?_;rw [show (chC sp (c.toNat:Int) Lv2 (.slice none 0 0) (.slice (some ⟨nb,0,none⟩) x.es.length ncap) tv (ptv tp2) rgz).set 5 tv2=chC sp (c.toNat:Int) Lv2 (.slice none 0 0) (.slice (some ⟨nb,0,none⟩) x.es.length ncap) tv2 (ptv tp2) rgz from rfl];(refine SW.l [8,10] [0,1,2,3,4,5,6,7,9] ?_;refine bL 8 ?_);refine W.cq hsa ?_;(refine bB [] ?_;refine bL 10 ?_);refine dN ((lb,cl [xv] 280)::(sb,cl [ptv sp] 44)::(sp,cl (fP d tr s bk p t ev (ptv tp) x.w x.st) 231)::(HX++Hk)) rfl rfl rfl rfl rfl rfl hlc (fun w2 hs=>Rd.own (Hc:=(lb,cl [xv] 280)::(sb,cl [ptv sp] 44)::(sp,cl (fP d tr s bk p t ev (ptv tp) x.w x.st) 231)::(HX++Hk)) hq hs inferInstance) ?_;rintro _ _ ⟨rfl,xv2,HX2,Hk2,hX3,hK3,rfl⟩;have oX2:=hX3.isOne;rw [<-hAs] at hX3;(refine bB [] ?_;refine SS.dn ?_);refine W.k ?_;refine aN.mk ⟨k+1,Lv2,us2++[.slice (some ⟨q,0,none⟩) 256 256],tv2,xv2,β2.add (fV (Ks p K) Y),HL2,HT2,HX2,Hk2,Hs3,HQ2++[(q,cl (cbs Y) 5)]⟩ ?_;exact⟨hkn,hL3,hR3,hT3,hX3,hK3,hS3⟩
  have hkl:k=l.length:=oQ;rw [hkl,bO] at hL2 hR2 hT2 hX2 hS2 |-;subst hkl;refine W.k ?_;refine bS.mk ⟨l.length,Lv,us2,tv,xv,β2,HL,HT,HX,Hk,Hs,HQ2⟩ ?_;exact⟨hL2,hR2,hT2,hX2,hK2,hS2⟩
 rintro⟨k,Lv,us2,tv,xv,β2,HL,HT,HX,Hk,Hs,HQ2⟩ ⟨hL2,hR2,hT2,hX2,hK2,hS2⟩;dsimp only at hL2 hR2 hT2 hX2 hK2 hS2 |-;have oL:=hL2.isOne;have oT:=hT2.isOne;have oX:=hX2.isOne;obtain⟨ta,tl,tc2,rfl,htl⟩:=hT2.form;rw [Nat.mul_one,aC] at htl;subst htl;have hEl2:=lR c l x.es;have hcA:=aAd p (dT X c l);have hcAl:(lM p (dT X c l)).length=l.length:=by unfold lM;rw [aC,mS]
 rw [hchgE] at hchg |-;have hN:Sl 23 1 (.slice (some ⟨nb,0,none⟩) x.es.length ncap) (uv (eD c x.es l)) [(nb,cl (uv (eD c x.es l)++njunk) 23)]:=.inr ⟨nb,x.es.length,ncap,njunk,rfl,by rw [eN,hEl2,Nat.mul_one],hnj,hnc,rfl⟩;have hlog:uO c (dT X c l)=lO c (dT X c l)::(dT X c l).map Prod.snd:=rfl;rw [hlog];clear hlog hchgE htabs hSp hall;generalize eD c x.es l=E2 at *;generalize dT X c l=L2 at *;generalize aBK c l sr=Q2 at *;refine W.j ?_;refine bP [2,6,7] ((lb,cl [xv] 280)::(HX++Hk)) (fun _:Value×Bk×Hp×Hp=>[]) (fun y=>(lb,cl [y.1] 280)::(y.2.2.1++y.2.2.2)) (fun y=>Sl 282 33 y.1 (nL (lM p L2++oI E2 (dA l))) y.2.2.1/\eP bk tb y.2.1 y.2.2.2) ?_ ?_
 ·refine W.k ?_;refine bE [2,6,7,8,137,138] (fun y:Nat×Value×Bk×Hp×Hp=>[(139,.int .i64 (y.1:Int))]) (fun y=>(lb,cl [y.2.1] 280)::(y.2.2.2.1++y.2.2.2.2)) (fun y=>(dA l).length-y.1) (fun y=>y.1<=(dA l).length/\Sl 282 33 y.2.1 (nL (lM p L2++oI E2 ((dA l).take y.1))) y.2.2.2.1/\eP bk tb y.2.2.1 y.2.2.2.2) (0,xv,β2,HX,Hk) ⟨Nat.zero_le _,by rw [cU];show Sl _ _ _ (nL (lM p L2++[])) _;rw [aG];exact hX2,hK2⟩ ?_;rintro⟨k,xv,β2,HX,Hk⟩ ⟨hk,hX2,hK2⟩;dsimp only at hk hX2 hK2 |-;have oX:=hX2.isOne;by_cases hkn:k<(dA l).length
  ·rcases hT2 with ⟨hz,hz2,-⟩|⟨qb,qlen,qcap,qjunk,hz,hqxl,hqj,hqc,rfl⟩
   ·simp only [Value.slice.injEq] at hz;omega
   simp only [Value.slice.injEq] at hz;obtain⟨rfl,rfl,rfl⟩:=hz;have hx0:=aA hkn;have hlu:(nv (dA l)++qjunk)[k]?=some (.int .i64 (((dA l)[k]:Nat):Int)):=by rw [aJ (by rw [aC];exact hkn),aL,hx0];rfl
   have hlt:=htlt _ (dG hkn);have htk:(dA l).take (k+1)=(dA l).take k++[(dA l)[k]]:=by rw [aY,hx0];rfl
   have hBs:=aDz E2 ((dA l).take k) (dA l)[k];rw [<-htk] at hBs;have hcl:(lM p L2++oI E2 ((dA l).take k)).length<=1000:=by unfold oI;rw [aB,hcAl,aC,aH];omega
   have hc32:∀ y∈lM p L2++oI E2 ((dA l).take k),y.2.length=32:=fun y hy=>by
    rcases bJ.1 hy with h|h
    ·exact hcA y h
    exact aEm _ _ y h
   have hBs2:(lM p L2++oI E2 ((dA l).take k))++[(((1+(dA l)[k]:Nat):Int),Sha.sum (fV (1+(dA l)[k]) (epB (dA l)[k] E2)))]=lM p L2++oI E2 ((dA l).take (k+1)):=by rw [hBs,aT]
   clear hBs htk;generalize lM p L2++oI E2 ((dA l).take k)=Z0 at *;generalize (dA l)[k]=q at *;have hsb:=aAF h q hlt (.slice (some ⟨nb,0,none⟩) x.es.length ncap) E2 oQ;have hea:=uK h (q:Int);rw [show Gm.atK (Gm.epochs p) 1 (q:Int)=((1+q:Nat):Int) by unfold Gm.atK;rw [if_pos oQ];omega] at hea;refine W.k ?_;(refine SW.l [10] [0,1,2,3,4,5,6,7,8,9] ?_;refine bL 10 ?_);refine aF hsb ?_ (hpre:=fun w2 hs=>Rd.own (Hc:=[]) hN hs inferInstance);rintro _ _ ⟨b5,rfl,rfl⟩;have h5:Sl 5 1 (.slice (some ⟨b5,0,none⟩) 256 256) (cbs (epB q E2)) [(b5,cl (cbs (epB q E2)) 5)]:=Sl.own _ _ _ (len:=256) (by rw [aI,pP]);have hlc:=aHU (lb:=lb) (sb:=sb) (sp:=sp) (d:=d) (tr:=tr) (s:=s) (p:=p) (t:=t) (ev:=ev) (tp:=ptv tp) (wt:=x.w) (st:=x.st) hX2 hc32 hcl oe inferInstance hK2 (1+q) (.slice (some ⟨b5,0,none⟩) 256 256) (epB q E2) (by rw [pP];decide);rw [hBs2] at hlc;generalize epB q E2=eb5 at *;(refine SL.l [11,12,13,14,15,16] ?_);refine W.k ?_;refine W.cw hea ?_;refine dN ((lb,cl [xv] 280)::(sb,cl [ptv sp] 44)::(sp,cl (fP d tr s bk p t ev (ptv tp) x.w x.st) 231)::(HX++Hk)) rfl rfl rfl rfl rfl rfl hlc (fun w2 hs=>Rd.own (Hc:=(lb,cl [xv] 280)::(sb,cl [ptv sp] 44)::(sp,cl (fP d tr s bk p t ev (ptv tp) x.w x.st) 231)::(HX++Hk)) h5 hs inferInstance) ?_;rintro _ _ ⟨rfl,xv2,HX2,Hk2,hX3,hK3,rfl⟩;have oX2:=hX3.isOne;refine W.k ?_;refine aN.mk (k+1,xv2,β2.add (fV (1+q) eb5),HX2,Hk2) ?_;exact⟨hkn,hX3,hK3⟩
  have hkl:k=(dA l).length:=oQ;rw [hkl,bO] at hX2;subst hkl;refine W.k ?_;refine bS.mk (xv,β2,HX,Hk) ?_;exact⟨hX2,hK2⟩
 rintro⟨xv,β2,HX,Hk⟩ ⟨hX2,hK2⟩;dsimp only at hX2 hK2 |-;have oX:=hX2.isOne;have hen:=aJC h c Lv us2 L2 hR2 hm2;have hse:=aPB hTc hK2 hx.d oQ oQ (lM p L2++oI E2 (dA l)) hchg.1 oQ (by rw [hlvl];exact hchg.2.1) xv;have hV32:=sK hx.d (lM p L2++oI E2 (dA l)) hchg.1;have hVl:=qM x.lv (lM p L2++oI E2 (dA l));generalize jE x.lv (lM p L2++oI E2 (dA l))=V at *;have hrl:(fN V).length=32:=Sha.sum_len _;have hbd:bV (fun i=>[(0,1),(1,32)][i]?) ([.int .u64 0]++List.replicate 32 (.int .u8 0)) [(0,.int .u64 (c.toNat:Int)),(1,dgV (fN V))]=some (rgc ⟨(c.toNat:Int),fN V⟩):=aCi _ hrl;refine W.k ?_;(refine SW.l [9] [0,1,2,3,4,5,6,7,8] ?_;refine bL 9 ?_);refine aF hen ?_ (hpre:=fun w2 hs=>Rd.own (Hc:=HQ2) hL2 hs inferInstance);rintro _ _ ⟨bv,HB,rfl,hB,rfl⟩;have oB:=hB.one;(refine SL.l [10,11,12,13,14,15] ?_);refine W.k ?_;rw [show (chC sp (c.toNat:Int) Lv (.slice none 0 0) (.slice (some ⟨nb,0,none⟩) x.es.length ncap) (.slice ta (dA l).length tc2) (ptv tp2) rgz).set 3 bv=chC sp (c.toNat:Int) Lv bv (.slice (some ⟨nb,0,none⟩) x.es.length ncap) (.slice ta (dA l).length tc2) (ptv tp2) rgz from rfl];(refine SW.l [5] [0,1,2,3,4] ?_;refine bL 5 ?_);refine aF hse ?_ (hpre:=fun w2 hs=>Rd.own (Hc:=Htc++Hk) hX2 hs inferInstance);rintro _ _ ⟨HTr,Hk2,β3,rfl,rfl,hTr,hK3⟩;have hro:=aD8 hTr hK3 oQ;(refine SL.l [6,7,8,9,10,11] ?_);refine W.k ?_;(refine SW.l [14] [0,1,2,3,4,5,6,7,8,9] ?_;refine aX 10 ?_);refine aF hro ?_;rintro _ _ ⟨Hk4,rfl,rfl,hK4⟩;(refine SL.l [11,12,13] ?_;refine bL 14 ?_;refine W.i ?_;refine SS.dn ?_);rw [show (chC sp (c.toNat:Int) Lv bv (.slice (some ⟨nb,0,none⟩) x.es.length ncap) (.slice ta (dA l).length tc2) (ptv tp2) rgz).take 7++rgc ⟨(c.toNat:Int),fN V⟩++(chC sp (c.toNat:Int) Lv bv (.slice (some ⟨nb,0,none⟩) x.es.length ncap) (.slice ta (dA l).length tc2) (ptv tp2) rgz).drop (7+33)=chC sp (c.toNat:Int) Lv bv (.slice (some ⟨nb,0,none⟩) x.es.length ncap) (.slice ta (dA l).length tc2) (ptv tp2) ⟨(c.toNat:Int),fN V⟩ from aG _];refine W.k ?_;refine Fin.to ((cb,cl (chC sp (c.toNat:Int) Lv bv (.slice (some ⟨nb,0,none⟩) x.es.length ncap) (.slice ta (dA l).length tc2) (ptv tp2) ⟨(c.toNat:Int),fN V⟩) 279)::(sp,cl (fP d tr s bk p t ev (ptv tp) x.w x.st) 231)::(tr,cl (trc d r) 201)::(He++(Ht++(Hk4++(Hs++(HL++(HQ2++(HB++([(nb,cl (uv E2++njunk) 23)]++(HT++HTr)))))))))) ?_;exact F.f2 ⟨cb,Lv,bv,_,_,tp2,us2,_,HL,HQ2,HB,_,HT,HTr,Hk4,Hs,rfl,hL2,hR2,hB,hN,hT2,hTr,hK4,hS2,rfl⟩
theorem aAz(g:Rg)(y:Dv×Rg):(jX g y).2.1.ws.length=y.1.ws.length:=by
 show (qK _ _ _).ws.length=_;unfold qK;split
 ·rfl
 split
 ·rfl
 exact aKd _
theorem aCE{p t:Nat}{r:Rg}{x:So}{l:List Ent}(h:nA p t r x l=0)(hl:l≠[]):x.st=0/\r.c≠18446744073709551615/\iY p t l=true:=by
 unfold nA at h;split at h
 ·contradiction
 rename_i h0;split at h
 ·cases h
 split at h
 ·cases h
 rename_i h1;split at h
 ·cases h
 rename_i h2;split at h
 ·cases h
 rename_i h3;refine⟨Decidable.not_not.1 h0,h1,?_⟩;have h4:nE p (-1) l=true:=by
  cases hh:nE p (-1) l
  ·exact absurd ⟨hl,hh⟩ h3
  rfl
 have h5:1<=l.length:=by
  cases l with
  | nil=>exact absurd rfl hl
  | cons y l=>simp
 unfold iY;rw [h4,decide_eq_true (show 1<=l.length/\l.length<=t by omega)];rfl
section
variable {p:Nat}{c:UInt64}{l:List Ent}{C σ1 σ2 σ3 σ4:Dv}{r r2:Rg}{x:So}{e:Int}{es:List UInt64}{lv:LL}
theorem vY(hes:eD c x.es l=es)(hlv:jE x.lv (oJ p es l)=lv)(ha:((pH p c l).t.and (jX ⟨(c.toNat:Int),fN lv⟩)) (C,r)=(e,σ1,r2))(he:e≠0):kV p c l (C,r,x)=(e,σ1,r2,{ x with st:=8 }):=by unfold kV;dsimp only;simp only [hes,hlv,ha];rw [if_pos he]
theorem sZ(hes:eD c x.es l=es)(hlv:jE x.lv (oJ p es l)=lv)(ha:((pH p c l).t.and (jX ⟨(c.toNat:Int),fN lv⟩)) (C,r)=(0,σ1,r2))(hb:((uN p es l).and (fU (Gm.leaves p) (1+l.length))) σ1=(e,σ2)):kV p c l (C,r,x)=(e,σ2,r2,⟨es,lv,x.w,if e=0 then x.st else 8⟩):=by
 unfold kV;dsimp only;simp only [hes,hlv,ha,hb];rw [if_neg (fun hh=>hh rfl)];by_cases he:e=0
 ·rw [if_neg (fun hh=>hh he),if_pos he,he]
 rw [if_pos he,if_neg he]
theorem aHr{f:DS}(h:f C=(e,σ1)):f.t (C,r)=(e,σ1,r):=by unfold DS.t;dsimp only;rw [h]
theorem aEp(h:pH p c l C=(e,σ1))(he:e≠0):kV p c l (C,r,x)=(e,σ1,r,{ x with st:=8 }):=
 vY rfl rfl (by rw [TS.and_ne (by rw [aHr h];exact he)];exact aHr h) he
theorem aJ9(hes:eD c x.es l=es)(hlv:jE x.lv (oJ p es l)=lv)(h:pH p c l C=(0,σ1))(h1:jX ⟨(c.toNat:Int),fN lv⟩ (σ1,r)=(e,σ2,r2))(he:e≠0):kV p c l (C,r,x)=(e,σ2,r2,{ x with st:=8 }):=
 vY hes hlv (by rw [TS.and_eq (aHr h)];exact h1) he
theorem aKa(hes:eD c x.es l=es)(hlv:jE x.lv (oJ p es l)=lv)(h:pH p c l C=(0,σ1))(h1:jX ⟨(c.toNat:Int),fN lv⟩ (σ1,r)=(0,σ2,r2))(h2:uN p es l σ2=(e,σ3))(he:e≠0):kV p c l (C,r,x)=(e,σ3,r2,⟨es,lv,x.w,8⟩):=by
 have hb:((uN p es l).and (fU (Gm.leaves p) (1+l.length))) σ2=(e,σ3):=by rw [DS.and_ne (by rw [h2];exact he)];exact h2
 rw [sZ hes hlv (by rw [TS.and_eq (aHr h)];exact h1) hb,if_neg he]
theorem aKb(hes:eD c x.es l=es)(hlv:jE x.lv (oJ p es l)=lv)(h:pH p c l C=(0,σ1))(h1:jX ⟨(c.toNat:Int),fN lv⟩ (σ1,r)=(0,σ2,r2))(h2:uN p es l σ2=(0,σ3))(h3:fU (Gm.leaves p) (1+l.length) σ3=(e,σ4)):kV p c l (C,r,x)=(e,σ4,r2,⟨es,lv,x.w,if e=0 then x.st else 8⟩):=
 sZ hes hlv (by rw [TS.and_eq (aHr h)];exact h1) (by rw [DS.and_eq h2];exact h3)
end
def aEt(p t:Nat)(r:Rg)(x:So)(l:List Ent)(sr:Sr):Sr:=
 if nA p t r x l≠0 then sr else if l=[] then sr else aBK (UInt64.ofNat (r.c+1).toNat) l sr
structure KS where
 k:Nat
 C:Dv
 r:Rg
 ev:Value
 tv:Value
 Hd:Hp
theorem aJs{sp d tr s bk tb p t c0 b0 n:Nat}{ws:LL}{sr:Sr}(h:Gm.Ok p t){C:Dv}{x:So}(hx:x.Ok p){r:Rg}(hr:r.Ok){D:Bk}{Hd HS Hk Hs HE HQ:Hp}(hD:eX d C Hd)(h8:C.ws.length%8=0)(hS:rI sp d tr s bk p t x HS)(hK:eP bk tb D Hk)(hSe:lL s c0 b0 n ws sr Hs)(hKo:kA n ws){lv:Value}{us:LV}{l:List Ent}(hL:Sl 112 2 lv (eH us l) HE)(hR:RB HQ us (l.map Prod.snd))(hn:l.length<=1000000){X:UInt64->Nat->LB->LB}(hXX:dY (Aes.enc ws n)=X):Tri prog 37 [ptv sp,lv] ((tr,cl (trc d r) 201)::(HS++(Hd++(Hs++(Hk++(HE++HQ)))))) NT (fun v H=>∃ Hd' HS' Hs' Hk' β',v=.int .i64 (cmS p t X l (C,r,x)).1/\eX d (cmS p t X l (C,r,x)).2.1 Hd'/\rI sp d tr s bk p t (cmS p t X l (C,r,x)).2.2.2 HS'/\eP bk tb β' Hk'/\lL s c0 b0 n ws (aEt p t r x l sr) Hs' /\ H=(tr,cl (trc d (cmS p t X l (C,r,x)).2.2.1) 201)::(HS'++(Hd'++(Hs'++(Hk'++(HE++HQ)))))):=by
 obtain⟨ev,tp,He,Ht,rfl,hE,hT⟩:=hS;refine Tri.mt func37 ntmps37 fun w hw=>?_;have oe:=hE.isOne;have hul:us.length=l.length:=by rw [hR.1,aC]
 have hel2:=fL us l hul;have hmay:=aO9 (sp:=sp) (d:=d) (tr:=tr) (s:=s) (bk:=bk) h (x:=x) hr oe (show One (ptv tp) from inferInstance) lv us l hR.le hn;have hcm:cmS p t X l (C,r,x)=if nA p t r x l≠0 then (nA p t r x l,(C,r,x)) else if l=[] then (0,(C,r,x)) else kV p (UInt64.ofNat (r.c+1).toNat) (dT X (UInt64.ofNat (r.c+1).toNat) l) (C,r,x):=rfl
 have hsr:aEt p t r x l sr=if nA p t r x l≠0 then sr else if l=[] then sr else aBK (UInt64.ofNat (r.c+1).toNat) l sr:=rfl
 have hyes:=aCE (p:=p) (t:=t) (r:=r) (x:=x) (l:=l);obtain⟨la,ll,lc,rfl,hlf⟩:=hL.form;rw [hel2] at hlf;obtain rfl:ll=l.length:=by omega
 rw [hcm,hsr];clear hcm hsr;generalize nA p t r x l=m at *;by_cases h0:m≠0
 ·rw [if_pos h0,if_pos h0];refine W.k ?_;refine W.cw hmay ?_ (hpre:=fun w2 hs=>Rd.own (Hc:=[(sp,cl (fP d tr s bk p t ev (ptv tp) x.w x.st) 231),(tr,cl (trc d r) 201)]) hL hs inferInstance);refine Fin.to ((tr,cl (trc d r) 201)::(((sp,cl (fP d tr s bk p t ev (ptv tp) x.w x.st) 231)::(He++Ht))++(Hd++(Hs++(Hk++(HE++HQ)))))) ?_;exact F.f1 ⟨Hd,_,Hs,Hk,D,rfl,hD,⟨ev,tp,He,Ht,rfl,hE,hT⟩,hK,hSe,rfl⟩
 rw [if_neg h0,if_neg h0];obtain rfl:m=0:=Decidable.not_not.1 h0;by_cases hl0:l.length=0
 ·have hl00:l=[]:=bI hl0;rw [if_pos hl00,if_pos hl00];refine W.k ?_;refine W.cw hmay ?_ (hpre:=fun w2 hs=>Rd.own (Hc:=[(sp,cl (fP d tr s bk p t ev (ptv tp) x.w x.st) 231),(tr,cl (trc d r) 201)]) hL hs inferInstance);refine Fin.to ((tr,cl (trc d r) 201)::(((sp,cl (fP d tr s bk p t ev (ptv tp) x.w x.st) 231)::(He++Ht))++(Hd++(Hs++(Hk++(HE++HQ)))))) ?_;exact F.f1 ⟨Hd,_,Hs,Hk,D,rfl,hD,⟨ev,tp,He,Ht,rfl,hE,hT⟩,hK,hSe,rfl⟩
 have hl00:l≠[]:=fun e=>hl0 (by rw [e];rfl);rw [if_neg hl00,if_neg hl00];obtain⟨hst,hrc,hm⟩:=hyes rfl hl00;obtain⟨hl1,hall⟩:=wH hm;have ht:=h.2.2.2;have hc0:=hr.c0;have hc1:=hr.c1;have hcc:((UInt64.ofNat (r.c+1).toNat).toNat:Int)=r.c+1:=by rw [aU];omega
 generalize UInt64.ofNat (r.c+1).toNat=c at *;rcases hL with ⟨hz,hz2,-⟩|⟨eb,elen,ecap,ejunk,hz,hexl,hej,hec,rfl⟩
 ·rw [hz2] at hel2;simp at hel2;omega
 simp only [Value.slice.injEq] at hz;obtain⟨rfl,rfl,rfl⟩:=hz;have hL1:Sl 112 2 (.slice (some ⟨eb,0,none⟩) l.length lc) (eH us l) [(eb,cl (eH us l++ejunk) 112)]:=.inr ⟨eb,l.length,lc,ejunk,rfl,hexl,hej,hec,rfl⟩;refine W.k ?_;refine W.cq hmay ?_ (hpre:=fun w2 hs=>Rd.own (Hc:=[(sp,cl (fP d tr s bk p t ev (ptv tp) x.w x.st) 231),(tr,cl (trc d r) 201)]) hL1 hs inferInstance);refine W.j fun b_=>?_;generalize b_=ob;have hO0:Sl 112 2 (.slice (some ⟨ob,0,none⟩) 0 l.length) (eH [] []) [(ob,cl (zs [.int .i64 0,.slice none 0 0] l.length) 112)]:=.inr ⟨ob,0,l.length,zs [.int .i64 0,.slice none 0 0] l.length,rfl,rfl,by rw [aBx];simp,Nat.zero_le _,rfl⟩;refine bP [0] [(ob,cl (zs [.int .i64 0,.slice none 0 0] l.length) 112)] (fun y:Value×LV×Hp×Hp=>[(6,y.1)]) (fun y=>y.2.2.1++y.2.2.2) (fun y=>Sl 112 2 y.1 (eH y.2.1 l) y.2.2.1/\RB y.2.2.2 y.2.1 (l.map Prod.snd)) ?_ ?_
 ·refine W.k ?_;refine bE [0,28,29] (fun y:Nat×Value×LV×Hp×Hp=>[(6,y.2.1),(30,.int .i64 (y.1:Int))]) (fun y=>y.2.2.2.1++y.2.2.2.2) (fun y=>l.length-y.1) (fun y=>y.1<=l.length/\Sl 112 2 y.2.1 (eH y.2.2.1 (l.take y.1)) y.2.2.2.1/\RB y.2.2.2.2 y.2.2.1 ((l.take y.1).map Prod.snd)) (0,.slice (some ⟨ob,0,none⟩) 0 l.length,[],[(ob,cl (zs [.int .i64 0,.slice none 0 0] l.length) 112)],[]) ⟨Nat.zero_le _,hO0,RB.nil _⟩ ?_;rintro⟨k,ov,us2,HO,HQ2⟩ ⟨hk,hO,hR2⟩;dsimp only at hk hO hR2 |-;have oO:=hO.isOne;by_cases hkn:k<l.length
  ·have hx0:=aA hkn;obtain⟨u,huk,hru⟩:=hR.2 k l[k].2 (by rw [aL,hx0];rfl);have hrow:=uG (junk:=ejunk) hul huk hx0;obtain⟨hx1,hx2,hx3⟩:=hall k _ hx0;have htk:l.take (k+1)=l.take k++[l[k]]:=by rw [aY,hx0];rfl
   have htkl:(l.take k).length=k:=by rw [aH];omega
   have hul2:us2.length=(l.take k).length:=by rw [hR2.1,aC]
   have hecl:=fL us2 _ hul2;have huo:=hru.one;have hcl:=wY u l[k].2 oQ;have hLs:=fun v=>kL hul2 v l[k];rw [<-htk] at hLs;generalize l[k]=z at *;refine W.k fun b_=>?_;generalize b_=eb2;(refine SW.l [7,8] [0,1,2,3,4] ?_;refine aX 5 ?_);refine aF hcl ?_ (hpre:=fun w2 hs=>hru.rd (Hc:=[]) hs);intro v1 H1 h1;have h11:=h1.isOne;have hRd:=RdH.of h1;obtain⟨a1,n1,c1,rfl,-⟩:=h1.form;(refine SL.l [6] ?_;refine bL 7 ?_);refine iQ (fun b7=>?_) (hr:=aGS ..);(refine bB [] ?_;refine bL 8 ?_);refine W.ap (ys:=[.int .i64 z.1,.slice a1 n1 c1]) (mm:=1) hO (fun w2 hs=>(Sl.own 112 2 b7 (len:=1) (xs:=[.int .i64 z.1,.slice a1 n1 c1]) rfl).srcAt hs inferInstance) (fun ov2 HO2 hO2=>?_) (hys:=rfl) (hbytes:=by rw [hecl,htkl];simp;omega);have oO2:=hO2.isOne;rw [<-hLs] at hO2;have hR3:RB (HQ2++H1) (us2++[.slice a1 n1 c1]) ((l.take (k+1)).map Prod.snd):=by rw [htk,aZ];exact (hR2.mono fun y hy=>aO _ hy).snoc (hRd.mono fun y hy=>aM _ hy)
   (refine SL.l [9,10] ?_);refine W.k ?_;refine aN.mk (k+1,ov2,us2++[.slice a1 n1 c1],HO2,HQ2++H1) ?_;exact⟨hkn,hO2,hR3⟩
  have hkl:k=l.length:=oQ;rw [hkl,bO] at hO hR2;subst hkl;refine W.k ?_;refine bS.mk (ov,us2,HO,HQ2) ?_;exact⟨hO,hR2⟩
 rintro⟨ov,us2,HO,HQ2⟩ ⟨hO,hR2⟩;dsimp only at hO hR2 |-;have oO:=hO.isOne;have hch:=aIJ (sp:=sp) (tr:=tr) (d:=d) h hx hr oQ hE hT hK hSe hKo hO hR2 hm hcc hXX;have hX1:∀ e k b,(X e k b).length=b.length:=fun e k b=>by rw [<-hXX];exact mJ (fun y=>Aes.enc_len ..) ..
 have hm2:iY p t (dT X c l)=true:=by rw [aAH hX1];exact hm
 have htb:=aDb X c l;have hre:=aDR X c c l x.es;have hsl:=mS X c l;have hchg:=aBR h (eD c x.es l) hm2;have hV32:=sK hx.d (oJ p (eD c x.es l) (dT X c l)) hchg.1;clear hchg;refine W.k ?_;refine aF hch ?_;clear hch;rintro _ _ ⟨cp,Lv,bv,nx,tv,tp2,us3,β2,HL2,HQ3,HB,HN,HT2,HTr,Hk2,Hs2,rfl,hL2,hR3,hB,hN,hT2,hTr,hK2,hS2,rfl⟩;rw [<-htb] at hT2;have hes2:(eD c x.es l).length=Gm.sealed p:=by rw [lR];exact hx.es
 generalize hLL:dT X c l=L2 at *;generalize hEE:eD c x.es l=E2 at *;generalize hVV:jE x.lv (oJ p E2 L2)=lvN at *;have oL2:=hL2.isOne;have oB:=hB.one;have oN:=hN.isOne;have oT2:=hT2.isOne;have hg:(⟨(c.toNat:Int),fN lvN⟩:Rg).Ok:=⟨Sha.sum_len _,by show 0<=(c.toNat:Int);omega,by show (c.toNat:Int)<=_;omega⟩;have hsd:=fun (ev tv:Value) (o0:One ev) (o1:One tv) (e:Int)=>aIm (sp:=sp) (d:=d) (tr:=tr) (s:=s) (bk:=bk) (p:=p) (t:=t) (wr:=x.w) (st:=x.st) (e:=e) o0 o1;have hL2l:L2.length<=t:=oQ;have hbl:(uO c L2).length=1+L2.length:=by unfold uO;rw [aW,aC];omega
 have hb256:∀ b∈uO c L2,b.length=256:=fun b hb=>by
  unfold uO at hb;rcases cD.1 hb with rfl|hb
  ·exact xE _ _
  obtain⟨y,hy,rfl⟩:=bM.1 hb;obtain⟨i,hi⟩:=cW.1 hy;exact aAn hm2 i y hi
 refine W.j fun b_=>?_;generalize b_=fb;refine bP [0] ((sp,cl (fP d tr s bk p t ev (ptv tp) x.w x.st) 231)::(tr,cl (trc d r) 201)::Hd) (fun _:KS=>[]) (fun y=>(sp,cl (fP d tr s bk p t y.ev y.tv x.w x.st) 231)::(tr,cl (trc d y.r) 201)::y.Hd)
  (fun y=>kV p c L2 (C,r,x)=(0,y.C,y.r,⟨E2,lvN,x.w,x.st⟩)/\nx=y.ev/\ptv tp2=y.tv/\eX d y.C y.Hd) ?_ ?_
 ·refine W.k ?_;refine bE [0,61,62] (fun y:KS=>[(63,.int .i64 (y.k:Int))]) (fun y=>(sp,cl (fP d tr s bk p t y.ev y.tv x.w x.st) 231)::(tr,cl (trc d y.r) 201)::y.Hd) (fun y=>4-y.k)
   (fun y=>(y.k=0/\y.C=C/\y.r=r/\y.ev=ev/\y.tv=ptv tp/\eX d y.C y.Hd) \/
    (y.k=1/\pH p c L2 C=(0,y.C)/\y.r=r/\y.ev=ev/\y.tv=ptv tp/\eX d y.C y.Hd) \/
    (y.k=2/\(∃ σ1,pH p c L2 C=(0,σ1)/\jX ⟨(c.toNat:Int),fN lvN⟩ (σ1,r)=(0,y.C,y.r))/\nx=y.ev/\ptv tp2=y.tv/\eX d y.C y.Hd) \/
    (y.k=3/\(∃ σ1 σ2,pH p c L2 C=(0,σ1)/\jX ⟨(c.toNat:Int),fN lvN⟩ (σ1,r)=(0,σ2,y.r)/\uN p E2 L2 σ2=(0,y.C))/\nx=y.ev/\ptv tp2=y.tv/\eX d y.C y.Hd) \/
    (y.k=4/\kV p c L2 (C,r,x)=(0,y.C,y.r,⟨E2,lvN,x.w,x.st⟩)/\nx=y.ev/\ptv tp2=y.tv/\eX d y.C y.Hd)) ⟨0,C,r,ev,ptv tp,Hd⟩ (.inl ⟨rfl,rfl,rfl,rfl,rfl,hD⟩) ?_
  rintro⟨k,σ0,r0,ev0,tv0,Hd0⟩ hI;dsimp only at hI |-;rcases hI with ⟨rfl,rfl,rfl,rfl,rfl,hD0⟩|⟨rfl,hg1,rfl,rfl,rfl,hD0⟩|⟨rfl,⟨σ1,hg1,hg2⟩,rfl,rfl,hD0⟩|⟨rfl,⟨σ1,σ2,hg1,hg2,hg3⟩,rfl,rfl,hD0⟩|⟨rfl,hdo,rfl,rfl,hD0⟩
  ·have hlg:=aIK (cp:=cp) (sp:=sp) (tr:=tr) (s:=s) (bk:=bk) (cnt:=(c.toNat:Int)) (st:=x.st) (wt:=x.w) (Lv:=Lv) (nv:=nx) (tv:=tv) (tp:=ptv tp2) (ev:=ev0) (tt:=ptv tp) (g:=⟨(c.toNat:Int),fN lvN⟩) h hD0 h8 hB oL2 oN oT2 inferInstance oe inferInstance oQ oQ hb256;obtain⟨e,σ1,hz⟩:∃ e σ1,pH p c L2 σ0=(e,σ1):=⟨_,_,rfl⟩;rw [show (putL (gB (Gm.leaves p) (uO c L2))).and feS σ0=(e,σ1) from hz] at hlg;dsimp only at hlg;refine W.k ?_;refine dN ((cp,cl (chC sp (c.toNat:Int) Lv bv nx tv (ptv tp2) ⟨(c.toNat:Int),fN lvN⟩) 279)::(sp,cl (fP d tr s bk p t ev0 (ptv tp) x.w x.st) 231)::(Hd0++HB)) rfl rfl rfl rfl rfl rfl hlg (fun _ _=>trivial) ?_;rintro _ _ ⟨rfl,Hd1,hD1,rfl⟩;refine W.k ?_;refine W.cq (hsd ev0 (ptv tp) oe inferInstance e) ?_;by_cases he:e=0
   ·subst he;rw [if_pos rfl];refine W.k ?_;refine aN.mk ⟨1,σ1,r0,ev0,ptv tp,Hd1⟩ ?_;exact .inr (.inl ⟨rfl,hz,rfl,rfl,rfl,hD1⟩)
   have hdo:=aEp (r:=r0) (x:=x) hz he;rw [hdo,if_neg he];refine W.k ?_;refine Fin.to ((tr,cl (trc d r0) 201)::(((sp,cl (fP d tr s bk p t ev0 (ptv tp) x.w 8) 231)::(He++Ht))++(Hd1++(Hs2++(Hk2++([(eb,cl (eH us l++ejunk) 112)]++HQ)))))) ?_;exact F.f1 ⟨Hd1,_,Hs2,Hk2,β2,rfl,hD1,⟨ev0,tp,He,Ht,rfl,hE,hT⟩,hK2,hS2,rfl⟩
  ·have hw1:=aBV p c L2 C;rw [hg1] at hw1;have hct:=aII (cp:=cp) (sp:=sp) (tr:=tr) (s:=s) (bk:=bk) (p:=p) (t:=t) (cnt:=(c.toNat:Int)) (st:=x.st) (wt:=x.w) (Lv:=Lv) (bv:=bv) (nv:=nx) (tv:=tv) (tp:=ptv tp2) (ev:=ev0) (tt:=ptv tp) (r:=r0) hr hg hD0 oB oL2 oN oT2 inferInstance oe inferInstance;obtain⟨e,σ2,r2,hz⟩:∃ e σ2 r2,jX ⟨(c.toNat:Int),fN lvN⟩ (σ0,r0)=(e,σ2,r2):=⟨_,_,_,rfl⟩;rw [hz] at hct;dsimp only at hct;refine W.k ?_;refine dN ((cp,cl (chC sp (c.toNat:Int) Lv bv nx tv (ptv tp2) ⟨(c.toNat:Int),fN lvN⟩) 279)::(sp,cl (fP d tr s bk p t ev0 (ptv tp) x.w x.st) 231)::(tr,cl (trc d r0) 201)::Hd0) rfl rfl rfl rfl rfl rfl hct (fun _ _=>trivial) ?_;rintro _ _ ⟨rfl,Hd1,hD1,rfl⟩;by_cases he:e=0
   ·subst he;rw [if_pos rfl];have hsd0:=hsd nx (ptv tp2) oN inferInstance 0;rw [if_pos rfl] at hsd0;refine W.k ?_;refine W.cw hsd0 ?_;refine aN.mk ⟨2,σ2,r2,nx,ptv tp2,Hd1⟩ ?_;exact .inr (.inr (.inl ⟨rfl,⟨σ0,hg1,hz⟩,rfl,rfl,hD1⟩))
   have hdo:=aJ9 (x:=x) hre hVV hg1 hz he;have hsd0:=hsd ev0 (ptv tp) oe inferInstance e;rw [if_neg he] at hsd0 |-;refine W.k ?_;refine W.cq hsd0 ?_;rw [hdo];refine W.k ?_;refine Fin.to ((tr,cl (trc d r2) 201)::(((sp,cl (fP d tr s bk p t ev0 (ptv tp) x.w 8) 231)::(He++Ht))++(Hd1++(Hs2++(Hk2++([(eb,cl (eH us l++ejunk) 112)]++HQ)))))) ?_;exact F.f1 ⟨Hd1,_,Hs2,Hk2,β2,rfl,hD1,⟨ev0,tp,He,Ht,rfl,hE,hT⟩,hK2,hS2,rfl⟩
  ·have hw1:=aBV p c L2 C;rw [hg1] at hw1;have hw2:=aAz ⟨(c.toNat:Int),fN lvN⟩ (σ1,r);rw [hg2] at hw2;dsimp only at hw1 hw2;have hla:=aL8 (cp:=cp) (sp:=sp) (tr:=tr) (s:=s) (bk:=bk) (cnt:=(c.toNat:Int)) (st:=x.st) (wt:=x.w) (Lv:=Lv) (bv:=bv) (nx:=nx) (tv:=tv) (tp:=ptv tp2) (ev:=nx) (tt:=ptv tp2) (g:=⟨(c.toNat:Int),fN lvN⟩) h hD0 (by rw [hw2,hw1];exact h8) hm2 hL2 hR3 hN hes2 hT2 oB inferInstance oN inferInstance;obtain⟨e,σ3,hz⟩:∃ e σ3,uN p E2 L2 σ0=(e,σ3):=⟨_,_,rfl⟩;rw [hz] at hla;dsimp only at hla;refine W.k ?_;refine dN ((cp,cl (chC sp (c.toNat:Int) Lv bv nx tv (ptv tp2) ⟨(c.toNat:Int),fN lvN⟩) 279)::(sp,cl (fP d tr s bk p t nx (ptv tp2) x.w x.st) 231)::(Hd0++((HL2++HQ3)++(HN++HT2)))) rfl rfl rfl rfl rfl rfl hla (fun _ _=>trivial) ?_;rintro _ _ ⟨rfl,Hd1,hD1,rfl⟩;refine W.k ?_;refine W.cq (hsd nx (ptv tp2) oN inferInstance e) ?_;by_cases he:e=0
   ·subst he;rw [if_pos rfl];refine W.k ?_;refine aN.mk ⟨3,σ3,r0,nx,ptv tp2,Hd1⟩ ?_;exact .inr (.inr (.inr (.inl ⟨rfl,⟨σ1,σ0,hg1,hg2,hz⟩,rfl,rfl,hD1⟩)))
   have hdo:=aKa (x:=x) hre hVV hg1 hg2 hz he;rw [hdo,if_neg he];refine W.k ?_;refine Fin.to ((tr,cl (trc d r0) 201)::(((sp,cl (fP d tr s bk p t nx (ptv tp2) x.w 8) 231)::(HN++HTr))++(Hd1++(Hs2++(Hk2++([(eb,cl (eH us l++ejunk) 112)]++HQ)))))) ?_;exact F.f1 ⟨Hd1,_,Hs2,Hk2,β2,rfl,hD1,⟨nx,tp2,HN,HTr,rfl,hN,hTr⟩,hK2,hS2,rfl⟩
  ·have hw1:=aBV p c L2 C;rw [hg1] at hw1;have hw2:=aAz ⟨(c.toNat:Int),fN lvN⟩ (σ1,r);rw [hg2] at hw2;have hw3:=aEu p E2 L2 σ2;rw [hg3] at hw3;dsimp only at hw1 hw2 hw3;obtain⟨za,zl,zc,hzv,hzl⟩:=hL2.form;rw [fL us3 L2 (by rw [hR3.1,aC])] at hzl;obtain rfl:zl=L2.length:=by omega
   have hsc:=aFI (cp:=cp) (sp:=sp) (tr:=tr) (s:=s) (bk:=bk) (st:=x.st) (wt:=x.w) (c:=c) (a:=za) (n:=L2.length) (cap:=zc) (bv:=bv) (nv:=nx) (tv:=tv) (tp:=ptv tp2) (ev:=nx) (tt:=ptv tp2) (g:=⟨(c.toNat:Int),fN lvN⟩) h hD0 (by rw [hw3,hw2,hw1];exact h8) hL2l oB oN oT2 inferInstance oN inferInstance;rw [<-hzv] at hsc;obtain⟨e,σ4,hz⟩:∃ e σ4,fU (Gm.leaves p) (1+L2.length) σ0=(e,σ4):=⟨_,_,rfl⟩;rw [hz] at hsc;dsimp only at hsc;have hdo:=aKb (x:=x) hre hVV hg1 hg2 hg3 hz;refine W.k ?_;refine dN ((cp,cl (chC sp (c.toNat:Int) Lv bv nx tv (ptv tp2) ⟨(c.toNat:Int),fN lvN⟩) 279)::(sp,cl (fP d tr s bk p t nx (ptv tp2) x.w x.st) 231)::Hd0) rfl rfl rfl rfl rfl rfl hsc (fun _ _=>trivial) ?_;rintro _ _ ⟨rfl,Hd1,hD1,rfl⟩;refine W.k ?_;refine W.cq (hsd nx (ptv tp2) oN inferInstance e) ?_;by_cases he:e=0
   ·subst he;rw [if_pos rfl] at hdo |-;refine W.k ?_;refine aN.mk ⟨4,σ4,r0,nx,ptv tp2,Hd1⟩ ?_;exact .inr (.inr (.inr (.inr ⟨rfl,hdo,rfl,rfl,hD1⟩)))
   rw [if_neg he] at hdo |-;rw [hdo];refine W.k ?_;refine Fin.to ((tr,cl (trc d r0) 201)::(((sp,cl (fP d tr s bk p t nx (ptv tp2) x.w 8) 231)::(HN++HTr))++(Hd1++(Hs2++(Hk2++([(eb,cl (eH us l++ejunk) 112)]++HQ)))))) ?_;exact F.f1 ⟨Hd1,_,Hs2,Hk2,β2,rfl,hD1,⟨nx,tp2,HN,HTr,rfl,hN,hTr⟩,hK2,hS2,rfl⟩
  refine W.k ?_;refine bS.mk ⟨4,σ0,r0,nx,ptv tp2,Hd0⟩ ?_;exact⟨hdo,rfl,rfl,hD0⟩
 rintro⟨k,σ0,r0,ev0,tv0,Hd0⟩ ⟨hdo,rfl,rfl,hD0⟩;dsimp only at hdo hD0 |-;rw [hdo];refine W.k ?_;refine Fin.to ((tr,cl (trc d r0) 201)::(((sp,cl (fP d tr s bk p t nx (ptv tp2) x.w x.st) 231)::(HN++HTr))++(Hd0++(Hs2++(Hk2++([(eb,cl (eH us l++ejunk) 112)]++HQ)))))) ?_;exact F.f1 ⟨Hd0,_,Hs2,Hk2,β2,rfl,hD0,⟨_,tp2,HN,HTr,rfl,hN,hTr⟩,hK2,hS2,rfl⟩
end
theorem aPd(C:Dv)(r r':Rg):(qL C r r'=0/\oM C r r'=r'/\r.c<r'.c)\/(qL C r r'≠0/\oM C r r'=r):=by
 unfold qL oM;by_cases h1:C.down=true
 ·rw [if_pos h1,if_pos h1];exact .inr ⟨dQ,rfl⟩
 rw [if_neg h1,if_neg h1];by_cases h2:r'.c<=r.c
 ·rw [if_pos h2,if_pos h2];exact .inr ⟨dQ,rfl⟩
 rw [if_neg h2,if_neg h2];by_cases h3:C.dooE=0
 ·rw [if_pos h3];exact .inl ⟨h3,rfl,oQ⟩
 rw [if_neg h3];exact .inr ⟨h3,rfl⟩
theorem xO(g:Rg)(y:Dv×Rg):((jX g y).1=0/\(jX g y).2.2=g/\y.2.c<g.c)\/((jX g y).1≠0/\(jX g y).2.2=y.2):=aPd y.1 y.2 g
theorem aDx(y:Dv×Rg):((gA y).1=0/\(gA y).2.2={ y.2 with c:=y.2.c+1 })\/((gA y).1≠0/\(gA y).2.2=y.2):=by
 rcases xO { y.2 with c:=y.2.c+1 } y with ⟨h1,h2,-⟩|h
 ·exact .inl ⟨h1,h2⟩
 exact .inr h
theorem aOq(p:Nat)(c:UInt64)(l:List Ent)(C:Dv)(r g:Rg):(((pH p c l).t.and (jX g)) (C,r)).2.1.ws.length=C.ws.length/\((((pH p c l).t.and (jX g)) (C,r)).1=0/\(((pH p c l).t.and (jX g)) (C,r)).2.2=g/\r.c<g.c\/(((pH p c l).t.and (jX g)) (C,r)).1≠0/\(((pH p c l).t.and (jX g)) (C,r)).2.2=r):=by
 have hw:=aBV p c l C;obtain⟨e,σ1,hz⟩:∃ e σ1,pH p c l C=(e,σ1):=⟨_,_,rfl⟩;rw [hz] at hw;have ht:=aHr (r:=r) hz;by_cases h0:e=0
 ·subst h0;rw [TS.and_eq ht];refine⟨by rw [aAz];exact hw,?_⟩;rcases xO g (σ1,r) with h|h
  ·exact .inl h
  exact .inr h
 rw [TS.and_ne (by rw [ht];exact h0),ht];exact⟨hw,.inr ⟨h0,rfl⟩⟩
theorem aKc(p:Nat)(c:UInt64)(l:List Ent)(C:Dv)(r:Rg)(x:So):∃ e σ' r' s',kV p c l (C,r,x)=(e,σ',r',s')/\σ'.ws.length=C.ws.length /\ ((r'=r/\s'={ x with st:=8 })\/(r'=⟨(c.toNat:Int),fN (jE x.lv (oJ p (eD c x.es l) l))⟩/\r.c<(c.toNat:Int)/\∃ st,s'=⟨eD c x.es l,jE x.lv (oJ p (eD c x.es l) l),x.w,st⟩)):=by
 generalize hes:eD c x.es l=es;generalize hlv:jE x.lv (oJ p es l)=lv;have hk:=aOq p c l C r ⟨(c.toNat:Int),fN lv⟩;obtain⟨e,σ1,r2,ha⟩:∃ e σ1 r2,((pH p c l).t.and (jX ⟨(c.toNat:Int),fN lv⟩)) (C,r)=(e,σ1,r2):=⟨_,_,_,rfl⟩;rw [ha] at hk;dsimp only at hk;obtain⟨hw,⟨rfl,h2,h3⟩|⟨h1,h2⟩⟩:=hk
 ·obtain⟨e2,σ2,hb⟩:∃ e2 σ2,((uN p es l).and (fU (Gm.leaves p) (1+l.length))) σ1=(e2,σ2):=⟨_,_,rfl⟩;have hw2:=((aEu p es l).and (aBt (Gm.leaves p) (1+l.length))) σ1;rw [hb] at hw2;exact⟨_,_,_,_,sZ hes hlv ha hb,hw2.trans hw,.inr ⟨h2,h3,_,rfl⟩⟩
 exact⟨_,_,_,_,vY hes hlv ha h1,hw,.inl ⟨h2,rfl⟩⟩
theorem aOt{p t:Nat}{r:Rg}{x:So}{l:List Ent}(h:nA p t r x l=0):x.w=true:=by
 unfold nA at h;split at h
 ·contradiction
 split at h
 ·cases h
 rename_i h2;simpa using h2
theorem aJ5{p t:Nat}{X:UInt64->Nat->LB->LB}{l:List Ent}{C:Dv}{r:Rg}{x:So}(h:nA p t r x l≠0\/l=[]):∃ e,cmS p t X l (C,r,x)=(e,(C,r,x)):=by
 unfold cmS;dsimp only;by_cases h0:nA p t r x l≠0
 ·exact⟨_,if_pos h0⟩
 rw [if_neg h0,if_pos (h.resolve_left h0)];exact⟨_,rfl⟩
theorem aEo{p t:Nat}{X:UInt64->Nat->LB->LB}{l:List Ent}{C:Dv}{r:Rg}{x:So}(h:nA p t r x l=0)(hl:l≠[]):cmS p t X l (C,r,x)=kV p (UInt64.ofNat (r.c+1).toNat) (dT X (UInt64.ofNat (r.c+1).toNat) l) (C,r,x):=by unfold cmS;dsimp only;rw [if_neg (fun hh=>hh h),if_neg hl]
structure Inv(p t:Nat)(C:Dv)(r:Rg)(o:Option So):Prop where
 len:C.len=256*Gm.total p t
 r:r.Ok
 o:∀ x,o=some x->x.Ok p
theorem aA5{C σ':Dv}(h:σ'.ws.length=C.ws.length):σ'.len=C.len:=by unfold Dv.len;rw [h]
theorem Inv.w8{p t:Nat}{C:Dv}{r:Rg}{o:Option So}(h:Inv p t C r o):C.ws.length%8=0:=by have:=h.len;unfold Dv.len at this;omega
structure aAM(r:Rg)(s:Sr)(o:Option So):Prop where
 one:s.twice=none
 le:∀ y∈s.used,(y.1.1.toNat:Int)<=r.c+1
 lt:∀ x,o=some x->x.st=0->x.w=true->∀ y∈s.used,(y.1.1.toNat:Int)<=r.c
theorem Sr.at_none{s:Sr}{x:No}(h:∀ y∈s.used,y.1≠x):s.at x=none:=by unfold Sr.at;rw [List.find?_eq_none.2 fun y hy=>by simpa using fun e=>h y hy e.symm];rfl
theorem Sr.hid_new{s:Sr}{x:No}{b:LB}(h:∀ y∈s.used,y.1≠x):s.hid x b=⟨s.used++[(x,b)],s.twice⟩:=by unfold Sr.hid;rw [Sr.at_none h]
theorem aCy(c:UInt64):∀ (l:List (Nat×LB)) (s:Sr),(l.map Prod.fst).Nodup->(∀ x∈l,∀ y∈s.used,y.1≠(c,x.1)) ->
  (l.foldl (fun s x=>s.hid (c,x.1) x.2) s).twice=s.twice/\∀ y∈(l.foldl (fun s x=>s.hid (c,x.1) x.2) s).used,y∈s.used\/y.1.1=c
 | [],s,_,_=>⟨rfl,fun y hy=>.inl hy⟩
 | x::l,s,hn,h=>by
  rw [eE,kE] at hn;have e:s.hid (c,x.1) x.2=⟨s.used++[((c,x.1),x.2)],s.twice⟩:=Sr.hid_new (h x (by simp));have ih:=aCy c l ⟨s.used++[((c,x.1),x.2)],s.twice⟩ hn.2 (fun z hz y hy=>by
   rcases bJ.1 hy with hy|hy
   ·exact h z (by simp [hz]) y hy
   rw [bW] at hy;subst hy;intro e;exact hn.1 (by rw [show x.1=z.1 from congrArg Prod.snd e];exact List.mem_map_of_mem hz))
  rw [fC,e];refine⟨ih.1,fun y hy=>?_⟩;rcases ih.2 y hy with h1|h1
  ·rcases bJ.1 h1 with h1|h1
   ·exact .inl h1
   rw [bW] at h1;subst h1;exact .inr rfl
  exact .inr h1
theorem aIW(c:UInt64)(l:List Ent)(s:Sr):aBK c l s=(l.map fun x=>(x.1.toNat,x.2)).foldl (fun s x=>s.hid (c,x.1) x.2) s:=by unfold aBK;rw [List.foldl_map]
theorem aEh(s:Sr)(e:UInt64)(n:Nat):kN s e n=((List.range n).map fun k=>(k,List.replicate 256 (0:UInt8))).foldl (fun s x=>s.hid (e,x.1) x.2) s:=by unfold kN;rw [List.foldl_map]
theorem aCD{p:Nat}:∀ {l:List Ent} {a:Int},-1<=a->nE p a l=true->(l.map fun x=>x.1.toNat).Nodup/\∀ x∈l,a<x.1
 | [],_,_,_=>⟨nW,by simp⟩
 | x::l,a,ha,h=>by
  unfold nE at h;rw [bR,decide_eq_true_iff] at h;obtain⟨h1,h2⟩:=aCD (p:=p) (l:=l) (a:=x.1) oQ h.2;refine⟨?_,fun y hy=>?_⟩
  ·rw [eE,kE];refine⟨fun hm=>?_,h1⟩;obtain⟨y,hy,e⟩:=bM.1 hm;have:=h2 y hy;omega
  rcases cD.1 hy with rfl|hy
  ·exact h.1.1
  have:=h2 y hy;omega
theorem Inv.commit{p t:Nat}{X:UInt64->Nat->LB->LB}(hX:∀ e k b,(X e k b).length=b.length)(h:Gm.Ok p t){C:Dv}{r:Rg}{x:So}(hI:Inv p t C r (some x)){l:List Ent}:∃ e σ' r' x',cmS p t X l (C,r,x)=(e,(σ',r',x'))/\Inv p t σ' r' (some x')/\∀ s,aAM r s (some x)->aAM r' (aEt p t r x l s) (some x'):=by
 have hx:=hI.o x rfl;by_cases hno:nA p t r x l≠0\/l=[]
 ·obtain⟨e,he⟩:=aJ5 (C:=C) (X:=X) hno;refine⟨e,C,r,x,he,hI,fun s hs=>?_⟩;have:aEt p t r x l s=s:=by
   unfold aEt;rcases hno with h0|h0
   ·rw [if_pos h0]
   by_cases h1:nA p t r x l≠0
   ·rw [if_pos h1]
   rw [if_neg h1,if_pos h0]
  rw [this];exact hs
 have h0:nA p t r x l=0:=Decidable.not_not.1 fun hh=>hno (.inl hh);have hl:l≠[]:=fun hh=>hno (.inr hh);obtain⟨hst,hrc,hm⟩:=aCE h0 hl;have hw:=aOt h0;have hc0:=hI.r.c0;have hc1:=hI.r.c1;have hcc:((UInt64.ofNat (r.c+1).toNat).toNat:Int)=r.c+1:=by rw [aU];omega
 have hhs:∀ s,aEt p t r x l s=aBK (UInt64.ofNat (r.c+1).toNat) l s:=fun s=>by unfold aEt;rw [if_neg (fun hh=>hh h0),if_neg hl]
 rw [aEo h0 hl];generalize UInt64.ofNat (r.c+1).toNat=c at *;obtain⟨e,σ',r',s',he,hwl,hcase⟩:=aKc p c (dT X c l) C r x;refine⟨e,σ',r',s',he,?_,fun s hs=>?_⟩
 ·rcases hcase with ⟨rfl,rfl⟩|⟨rfl,-,st,rfl⟩
  ·exact⟨by rw [aA5 hwl];exact hI.len,hI.r,fun y hy=>by cases hy;exact⟨hx.es,hx.lv,hx.d⟩⟩
  have hm2:iY p t (dT X c l)=true:=by rw [aAH hX];exact hm
  refine⟨by rw [aA5 hwl];exact hI.len,⟨Sha.sum_len _,by show 0<=(c.toNat:Int);omega,by show (c.toNat:Int)<=_;omega⟩,fun y hy=>?_⟩;cases hy;exact⟨by show (eD _ _ _).length=_;rw [lR];exact hx.es,by show (jE _ _).length=_;rw [qM];exact hx.lv,sK hx.d _ (aBR h _ hm2).1⟩
 rw [hhs,aIW];have hold:=hs.lt x rfl hst hw;have hmL:nE p (-1) l=true:=by unfold iY at hm;rw [bR] at hm;exact hm.2
 have hnd:((l.map fun x=>(x.1.toNat,x.2)).map Prod.fst).Nodup:=by rw [qY];exact (aCD oQ hmL).1
 obtain⟨h1,h2⟩:=aCy c _ s hnd (fun z hz y hy e=>by have:=hold y hy;rw [show y.1.1=c from congrArg Prod.fst e] at this;omega);refine⟨h1.trans hs.one,fun y hy=>?_,fun y hy hy0 hyw z hz=>?_⟩
 ·have h3:(y.1.1.toNat:Int)<=r.c+1:=by
   rcases h2 y hy with h3|h3
   ·have:=hold y h3;omega
   rw [h3];omega
  rcases hcase with ⟨rfl,-⟩|⟨rfl,-,-⟩
  ·exact h3
  show _<=(c.toNat:Int)+1;omega
 have h3:(z.1.1.toNat:Int)<=r.c+1:=by
  rcases h2 z hz with h3|h3
  ·have:=hold z h3;omega
  rw [h3];omega
 rcases hcase with ⟨rfl,rfl⟩|⟨rfl,-,-⟩
 ·cases hy;exact absurd (show (8:Int)=0 from hy0) dQ
 show _<=(c.toNat:Int);omega
theorem Inv.read{p t:Nat}{X:UInt64->Nat->LB->LB}{C:Dv}{r:Rg}{x:So}(hI:Inv p t C r (some x))(k:Int):Inv p t C r (some (rdS p X k C x).2.2)/\∀ s,aAM r s (some x)->aAM r s (some (rdS p X k C x).2.2):=by
 have hx:=hI.o x rfl;have h:(rdS p X k C x).2.2=x\/∃ e,e≠0/\(rdS p X k C x).2.2={ x with st:=e }:=by
  unfold rdS;split
  ·exact .inl rfl
  split
  ·exact .inl rfl
  split
  ·exact .inr ⟨8,dQ,rfl⟩
  split
  ·exact .inr ⟨20,dQ,rfl⟩
  exact .inl rfl
 rcases h with h|⟨e,he,h⟩
 ·rw [h];exact⟨hI,fun s hs=>hs⟩
 rw [h];refine⟨⟨hI.len,hI.r,fun y hy=>by cases hy;exact⟨hx.es,hx.lv,hx.d⟩⟩,fun s hs=>⟨hs.one,hs.le,fun y hy hy0=>?_⟩⟩;cases hy;exact absurd hy0 he
theorem Inv.open{p t:Nat}{C:Dv}{r:Rg}{o:Option So}(hI:Inv p t C r o)(w:Bool):Inv p t (fF p t w (C,r)).2.1 (fF p t w (C,r)).2.2 (iL p t w C r)/\∀ s,aAM r s o->aAM (fF p t w (C,r)).2.2 s (iL p t w C r):=by
 have h:∃ e σ' r',fF p t w (C,r)=(e,σ',r')/\σ'.ws.length=C.ws.length/\(r'=r/\(e≠0\/w=false)\/r'={ r with c:=r.c+1 }/\r.c<18446744073709551615):=by
  by_cases h1:w=true/\r.c=18446744073709551615
  ·exact⟨21,C,r,by unfold fF;rw [if_pos h1],rfl,.inl ⟨rfl,.inl dQ⟩⟩
  by_cases h2:C.down=true
  ·exact⟨8,C,r,by unfold fF;rw [if_neg h1,if_pos h2],rfl,.inl ⟨rfl,.inl dQ⟩⟩
  by_cases h3:(eW p t C r).1=3
  ·exact⟨20,C,r,by unfold fF;rw [if_neg h1,if_neg h2,if_pos h3],rfl,.inl ⟨rfl,.inl dQ⟩⟩
  have ho:=pJ h1 (by simpa using h2) h3;have hw:=aHd p t w (eW p t C r).2 (C,r);rw [ho];generalize (eW p t C r).2=B at *;have hwt:(bX p t B).t (C,r)=((bX p t B C).1,(bX p t B C).2,r):=rfl;obtain⟨e,σ',r',hz⟩:∃ e σ' r',pK p t w B (C,r)=(e,σ',r'):=⟨_,_,_,rfl⟩;rw [hz] at hw |-;refine⟨e,σ',r',rfl,hw,?_⟩;by_cases h0:(bX p t B C).1=0
  ·have e1:pK p t w B (C,r)=(if w=true then gA else fun C=>(0,C)) ((bX p t B C).2,r):=by unfold pK;rw [TS.and_eq (y:=((bX p t B C).2,r)) (by rw [hwt,h0])]
   rw [hz] at e1;cases w with
   | false=>exact .inl ⟨congrArg (fun z=>z.2.2) e1,.inr rfl⟩
   | true=>
    rw [if_pos rfl] at e1
    have q1:=congrArg (fun z=>z.1) e1
    have q2:=congrArg (fun z=>z.2.2) e1
    dsimp only at q1 q2
    have hc1:=hI.r.c1
    have:r.c≠18446744073709551615:=fun e=>h1 ⟨rfl,e⟩
    rcases aDx ((bX p t B C).2,r) with ⟨e0,e2⟩|⟨e0,e2⟩
    ·exact .inr ⟨q2.trans e2,oQ⟩
    ·exact .inl ⟨q2.trans e2,.inl (by rw [q1];exact e0)⟩
  have e1:pK p t w B (C,r)=((bX p t B C).1,(bX p t B C).2,r):=by unfold pK;rw [TS.and_ne (by rw [hwt];exact h0),hwt]
  rw [hz] at e1;have q1:=congrArg (fun z=>z.1) e1;dsimp only at q1;exact .inl ⟨congrArg (fun z=>z.2.2) e1,.inl (by rw [q1];exact h0)⟩
 have hO:∀ x,iL p t w C r=some x->(fF p t w (C,r)).1=0/\x.w=w/\x.es=nZ p (eW p t C r).2/\x.lv=gF (eW p t C r).2:=fun x hx=>by
  unfold iL at hx;split at hx
  ·rename_i h0;cases hx;exact⟨h0,rfl,rfl,rfl⟩
  cases hx
 have hB:((eW p t C r).2).length=Gm.leaves p:=by
  have h2:=C.blks_len 0 (Gm.leaves p);unfold eW;generalize C.blks 0 (Gm.leaves p)=l at *;generalize C.blks (Gm.leaves p) (1+t)=logs;by_cases hf:lC p t r.root l=true
  ·rw [pF hf];exact h2
  cases hlr:uP p t r logs with
  | none=>rw [nQ hf hlr];exact h2
  | some x=>
   rw [qB hf hlr]
   split
   ·show (qH _ _ _ _).length=_
    rw [tS];exact h2
   ·exact h2
 obtain⟨e,σ',r',ho,hw,hr⟩:=h;rw [ho] at hO |-;dsimp only at hO |-;have hr':r'.Ok:=by
  rcases hr with ⟨rfl,-⟩|⟨rfl,hc⟩
  ·exact hI.r
  have:=hI.r.c0;exact⟨hI.r.len,by show 0<=r.c+1;omega,by show r.c+1<=_;omega⟩
 have hle:r.c<=r'.c:=by
  rcases hr with ⟨rfl,-⟩|⟨rfl,hc⟩
  ·exact Int.le_refl _
  show r.c<=r.c+1;omega
 refine⟨⟨by rw [aA5 hw];exact hI.len,hr',fun x hx=>?_⟩,fun s hs=>⟨hs.one,fun y hy=>?_,fun x hx h0 hxw y hy=>?_⟩⟩
 ·obtain⟨-,-,h2,h3⟩:=hO x hx;exact⟨by rw [h2];unfold nZ;simp,by rw [h3,lB];exact hB,by rw [h3];exact qN _⟩
 ·have:=hs.le y hy;omega
 obtain⟨h1,h2,-,-⟩:=hO x hx;rcases hr with ⟨-,h3|h3⟩|⟨rfl,-⟩
 ·exact absurd h1 h3
 ·rw [<-h2,hxw] at h3;cases h3
 exact hs.le y hy
theorem Inv.format{p t:Nat}{X:UInt64->Nat->LB->LB}{C:Dv}{r:Rg}{o:Option So}(hI:Inv p t C r o):Inv p t (kJ p t X (C,r)).2.1 (kJ p t X (C,r)).2.2 none/\∀ s,aAM r s o->aAM (kJ p t X (C,r)).2.2 (oP p C r s) none:=by
 have hc0:=hI.r.c0;by_cases h0:18446744073709551613<r.c
 ·have e1:kJ p t X (C,r)=(21,(C,r)):=by unfold kJ;rw [if_pos h0]
  rw [e1];refine⟨⟨hI.len,hI.r,fun _ h=>nomatch h⟩,fun s hs=>?_⟩;unfold oP;rw [if_pos h0];exact⟨hs.one,hs.le,fun _ h=>nomatch h⟩
 have e1:kJ p t X (C,r)=gA.and ((bX p t (iI p t X (UInt64.ofNat (r.c+2).toNat))).t.and (aDg (iI p t X (UInt64.ofNat (r.c+2).toNat)))) (C,r):=by unfold kJ;rw [if_neg h0]
 have hcc:((kI r).toNat:Int)=r.c+2:=by unfold kI;rw [aU];omega
 have hfs:∀ s,oP p C r s=if (gA (C,r)).1=0 then kN s (kI r) (Gm.sealed p) else s:=fun s=>by unfold oP;rw [if_neg h0]
 rw [e1];clear e1;generalize iI p t X (UInt64.ofNat (r.c+2).toNat)=B;generalize kI r=c at *;have hbw:=zZ (C,r);have hbc:=aDx (C,r);generalize hbb:gA (C,r)=bb at *;obtain⟨e,σ1,r1⟩:=bb;dsimp only at hbw hbc hfs;rcases hbc with ⟨rfl,hr1⟩|⟨he,hr1⟩
 ·rw [TS.and_eq hbb];have hr1c:r1.c=r.c+1:=by rw [hr1]
  have hr1k:r1.Ok:=by rw [hr1];exact⟨hI.r.len,by show 0<=r.c+1;omega,by show r.c+1<=_;omega⟩
  have hwt:(bX p t B).t (σ1,r1)=((bX p t B σ1).1,(bX p t B σ1).2,r1):=rfl;have hww:(bX p t B σ1).2.ws.length=σ1.ws.length:=(((iZ (gB 0 B)).and yW).and (aBt _ _)) σ1;have key:(((bX p t B).t.and (aDg B)) (σ1,r1)).2.1.ws.length=σ1.ws.length/\(((bX p t B).t.and (aDg B)) (σ1,r1)).2.2.Ok/\r1.c<=(((bX p t B).t.and (aDg B)) (σ1,r1)).2.2.c:=by
   by_cases h1:(bX p t B σ1).1=0
   ·rw [TS.and_eq (y:=((bX p t B σ1).2,r1)) (by rw [hwt,h1])];show (jX ⟨r1.c+1,gE B⟩ ((bX p t B σ1).2,r1)).2.1.ws.length=_/\(jX ⟨r1.c+1,gE B⟩ ((bX p t B σ1).2,r1)).2.2.Ok/\r1.c<=(jX ⟨r1.c+1,gE B⟩ ((bX p t B σ1).2,r1)).2.2.c;refine⟨by rw [aAz];exact hww,?_,?_⟩
    ·rcases xO ⟨r1.c+1,gE B⟩ ((bX p t B σ1).2,r1) with ⟨-,h2,-⟩|⟨-,h2⟩
     ·rw [h2];exact⟨Sha.sum_len _,by show 0<=r1.c+1;omega,by show r1.c+1<=_;omega⟩
     rw [h2];exact hr1k
    rcases xO ⟨r1.c+1,gE B⟩ ((bX p t B σ1).2,r1) with ⟨-,h2,h3⟩|⟨-,h2⟩
    ·rw [h2];show r1.c<=r1.c+1;omega
    rw [h2];exact Int.le_refl _
   rw [TS.and_ne (by rw [hwt];exact h1),hwt];exact⟨hww,hr1k,Int.le_refl _⟩
  generalize ((bX p t B).t.and (aDg B)) (σ1,r1)=FF at *;obtain⟨k1,k2,k3⟩:=key;refine⟨⟨by rw [aA5 (k1.trans hbw)];exact hI.len,k2,fun _ h=>nomatch h⟩,fun s hs=>?_⟩;rw [hfs,if_pos rfl,aEh];obtain⟨h1,h2⟩:=aCy c ((List.range (Gm.sealed p)).map fun k=>(k,List.replicate 256 (0:UInt8))) s (by rw [qY,show (List.range (Gm.sealed p)).map (Prod.fst∘fun k=>(k,List.replicate 256 (0:UInt8)))=List.range (Gm.sealed p) from List.map_id _];exact List.nodup_range) (fun z hz y hy e=>by have:=hs.le y hy;rw [show y.1.1=c from congrArg Prod.fst e] at this;omega);refine⟨h1.trans hs.one,fun y hy=>?_,fun _ h=>nomatch h⟩;rcases h2 y hy with h3|h3
  ·have:=hs.le y h3;omega
  rw [h3];omega
 rw [TS.and_ne (by rw [hbb];exact he),hbb];refine⟨⟨by rw [aA5 hbw];exact hI.len,by rw [hr1];exact hI.r,fun _ h=>nomatch h⟩,fun s hs=>?_⟩;rw [hfs,if_neg he,hr1];exact⟨hs.one,hs.le,fun _ h=>nomatch h⟩
structure Clo(p t:Nat)(X:UInt64->Nat->LB->LB)(Q Q':Dv->Rg->Sr->Option So->Prop):Prop where
 no:∀ {C r s o},Q C r s o->Q' C r s o
 cm:∀ {C r s x} (l:List Ent),Inv p t C r (some x)->Q C r s (some x)->Q' (cmS p t X l (C,r,x)).2.1 (cmS p t X l (C,r,x)).2.2.1 (aEt p t r x l s) (some (cmS p t X l (C,r,x)).2.2.2)
 rd:∀ {C r s x} (k:Int),Inv p t C r (some x)->Q C r s (some x)->Q' C r s (some (rdS p X k C x).2.2)
 op:∀ {C r s o} (w:Bool),Inv p t C r o->Q C r s o->Q' (fF p t w (C,r)).2.1 (fF p t w (C,r)).2.2 s (iL p t w C r)
 fm:∀ {C r s o},Inv p t C r o->Q C r s o->Q' (kJ p t X (C,r)).2.1 (kJ p t X (C,r)).2.2 (oP p C r s) none
 cr:∀ {C r s o} (q:LB),Q C r s o->Q' (C.crash q).on r s o
 on:∀ {C r s o},Q C r s o->Q' C.on r s o
 ar:∀ {C r s o} (n:Int) (q:LB),Q C r s o->Q' (C.arm n q) r s o
 ta:∀ {C r s o} (a:Int) (b:LB),Q C r s o->Q' (C.tam a b) r s o
theorem aMl{p t:Nat}{X:UInt64->Nat->LB->LB}(hX:∀ e k b,(X e k b).length=b.length)(h:Gm.Ok p t):Clo p t X (fun _ r s o=>aAM r s o) (fun _ r s o=>aAM r s o) where
 no hq:=hq
 cm l hI hq:=by
  obtain⟨e,σ',r',x',he,-,hh⟩:=hI.commit hX h (l:=l)
  rw [he]
  exact hh _ hq
 rd k hI hq:=(hI.read k).2 _ hq
 op w hI hq:=(hI.open w).2 _ hq
 fm hI hq:=hI.format.2 _ hq
 cr _ hq:=hq
 on hq:=hq
 ar _ _ hq:=hq
 ta _ _ hq:=hq
theorem Inv.dev{p t:Nat}{C σ':Dv}{r:Rg}{o:Option So}(hI:Inv p t C r o)(h:σ'.ws.length=C.ws.length):Inv p t σ' r o:=⟨by rw [aA5 h];exact hI.len,hI.r,hI.o⟩
end Go.Proofs.YtdfclocfackkmaaGreat
