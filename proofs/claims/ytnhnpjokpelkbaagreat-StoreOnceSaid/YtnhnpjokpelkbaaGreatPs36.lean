/- What a Commit will make: the sums of leaves; sealed entries in plain words. -/
import Derived.Test.YtnhnpjokpelkbaaGreatPs33
import Derived.Test.YtnhnpjokpelkbaaGreatPs34
import Derived.Test.YtnhnpjokpelkbaaGreatPs35
set_option linter.unusedVariables false
set_option linter.unusedSimpArgs false
set_option linter.unusedSectionVars false
set_option maxHeartbeats 4000000
namespace Go.Proofs.YtnhnpjokpelkbaaGreat
open Go Go.Proofs.Tryz
section
attribute [local irreducible] SW SL SQ SH SA SS Pu Fin bZ aQ
theorem aPY(k:Int){x:List UInt8}(h:x.length=32):bS (fun i=>[(0,1),(1,32)][i]?) ([.int .i64 0]++List.replicate 32 (.int .u8 0)) [(0,.int .i64 k),(1,dgV x)]=some (lD (k,x)):=by
 simp [bS,vl,lD,h]
theorem aPZ(k:Int){x:List UInt8}(h:x.length=32):bS (fun i=>some (i*33,33)) (zs (.int .i64 0::List.replicate 32 (.int .u8 0)) 1) [(0,.agg (lD (k,x)).toArray)]=some (lD (k,x)):=by
 simp [bS,vl,lD,h,zs]
theorem aGE{xs:List (Int×List UInt8)}(h:∀ x∈xs,x.2.length=32):(nV xs).length=xs.length*33:=by
 rw [nV,eN (n:=33) (fun y hy=>by obtain⟨x,hx,rfl⟩:=bJ.1 hy;exact pL (h x hx)),aD]
theorem aFm(xs:List (Int×List UInt8))(x:Int×List UInt8):nV xs++lD x=nV (xs++[x]):=by simp [nV]
theorem aHz{lb sb sp d tr s bk tb p t:Nat}{ev tp xv:Value}{wt:Bool}{st:Int}{xs:List (Int×List UInt8)}{HX:Hp}(hX:Sl 230 33 xv (nV xs) HX)(h32:∀ x∈xs,x.2.length=32)(hn:xs.length≤1000)(o5:One ev)(o6:One tp){β:Bk}{Hk:Hp}(hK:eR bk tb β Hk)(k:Nat)(v:Value)(x:List UInt8)(hx:x.length≤1000000) :
  Tri prog 113 [.int .i64 (k:Int),v,ptv lb,ptv sb] ((lb,cl [xv] 228)::(sb,cl [ptv sp] 22)::(sp,cl (gI d tr s bk p t ev tp wt st) 98)::(HX++Hk)) (fun w2=>Rd (((lb,cl [xv] 228)::(sb,cl [ptv sp] 22)::(sp,cl (gI d tr s bk p t ev tp wt st) 98)::(HX++Hk)).map Prod.fst) w2 1 v (cbs x))
  (fun r H=>r=.tuple #[]∧∃ xv' HX' Hk',Sl 230 33 xv' (nV (xs++[((k:Int),Sha.sum (fC k x))])) HX'∧eR bk tb (β.add (fC k x)) Hk'∧H=(lb,cl [xv'] 228)::(sb,cl [ptv sp] 22)::(sp,cl (gI d tr s bk p t ev tp wt st) 98)::(HX'++Hk')):=by
 refine Tri.mk func113 rfl ntmps113 rfl fun w hw=>?_
 have hv1:=hw.isOne
 have hlf:=aGC hK k v x oQ
 have hy:(Sha.sum (fC k x)).length=32:=Sha.sum_len _
 generalize Sha.sum (fC k x)=y at *
 generalize β.add (fC k x)=β2 at *
 have hb2:=aPY (k:Int) hy
 have hb4:=aPZ (k:Int) hy
 have hcs:=oI hy
 have hn1:=aGE h32
 have hn3:=pL (x:=((k:Int),y)) hy
 have hX1:=hX.isOne
 (refine W.k ?_;repeat intro b_)
 (refine SW.l [12,13] [0,1,2,3,4,5,6,7,8] ?_;refine aX 9 ?_)
 refine aG hlf ?_ (hpre:=fun w2 hs=>hw.ro (Hc:=Hk) hs)
 rintro _ Hk2 ⟨rfl,hK2⟩
 (refine SL.l [10] ?_;refine aX 11 ?_)
 refine iQ (fun b7=>?_) (hr:=hb4)
 (refine bK [] ?_;refine bV 12 ?_)
 refine W.ap (ys:=lD ((k:Int),y)) (mm:=1) hX (fun w2 hs=>(Sl.own 230 33 b7 (len:=1) (xs:=lD ((k:Int),y)) hn3).srcAt hs inferInstance) (fun xv2 HX2 hX2=>?_) (hys:=hn3) (hbytes:=by rw [hn1,hn3];omega)
 have hX21:=hX2.isOne
 rw [aFm] at hX2
 (refine bK [] ?_;refine bV 13 ?_;(refine W.i ?_;repeat intro b_);refine SS.dn ?_)
 (refine W.k ?_;repeat intro b_)
 rw [show [xv].set 0 xv2=[xv2] from rfl]
 refine Fin.to ((lb,cl [xv2] 228)::(sb,cl [ptv sp] 22)::(sp,cl (gI d tr s bk p t ev tp wt st) 98)::(HX2++Hk2)) ?_
 exact F.f0 ⟨rfl,xv2,HX2,Hk2,hX2,hK2,rfl⟩
theorem aGW(X:UInt64→Nat→List UInt8→List UInt8)(c:UInt64)(l:List Ent)(x:Ent):fL X c (l++[x])=fL X c l++[(x.1,X c x.1.toNat x.2)]:=by unfold fL;rw [aL];rfl
theorem aIk(p:Nat)(l:List Ent)(x:Ent):qF p (l++[x])=qF p l++[(((Ks p x.1.toNat:Nat):Int),Sha.sum (fC (Ks p x.1.toNat) x.2))]:=by unfold qF;rw [aL];rfl
theorem aIl(es:List UInt64)(ts:List Nat)(q:Nat):tV es (ts++[q])=tV es ts++[(((1+q:Nat):Int),Sha.sum (fC (1+q) (epB q es)))]:=by unfold tV;rw [aL];rfl
theorem aD4(p:Nat)(l:List Ent):∀ x∈qF p l,x.2.length=32:=fun x hx=>by
 obtain⟨y,-,rfl⟩:=bJ.1 hx
 exact Sha.sum_len _
theorem aHk(es:List UInt64)(ts:List Nat):∀ x∈tV es ts,x.2.length=32:=fun x hx=>by
 obtain⟨y,-,rfl⟩:=bJ.1 hx
 exact Sha.sum_len _
theorem aF1(X:UInt64→Nat→List UInt8→List UInt8)(c:UInt64)(l:List Ent):dW (fL X c l)=dW l:=by
 have key:∀ (l:List Ent) (o:List Nat),(fL X c l).foldl tJ o=l.foldl tJ o:=fun l=>by
  induction l with
  | nil=>intro o;rfl
  | cons x l ih=>intro o;exact ih _
 exact key l []
theorem aIR(X:UInt64→Nat→List UInt8→List UInt8)(c c':UInt64)(l:List Ent):∀ es:List UInt64,eE c' es (fL X c l)=eE c' es l:=by
 unfold eE
 induction l with
 | nil=>intro es;rfl
 | cons x l ih=>intro es;exact ih _
def aD9(c:UInt64)(l:List Ent)(s:Sr):Sr:=l.foldl (fun s x=>s.hid (c,x.1.toNat) x.2) s
theorem aIx(c:UInt64)(l:List Ent)(x:Ent)(s:Sr):aD9 c (l++[x]) s=(aD9 c l s).hid (c,x.1.toNat) x.2:=by unfold aD9;rw [gX];rfl
theorem aAw{p t:Nat}{l:List Ent}(hm:gV p t l=true):(1≤l.length∧l.length≤t)∧∀ (k:Nat) (x:Ent),l[k]?=some x → -1<x.1∧x.1<(Gm.sealed p:Nat)∧x.2.length=256:=by
 unfold gV at hm
 rw [bX,decide_eq_true_iff] at hm
 exact⟨hm.1,mP hm.2⟩
theorem aHl{p t:Nat}(h:Gm.Ok p t)(es:List UInt64){l:List Ent}(hm:gV p t l=true):(∀ x∈tK p es l,x.2.length=32)∧(tK p es l).any (fun x=>!okK (Gm.leaves p) x.1)=false∧(tK p es l).length≤2*l.length:=by
 have hLq:Gm.leaves p=1+Gm.epochs p+Gm.sealed p:=rfl
 refine⟨fun x hx=>?_,?_,?_⟩
 ·unfold tK at hx
  rcases bG.1 hx with hx|hx
  ·exact aD4 _ _ x hx
  ·exact aHk _ _ x hx
 ·rw [List.any_eq_false]
  intro x hx
  unfold tK at hx
  have e:okK (Gm.leaves p) x.1=true:=by
   unfold okK
   rw [decide_eq_true_iff]
   rcases bG.1 hx with hx|hx
   ·obtain⟨y,hy,rfl⟩:=bJ.1 hx
    obtain⟨i,hi⟩:=cT.1 hy
    obtain⟨h1,h2,-⟩:=(aAw hm).2 i y hi
    have hK:Ks p y.1.toNat=1+Gm.epochs p+y.1.toNat:=rfl
    dsimp only
    omega
   ·obtain⟨q,hq,rfl⟩:=bJ.1 hx
    have:=vQ hm q hq
    dsimp only
    omega
  rw [e]
  decide
 ·unfold tK qF tV
  rw [aB,aD,aD]
  have:=tG l
  omega
theorem aA7(K:Int)(a:Option Addr)(n c:Nat):bS (fun i=>some (i*2,2)) (zs [.int .i64 0,.slice none 0 0] 1) [(0,.agg [.int .i64 K,.slice a n c].toArray)]=some [.int .i64 K,.slice a n c]:=rfl
structure CG where
 k:Nat
 Lv:Value
 us:List Value
 tv:Value
 xv:Value
 β:Bk
 HL:Hp
 HT:Hp
 HX:Hp
 Hk:Hp
 Hs:Hp
 HQ:Hp
abbrev rgz:Rg:=⟨0,z32⟩
theorem aPe(sp tp:Nat)(a:Option Addr)(m c:Nat):bS (fun i=>[(0,1),(1,2),(3,1),(4,1),(5,1),(6,1),(7,33)][i]?) ([.pointer none]++([.int .u64 0]++[.slice none 0 0])++[.slice none 0 0]++[.slice none 0 0]++[.slice none 0 0]++[.pointer none]++([.int .u64 0]++List.replicate 32 (.int .u8 0))) [(0,ptv sp),(3,.slice a m c),(5,ptv tp)]=some (chC sp 0 (.slice none 0 0) (.slice none 0 0) (.slice a m c) (.slice none 0 0) (ptv tp) rgz):=rfl
theorem aIj{sp d tr s bk tb p t c0 b0 n:Nat}{ws:List (List UInt8)}{sr:Sr}(h:Gm.Ok p t){x:So}(hx:x.Ok p){r:Rg}(hr:r.Ok)(hc:r.c<18446744073709551615){β:Bk}{ev lv:Value}{tp:Nat}{us:List Value}{l:List Ent}{He Ht Hk Hs HE HQ:Hp}(hE:Sl 33 1 ev (uv x.es) He)(hT:rX tp bk x.lv Ht)(hK:eR bk tb β Hk)(hSe:lI s c0 b0 n ws sr Hs)(hKo:qB n ws)(hL:Sl 136 2 lv (eW us l) HE)(hR:RB HQ us (l.map Prod.snd))(hm:gV p t l=true){c:UInt64}(hcc:(c.toNat:Int)=r.c+1){X:UInt64→Nat→List UInt8→List UInt8}(hXX:dT (Aes.enc ws n)=X) :
  Tri prog 58 [ptv sp,lv] ((sp,cl (gI d tr s bk p t ev (ptv tp) x.w x.st) 98)::(tr,cl (trc d r) 201)::(He++(Ht++(Hk++(Hs++(HE++HQ)))))) (fun _=>True)
  (fun v H=>∃ cp Lv bv nx tv tp2 us2 β2 HL2 HQ2 HB HN HT2 HTr Hk2 Hs2,v=.tuple #[ptv cp,.int .i64 0]∧Sl 136 2 Lv (eW us2 (fL X c l)) HL2∧RB HQ2 us2 ((fL X c l).map Prod.snd)∧Bls bv (uD c (fL X c l)) HB∧Sl 33 1 nx (uv (eE c x.es l)) HN∧Sl 3 1 tv (nv (dW l)) HT2∧rX tp2 bk (pP x.lv (tK p (eE c x.es l) (fL X c l))) HTr∧eR bk tb β2 Hk2∧lI s c0 b0 n ws (aD9 c l sr) Hs2 ∧
   H=(cp,cl (chC sp (c.toNat:Int) Lv bv nx tv (ptv tp2) ⟨(c.toNat:Int),iU (pP x.lv (tK p (eE c x.es l) (fL X c l)))⟩) 227)::(sp,cl (gI d tr s bk p t ev (ptv tp) x.w x.st) 98)::(tr,cl (trc d r) 201)::(He++(Ht++(Hk2++(Hs2++(HL2++(HQ2++(HB++(HN++(HT2++HTr))))))))) ):=by
 refine Tri.mk func58 rfl ntmps58 rfl fun w hw=>?_
 have hll:=Gm.leaves_le h
 have hsl:=Gm.sealed_le h
 have hel:=Gm.epochs_le h
 have hLq:Gm.leaves p=1+Gm.epochs p+Gm.sealed p:=rfl
 have ht:=h.2.2.2
 have hs1:1≤Gm.sealed p:=by unfold Gm.sealed;omega
 obtain⟨hl1,hall⟩:=aAw hm
 have hX1:∀ e k b,(X e k b).length=b.length:=fun e k b=>by rw [← hXX];exact oS (fun y=>Aes.enc_len ..) ..
 have hm2:gV p t (fL X c l)=true:=by rw [aCU hX1];exact hm
 have hSp:=fun (s':Sr) (H':Hp) (hS':lI s c0 b0 n ws s' H') (k:Nat) (hk:k<65536) v y hy=>aJr hS' hKo c k hk v y hy
 rw [hXX] at hSp
 have hesl:=hx.es
 have hlvl:=hx.lv
 have hcu:=aE5 x.es oQ oQ ev
 have hcp:=aJe hT hx.d oQ oQ
 have hrd:=aBs tr d r hr
 have hc0:=hr.c0
 have oe:=hE.isOne
 have htabs:=aF1 X c l
 have hchg:=aHl h (eE c x.es l) hm2
 have hchgE:tK p (eE c x.es l) (fL X c l)=qF p (fL X c l)++tV (eE c x.es l) (dW l):=by unfold tK;rw [htabs]
 rw [rO] at hchg
 have htlt:=vQ hm
 have htle:=tG l
 have hul:us.length=l.length:=by rw [hR.1,aD]
 have hel2:=gE us l hul
 haveI i1:U64 r.c (UInt64.ofNat r.c.toNat):=⟨by rw [bC];omega⟩
 have e1:(((UInt64.ofNat r.c.toNat+1).toNat:Nat):Int)=(c.toNat:Int):=by
  rw [iX,bC,show (1:UInt64).toNat=1 from rfl,hcc];omega
 have hq0:(rgc r)[0]?=some (.int .u64 r.c):=rfl
 rcases hL with ⟨-,hz,-⟩|⟨eb,elen,ecap,ejunk,rfl,hexl,hej,hec,rfl⟩
 ·rw [hz] at hel2;simp at hel2;omega
 obtain rfl:elen=l.length:=by omega
 (refine W.k ?_;repeat intro b_)
 generalize b_=sb
 (refine SW.l [12] [0,1,2,3,4,6,7,8,9] ?_;refine aX 5 ?_)
 refine aG hcu ?_ (hpre:=fun w2 hs=>Rd.own (Hc:=[]) hE hs inferInstance)
 rintro nx HN (⟨-,hz,-⟩|⟨nb,nlen,ncap,njunk,rfl,hnxl,hnj,hnc,rfl⟩)
 ·have h9:=iE x.es
  rw [hz,List.length_nil] at h9
  omega
 rw [iE] at hnxl
 obtain rfl:nlen=x.es.length:=by omega
 (refine bK [] ?_;refine aX 10 ?_)
 refine aG hcp ?_
 rintro _ _ ⟨tp2,Htc,rfl,rfl,hTc⟩
 have hbf:=aPe sp tp2 (some ⟨nb,0,none⟩) x.es.length ncap
 (refine SL.l [11] ?_;refine bV 12 ?_;(refine W.i ?_;repeat intro b_);refine SG.l [13,14] ?_)
 (refine W.k ?_;repeat intro b_)
 generalize b_=cb
 refine W.cq hrd ?_
 (refine W.j ?_;repeat intro b_)
 generalize b_=lb
 rw [e1,show (chC sp 0 (.slice none 0 0) (.slice none 0 0) (.slice (some ⟨nb,0,none⟩) x.es.length ncap) (.slice none 0 0) (ptv tp2) rgz).set 1 (.int .u64 (c.toNat:Int))=chC sp (c.toNat:Int) (.slice none 0 0) (.slice none 0 0) (.slice (some ⟨nb,0,none⟩) x.es.length ncap) (.slice none 0 0) (ptv tp2) rgz from rfl]
 clear hcu hcp hrd hbf
 refine bW [2,6,7,8] ((cb,cl (chC sp (c.toNat:Int) (.slice none 0 0) (.slice none 0 0) (.slice (some ⟨nb,0,none⟩) x.es.length ncap) (.slice none 0 0) (ptv tp2) rgz) 227)::(lb,cl [.slice none 0 0] 228)::(nb,cl (uv x.es++njunk) 33)::(Hk++Hs)) (fun _:CG=>[])
  (fun y=>(cb,cl (chC sp (c.toNat:Int) y.Lv (.slice none 0 0) (.slice (some ⟨nb,0,none⟩) x.es.length ncap) y.tv (ptv tp2) rgz) 227)::(lb,cl [y.xv] 228)::(nb,cl (uv (eE c x.es l)++njunk) 33)::(y.HL++(y.HT++(y.HX++(y.Hk++(y.Hs++y.HQ))))))
  (fun y=>Sl 136 2 y.Lv (eW y.us (fL X c l)) y.HL∧RB y.HQ y.us ((fL X c l).map Prod.snd)∧Sl 3 1 y.tv (nv (dW l)) y.HT∧Sl 230 33 y.xv (nV (qF p (fL X c l))) y.HX∧eR bk tb y.β y.Hk∧lI s c0 b0 n ws (aD9 c l sr) y.Hs) ?_ ?_
 ·(refine W.k ?_;repeat intro b_)
  rw [show uv x.es=uv (eE c x.es (l.take 0)) from rfl]
  refine bF [2,6,7,8,48,49] (fun y:CG=>[(50,.int .i64 (y.k:Int))])
   (fun y=>(cb,cl (chC sp (c.toNat:Int) y.Lv (.slice none 0 0) (.slice (some ⟨nb,0,none⟩) x.es.length ncap) y.tv (ptv tp2) rgz) 227)::(lb,cl [y.xv] 228)::(nb,cl (uv (eE c x.es (l.take y.k))++njunk) 33)::(y.HL++(y.HT++(y.HX++(y.Hk++(y.Hs++y.HQ))))))
   (fun y=>l.length-y.k)
   (fun y=>y.k≤l.length∧Sl 136 2 y.Lv (eW y.us (fL X c (l.take y.k))) y.HL∧RB y.HQ y.us ((fL X c (l.take y.k)).map Prod.snd)∧Sl 3 1 y.tv (nv (dW (l.take y.k))) y.HT∧Sl 230 33 y.xv (nV (qF p (fL X c (l.take y.k)))) y.HX∧eR bk tb y.β y.Hk∧lI s c0 b0 n ws (aD9 c (l.take y.k) sr) y.Hs)
   ⟨0,.slice none 0 0,[],.slice none 0 0,.slice none 0 0,β,[],[],[],Hk,Hs,[]⟩ ⟨Nat.zero_le _,Sl.nil _ _,RB.nil _,Sl.nil _ _,Sl.nil _ _,hK,hSe⟩ ?_
  rintro⟨k,Lv,us2,tv,xv,β2,HL,HT,HX,Hk,Hs,HQ2⟩ ⟨hk,hL2,hR2,hT2,hX2,hK2,hS2⟩
  dsimp only at hk hL2 hR2 hT2 hX2 hK2 hS2 ⊢
  have oL:=hL2.isOne
  have oT:=hT2.isOne
  have oX:=hX2.isOne
  by_cases hkn:k<l.length
  ·have hx0:=aA hkn
   obtain⟨u,huk,hru⟩:=hR.2 k l[k].2 (by rw [aH,hx0];rfl)
   have hrow:=xQ (junk:=ejunk) hul huk hx0
   obtain⟨hx1,hx2,hx3⟩:=hall k _ hx0
   have htk:l.take (k+1)=l.take k++[l[k]]:=by rw [bA,hx0];rfl
   have htkl:(l.take k).length=k:=by rw [aK];omega
   have hEs:=zP c x.es (l.take k) l[k]
   have hSs:=aGW X c (l.take k) l[k]
   have hAs:=aIk p (fL X c (l.take k)) (l[k].1,X c l[k].1.toNat l[k].2)
   have hHs:=aIx c (l.take k) l[k] sr
   have hTs:=yG (l.take k) l[k]
   rw [← htk] at hEs hSs hHs hTs
   rw [← hSs] at hAs
   have htl:=tG (l.take k)
   rw [htkl] at htl
   have hcl:(qF p (fL X c (l.take k))).length=k:=by unfold qF;rw [aD,rO,htkl]
   have hc32:=aD4 p (fL X c (l.take k))
   have hEl:=oH c (l.take k) x.es
   have hsll:(fL X c (l.take k)).length=k:=by rw [rO,htkl]
   have hul2:us2.length=(fL X c (l.take k)).length:=by rw [hR2.1,aD]
   have hecl:=gE us2 _ hul2
   have huo:=hru.one
   generalize l[k]=z at *
   obtain⟨K,hKK⟩:∃ K:Nat,z.1=(K:Int):=⟨z.1.toNat,by omega⟩
   have hKn:z.1.toNat=K:=oQ
   rw [hKn] at hEs hSs hAs hHs
   unfold tJ at hTs
   rw [hKn] at hTs
   rw [hKK] at hrow hSs hAs
   have hse:=hSp _ _ hS2 K oQ u z.2 hx3
   have hci:=aHm tv (dW (l.take k)) (K/32) oQ
   have hsa:=qJ h (K:Int)
   rw [show Gm.atK (Gm.sealed p) (1+Gm.epochs p) (K:Int)=((Ks p K:Nat):Int) by unfold Gm.atK;rw [if_pos oQ];show _=((1+Gm.epochs p+K:Nat):Int);omega] at hsa
   have hdv:((K:Int)/32)=((K/32:Nat):Int):=rfl
   have hYl:(X c K z.2).length=256:=by rw [hX1];exact hx3
   rw [← hHs] at hse
   have hset:=yF (vs:=uv (eE c x.es (l.take k))) (junk:=njunk) (i:=K) (by rw [iE,hEl];omega) (eX c)
   rw [aG0,← hEs] at hset
   have hlt2:K<(uv (eE c x.es (l.take k))++njunk).length:=by rw [aB,iE,hEl];omega
   generalize X c K z.2=Y at *
   have hLs:=iD hul2
   generalize fL X c (l.take k)=S0 at *
   generalize eE c x.es (l.take k)=E0 at *
   generalize dW (l.take k)=T0 at *
   (refine W.k ?_;repeat intro b_)
   generalize b_=eb2
   (refine SW.l [14] [0,1,2,3,4,5,6,7,8,9,10,11,12,13] ?_;refine bV 14 ?_)
   refine aG hse ?_ (hpre:=fun w2 hs=>hru.rd (Hc:=Hs) hs)
   rintro _ _ ⟨q,Hs3,rfl,rfl,hS3⟩
   have hq:Sl 5 1 (.slice (some ⟨q,0,none⟩) 256 256) (cbs Y) [(q,cl (cbs Y) 5)]:=Sl.own _ _ _ (len:=256) (by rw [aI];exact hYl)
   (refine SL.l [15,16,17,18,19,20] ?_)
   (refine W.k ?_;repeat intro b_)
   (refine SW.l [11,15] [0,1,2,3,4,5,6,7,8,9] ?_;refine aX 10 ?_)
   refine iQ (fun b7=>?_) (hr:=aA7 ..)
   (refine bK [] ?_;refine bV 11 ?_)
   refine W.ap (ys:=[.int .i64 (K:Int),.slice (some ⟨q,0,none⟩) 256 256]) (mm:=1) hL2 (fun w2 hs=>(Sl.own 136 2 b7 (len:=1) (xs:=[.int .i64 (K:Int),.slice (some ⟨q,0,none⟩) 256 256]) rfl).srcAt hs inferInstance) (fun Lv2 HL2 hL3=>?_) (hys:=rfl) (hbytes:=by rw [hecl,hsll];simp;omega)
   have oL2:=hL3.isOne
   have hL4:=hLs (.slice (some ⟨q,0,none⟩) 256 256) ((K:Int),Y)
   dsimp only at hL4
   rw [← hL4,← hSs] at hL3
   have hR3:RB (HQ2++[(q,cl (cbs Y) 5)]) (us2++[.slice (some ⟨q,0,none⟩) 256 256]) ((fL X c (l.take (k+1))).map Prod.snd):=by
    rw [hSs,aL]
    exact (hR2.mono fun y hy=>aN _ hy).snoc ((RdH.of hq).mono fun y hy=>aM _ hy)
   (refine SL.l [12,13,14] ?_;refine bV 15 ?_;(refine W.i ?_;repeat intro b_);refine SS.dn ?_)
   rw [show (chC sp (c.toNat:Int) Lv (.slice none 0 0) (.slice (some ⟨nb,0,none⟩) x.es.length ncap) tv (ptv tp2) rgz).set 2 Lv2=chC sp (c.toNat:Int) Lv2 (.slice none 0 0) (.slice (some ⟨nb,0,none⟩) x.es.length ncap) tv (ptv tp2) rgz from rfl]
   (refine W.k ?_;repeat intro b_)
   (refine SW.l [12] [0,1,2,3,4,5,6,7,8,9,10,11] ?_;refine bV 12 ?_;(refine W.i ?_;repeat intro b_);refine SS.dn ?_)
   rw [hset]
   have hlc:=aHz (lb:=lb) (sb:=sb) (sp:=sp) (d:=d) (tr:=tr) (s:=s) (p:=p) (t:=t) (ev:=ev) (tp:=ptv tp) (wt:=x.w) (st:=x.st) hX2 hc32 oQ oe inferInstance hK2 (Ks p K) (.slice (some ⟨q,0,none⟩) 256 256) Y oQ
   (refine W.k ?_;repeat intro b_)
   rw [hdv]
   refine W.cq hci ?_ (hpre:=fun w2 hs=>Rd.own (Hc:=[]) hT2 hs inferInstance)
   by_cases hin:K/32∈T0
   ·rw [if_pos hin] at hTs
    rw [decide_eq_true hin]
    rw [← hTs] at hT2
    (refine W.k ?_;repeat intro b_)
    (refine SW.l [8,10] [0,1,2,3,4,5,6,7,9] ?_;refine bV 8 ?_)
    refine W.cq hsa ?_
    (refine bK [] ?_;refine bV 10 ?_)
    refine dR ((lb,cl [xv] 228)::(sb,cl [ptv sp] 22)::(sp,cl (gI d tr s bk p t ev (ptv tp) x.w x.st) 98)::(HX++Hk)) rfl rfl rfl rfl rfl rfl hlc (fun w2 hs=>Rd.own (Hc:=(lb,cl [xv] 228)::(sb,cl [ptv sp] 22)::(sp,cl (gI d tr s bk p t ev (ptv tp) x.w x.st) 98)::(HX++Hk)) hq hs inferInstance) ?_
    rintro _ _ ⟨rfl,xv2,HX2,Hk2,hX3,hK3,rfl⟩
    have oX2:=hX3.isOne
    rw [← hAs] at hX3
    (refine bK [] ?_;refine SS.dn ?_)
    (refine W.k ?_;repeat intro b_)
    refine aQ.mk ⟨k+1,Lv2,us2++[.slice (some ⟨q,0,none⟩) 256 256],tv,xv2,β2.add (fC (Ks p K) Y),HL2,HT,HX2,Hk2,Hs3,HQ2++[(q,cl (cbs Y) 5)]⟩ ?_
    exact⟨hkn,hL3,hR3,hT2,hX3,hK3,hS3⟩
   ·rw [if_neg hin] at hTs
    rw [decide_eq_false hin]
    have hb26:bS (fun i=>some (i*1,1)) (zs [.int .i64 0] 1) [(0,.int .i64 ((K/32:Nat):Int))]=some (nv [K/32]):=rfl
    (refine W.k ?_;repeat intro b_)
    refine W.ap hT2 (ys:=nv [K/32]) (mm:=1) (fun w2 hs=>(Sl.own 3 1 b_ (xs:=nv [K/32]) rfl).srcAt hs inferInstance) (fun tv2 HT2 hT3=>?_) (hys:=rfl) (hbytes:=by simp;omega)
    have oT2:=hT3.isOne
    rw [← aL,← hTs] at hT3
    (refine W.k ?_;repeat intro b_)
    rw [show (chC sp (c.toNat:Int) Lv2 (.slice none 0 0) (.slice (some ⟨nb,0,none⟩) x.es.length ncap) tv (ptv tp2) rgz).set 5 tv2=chC sp (c.toNat:Int) Lv2 (.slice none 0 0) (.slice (some ⟨nb,0,none⟩) x.es.length ncap) tv2 (ptv tp2) rgz from rfl]
    (refine SW.l [8,10] [0,1,2,3,4,5,6,7,9] ?_;refine bV 8 ?_)
    refine W.cq hsa ?_
    (refine bK [] ?_;refine bV 10 ?_)
    refine dR ((lb,cl [xv] 228)::(sb,cl [ptv sp] 22)::(sp,cl (gI d tr s bk p t ev (ptv tp) x.w x.st) 98)::(HX++Hk)) rfl rfl rfl rfl rfl rfl hlc (fun w2 hs=>Rd.own (Hc:=(lb,cl [xv] 228)::(sb,cl [ptv sp] 22)::(sp,cl (gI d tr s bk p t ev (ptv tp) x.w x.st) 98)::(HX++Hk)) hq hs inferInstance) ?_
    rintro _ _ ⟨rfl,xv2,HX2,Hk2,hX3,hK3,rfl⟩
    have oX2:=hX3.isOne
    rw [← hAs] at hX3
    (refine bK [] ?_;refine SS.dn ?_)
    (refine W.k ?_;repeat intro b_)
    refine aQ.mk ⟨k+1,Lv2,us2++[.slice (some ⟨q,0,none⟩) 256 256],tv2,xv2,β2.add (fC (Ks p K) Y),HL2,HT2,HX2,Hk2,Hs3,HQ2++[(q,cl (cbs Y) 5)]⟩ ?_
    exact⟨hkn,hL3,hR3,hT3,hX3,hK3,hS3⟩
  ·have hkl:k=l.length:=oQ
   rw [hkl,bP] at hL2 hR2 hT2 hX2 hS2 ⊢
   subst hkl
   (refine W.k ?_;repeat intro b_)
   refine bZ.mk ⟨l.length,Lv,us2,tv,xv,β2,HL,HT,HX,Hk,Hs,HQ2⟩ ?_
   exact⟨hL2,hR2,hT2,hX2,hK2,hS2⟩
 rintro⟨k,Lv,us2,tv,xv,β2,HL,HT,HX,Hk,Hs,HQ2⟩ ⟨hL2,hR2,hT2,hX2,hK2,hS2⟩
 dsimp only at hL2 hR2 hT2 hX2 hK2 hS2 ⊢
 have oL:=hL2.isOne
 have oT:=hT2.isOne
 have oX:=hX2.isOne
 obtain⟨ta,tl,tc2,rfl,htl⟩:=hT2.form
 rw [Nat.mul_one,aD] at htl
 subst htl
 have hEl2:=oH c l x.es
 have hcA:=aD4 p (fL X c l)
 have hcAl:(qF p (fL X c l)).length=l.length:=by unfold qF;rw [aD,rO]
 rw [hchgE] at hchg ⊢
 have hN:Sl 33 1 (.slice (some ⟨nb,0,none⟩) x.es.length ncap) (uv (eE c x.es l)) [(nb,cl (uv (eE c x.es l)++njunk) 33)]:=.inr ⟨nb,x.es.length,ncap,njunk,rfl,by rw [iE,hEl2,Nat.mul_one],hnj,hnc,rfl⟩
 have hlog:uD c (fL X c l)=lJ c (fL X c l)::(fL X c l).map Prod.snd:=rfl
 rw [hlog]
 clear hlog hchgE htabs hSp hall
 generalize eE c x.es l=E2 at *
 generalize fL X c l=L2 at *
 generalize aD9 c l sr=Q2 at *
 (refine W.j ?_;repeat intro b_)
 refine bW [2,6,7] ((lb,cl [xv] 228)::(HX++Hk)) (fun _:Value×Bk×Hp×Hp=>[]) (fun y=>(lb,cl [y.1] 228)::(y.2.2.1++y.2.2.2)) (fun y=>Sl 230 33 y.1 (nV (qF p L2++tV E2 (dW l))) y.2.2.1∧eR bk tb y.2.1 y.2.2.2) ?_ ?_
 ·(refine W.k ?_;repeat intro b_)
  refine bF [2,6,7,8,137,138] (fun y:Nat×Value×Bk×Hp×Hp=>[(139,.int .i64 (y.1:Int))]) (fun y=>(lb,cl [y.2.1] 228)::(y.2.2.2.1++y.2.2.2.2)) (fun y=>(dW l).length-y.1) (fun y=>y.1≤(dW l).length∧Sl 230 33 y.2.1 (nV (qF p L2++tV E2 ((dW l).take y.1))) y.2.2.2.1∧eR bk tb y.2.2.1 y.2.2.2.2) (0,xv,β2,HX,Hk) ⟨Nat.zero_le _,by rw [cU];show Sl _ _ _ (nV (qF p L2++[])) _;rw [aF];exact hX2,hK2⟩ ?_
  rintro⟨k,xv,β2,HX,Hk⟩ ⟨hk,hX2,hK2⟩
  dsimp only at hk hX2 hK2 ⊢
  have oX:=hX2.isOne
  by_cases hkn:k<(dW l).length
  ·rcases hT2 with ⟨hz,hz2,-⟩|⟨qb,qlen,qcap,qjunk,hz,hqxl,hqj,hqc,rfl⟩
   ·simp only [Value.slice.injEq] at hz;omega
   simp only [Value.slice.injEq] at hz
   obtain⟨rfl,rfl,rfl⟩:=hz
   have hx0:=aA hkn
   have hlu:(nv (dW l)++qjunk)[k]?=some (.int .i64 (((dW l)[k]:Nat):Int)):=by
    rw [aO (by rw [aD];exact hkn),aH,hx0];rfl
   have hlt:=htlt _ (cP hkn)
   have htk:(dW l).take (k+1)=(dW l).take k++[(dW l)[k]]:=by rw [bA,hx0];rfl
   have hBs:=aIl E2 ((dW l).take k) (dW l)[k]
   rw [← htk] at hBs
   have hcl:(qF p L2++tV E2 ((dW l).take k)).length≤1000:=by unfold tV;rw [aB,hcAl,aD,aK];omega
   have hc32:∀ y∈qF p L2++tV E2 ((dW l).take k),y.2.length=32:=fun y hy=>by
    rcases bG.1 hy with h|h
    ·exact hcA y h
    ·exact aHk _ _ y h
   have hBs2:(qF p L2++tV E2 ((dW l).take k))++[(((1+(dW l)[k]:Nat):Int),Sha.sum (fC (1+(dW l)[k]) (epB (dW l)[k] E2)))]=qF p L2++tV E2 ((dW l).take (k+1)):=by rw [hBs,aV]
   clear hBs htk
   generalize qF p L2++tV E2 ((dW l).take k)=Z0 at *
   generalize (dW l)[k]=q at *
   have hsb:=aAN h q hlt (.slice (some ⟨nb,0,none⟩) x.es.length ncap) E2 oQ
   have hea:=vJ h (q:Int)
   rw [show Gm.atK (Gm.epochs p) 1 (q:Int)=((1+q:Nat):Int) by unfold Gm.atK;rw [if_pos oQ];omega] at hea
   (refine W.k ?_;repeat intro b_)
   (refine SW.l [10] [0,1,2,3,4,5,6,7,8,9] ?_;refine bV 10 ?_)
   refine aG hsb ?_ (hpre:=fun w2 hs=>Rd.own (Hc:=[]) hN hs inferInstance)
   rintro _ _ ⟨b5,rfl,rfl⟩
   have h5:Sl 5 1 (.slice (some ⟨b5,0,none⟩) 256 256) (cbs (epB q E2)) [(b5,cl (cbs (epB q E2)) 5)]:=Sl.own _ _ _ (len:=256) (by rw [aI,oU])
   have hlc:=aHz (lb:=lb) (sb:=sb) (sp:=sp) (d:=d) (tr:=tr) (s:=s) (p:=p) (t:=t) (ev:=ev) (tp:=ptv tp) (wt:=x.w) (st:=x.st) hX2 hc32 hcl oe inferInstance hK2 (1+q) (.slice (some ⟨b5,0,none⟩) 256 256) (epB q E2) (by rw [oU];decide)
   rw [hBs2] at hlc
   generalize epB q E2=eb5 at *
   (refine SL.l [11,12,13,14,15,16] ?_)
   (refine W.k ?_;repeat intro b_)
   refine W.cw hea ?_;repeat intro b_
   refine dR ((lb,cl [xv] 228)::(sb,cl [ptv sp] 22)::(sp,cl (gI d tr s bk p t ev (ptv tp) x.w x.st) 98)::(HX++Hk)) rfl rfl rfl rfl rfl rfl hlc (fun w2 hs=>Rd.own (Hc:=(lb,cl [xv] 228)::(sb,cl [ptv sp] 22)::(sp,cl (gI d tr s bk p t ev (ptv tp) x.w x.st) 98)::(HX++Hk)) h5 hs inferInstance) ?_
   rintro _ _ ⟨rfl,xv2,HX2,Hk2,hX3,hK3,rfl⟩
   have oX2:=hX3.isOne
   (refine W.k ?_;repeat intro b_)
   refine aQ.mk (k+1,xv2,β2.add (fC (1+q) eb5),HX2,Hk2) ?_
   exact⟨hkn,hX3,hK3⟩
  ·have hkl:k=(dW l).length:=oQ
   rw [hkl,bP] at hX2
   subst hkl
   (refine W.k ?_;repeat intro b_)
   refine bZ.mk (xv,β2,HX,Hk) ?_
   exact⟨hX2,hK2⟩
 rintro⟨xv,β2,HX,Hk⟩ ⟨hX2,hK2⟩
 dsimp only at hX2 hK2 ⊢
 have oX:=hX2.isOne
 have hen:=aJf h c Lv us2 L2 hR2 hm2
 have hse:=aO2 hTc hK2 hx.d oQ oQ (qF p L2++tV E2 (dW l)) hchg.1 oQ (by rw [hlvl];exact hchg.2.1) xv
 have hV32:=aEv hx.d (qF p L2++tV E2 (dW l)) hchg.1
 have hVl:=aCW x.lv (qF p L2++tV E2 (dW l))
 generalize pP x.lv (qF p L2++tV E2 (dW l))=V at *
 have hrl:(iU V).length=32:=Sha.sum_len _
 have hbd:bS (fun i=>[(0,1),(1,32)][i]?) ([.int .u64 0]++List.replicate 32 (.int .u8 0)) [(0,.int .u64 (c.toNat:Int)),(1,dgV (iU V))]=some (rgc ⟨(c.toNat:Int),iU V⟩):=aDZ _ hrl
 (refine W.k ?_;repeat intro b_)
 (refine SW.l [9] [0,1,2,3,4,5,6,7,8] ?_;refine bV 9 ?_)
 refine aG hen ?_ (hpre:=fun w2 hs=>Rd.own (Hc:=HQ2) hL2 hs inferInstance)
 rintro _ _ ⟨bv,HB,rfl,hB,rfl⟩
 have oB:=hB.one
 (refine SL.l [10,11,12,13,14,15] ?_)
 (refine W.k ?_;repeat intro b_)
 rw [show (chC sp (c.toNat:Int) Lv (.slice none 0 0) (.slice (some ⟨nb,0,none⟩) x.es.length ncap) (.slice ta (dW l).length tc2) (ptv tp2) rgz).set 3 bv=chC sp (c.toNat:Int) Lv bv (.slice (some ⟨nb,0,none⟩) x.es.length ncap) (.slice ta (dW l).length tc2) (ptv tp2) rgz from rfl]
 (refine SW.l [5] [0,1,2,3,4] ?_;refine bV 5 ?_)
 refine aG hse ?_ (hpre:=fun w2 hs=>Rd.own (Hc:=Htc++Hk) hX2 hs inferInstance)
 rintro _ _ ⟨HTr,Hk2,β3,rfl,rfl,hTr,hK3⟩
 have hro:=aGa hTr hK3 oQ
 (refine SL.l [6,7,8,9,10,11] ?_)
 (refine W.k ?_;repeat intro b_)
 (refine SW.l [14] [0,1,2,3,4,5,6,7,8,9] ?_;refine aX 10 ?_)
 refine aG hro ?_
 rintro _ _ ⟨Hk4,rfl,rfl,hK4⟩
 (refine SL.l [11,12,13] ?_;refine bV 14 ?_;(refine W.i ?_;repeat intro b_);refine SS.dn ?_)
 rw [show (chC sp (c.toNat:Int) Lv bv (.slice (some ⟨nb,0,none⟩) x.es.length ncap) (.slice ta (dW l).length tc2) (ptv tp2) rgz).take 7++rgc ⟨(c.toNat:Int),iU V⟩++(chC sp (c.toNat:Int) Lv bv (.slice (some ⟨nb,0,none⟩) x.es.length ncap) (.slice ta (dW l).length tc2) (ptv tp2) rgz).drop (7+33)=chC sp (c.toNat:Int) Lv bv (.slice (some ⟨nb,0,none⟩) x.es.length ncap) (.slice ta (dW l).length tc2) (ptv tp2) ⟨(c.toNat:Int),iU V⟩ from aF _]
 (refine W.k ?_;repeat intro b_)
 refine Fin.to ((cb,cl (chC sp (c.toNat:Int) Lv bv (.slice (some ⟨nb,0,none⟩) x.es.length ncap) (.slice ta (dW l).length tc2) (ptv tp2) ⟨(c.toNat:Int),iU V⟩) 227)::(sp,cl (gI d tr s bk p t ev (ptv tp) x.w x.st) 98)::(tr,cl (trc d r) 201)::(He++(Ht++(Hk4++(Hs++(HL++(HQ2++(HB++([(nb,cl (uv E2++njunk) 33)]++(HT++HTr)))))))))) ?_
 exact F.f2 ⟨cb,Lv,bv,_,_,tp2,us2,_,HL,HQ2,HB,_,HT,HTr,Hk4,Hs,rfl,hL2,hR2,hB,hN,hT2,hTr,hK4,hS2,rfl⟩
theorem aHQ(g:Rg)(y:Dv×Rg):(mT g y).2.1.ws.length=y.1.ws.length:=by
 show (sQ _ _ _).ws.length=_
 unfold sQ
 split
 ·rfl
 ·split
  ·rfl
  ·exact aJL _
theorem aJ4{p t:Nat}{r:Rg}{x:So}{l:List Ent}(h:nI p t r x l=0)(hl:l≠[]):x.st=0∧r.c≠18446744073709551615∧gV p t l=true:=by
 unfold nI at h
 split at h
 ·contradiction
 ·rename_i h0
  split at h
  ·cases h
  ·split at h
   ·cases h
   ·rename_i h1
    split at h
    ·cases h
    ·rename_i h2
     split at h
     ·cases h
     ·rename_i h3
      refine⟨Decidable.not_not.1 h0,h1,?_⟩
      have h4:oM p (-1) l=true:=by
       cases hh:oM p (-1) l
       ·exact absurd ⟨hl,hh⟩ h3
       ·rfl
      have h5:1≤l.length:=by
       cases l with
       | nil=>exact absurd rfl hl
       | cons y l=>simp
      unfold gV
      rw [h4,decide_eq_true (show 1≤l.length∧l.length≤t by omega)]
      rfl
section
variable {p:Nat}{c:UInt64}{l:List Ent}{σ σ1 σ2 σ3 σ4:Dv}{r r2:Rg}{x:So}{e:Int}{es:List UInt64}{lv:List (List UInt8)}
theorem aFa(hes:eE c x.es l=es)(hlv:pP x.lv (tK p es l)=lv)(ha:((vL p c l).t.and (mT ⟨(c.toNat:Int),iU lv⟩)) (σ,r)=(e,σ1,r2))(he:e≠0):rZ p c l (σ,r,x)=(e,σ1,r2,{ x with st:=8 }):=by
 unfold rZ
 dsimp only
 simp only [hes,hlv,ha]
 rw [if_pos he]
theorem aDu(hes:eE c x.es l=es)(hlv:pP x.lv (tK p es l)=lv)(ha:((vL p c l).t.and (mT ⟨(c.toNat:Int),iU lv⟩)) (σ,r)=(0,σ1,r2))(hb:((aBf p es l).and (gH (Gm.leaves p) (1+l.length))) σ1=(e,σ2)):rZ p c l (σ,r,x)=(e,σ2,r2,⟨es,lv,x.w,if e=0 then x.st else 8⟩):=by
 unfold rZ
 dsimp only
 simp only [hes,hlv,ha,hb]
 rw [if_neg (fun hh=>hh rfl)]
 by_cases he:e=0
 ·rw [if_neg (fun hh=>hh he),if_pos he,he]
 ·rw [if_pos he,if_neg he]
theorem aK1{f:DS}(h:f σ=(e,σ1)):f.t (σ,r)=(e,σ1,r):=by
 unfold DS.t
 dsimp only
 rw [h]
theorem aNJ(h:vL p c l σ=(e,σ1))(he:e≠0):rZ p c l (σ,r,x)=(e,σ1,r,{ x with st:=8 }):=
 aFa rfl rfl (by rw [TS.and_ne (by rw [aK1 h];exact he)];exact aK1 h) he
theorem aNK(hes:eE c x.es l=es)(hlv:pP x.lv (tK p es l)=lv)(h:vL p c l σ=(0,σ1))(h1:mT ⟨(c.toNat:Int),iU lv⟩ (σ1,r)=(e,σ2,r2))(he:e≠0):rZ p c l (σ,r,x)=(e,σ2,r2,{ x with st:=8 }):=
 aFa hes hlv (by rw [TS.and_eq (aK1 h)];exact h1) he
theorem aNL(hes:eE c x.es l=es)(hlv:pP x.lv (tK p es l)=lv)(h:vL p c l σ=(0,σ1))(h1:mT ⟨(c.toNat:Int),iU lv⟩ (σ1,r)=(0,σ2,r2))(h2:aBf p es l σ2=(e,σ3))(he:e≠0):rZ p c l (σ,r,x)=(e,σ3,r2,⟨es,lv,x.w,8⟩):=by
 have hb:((aBf p es l).and (gH (Gm.leaves p) (1+l.length))) σ2=(e,σ3):=by
  rw [DS.and_ne (by rw [h2];exact he)]
  exact h2
 rw [aDu hes hlv (by rw [TS.and_eq (aK1 h)];exact h1) hb,if_neg he]
theorem aNM(hes:eE c x.es l=es)(hlv:pP x.lv (tK p es l)=lv)(h:vL p c l σ=(0,σ1))(h1:mT ⟨(c.toNat:Int),iU lv⟩ (σ1,r)=(0,σ2,r2))(h2:aBf p es l σ2=(0,σ3))(h3:gH (Gm.leaves p) (1+l.length) σ3=(e,σ4)):rZ p c l (σ,r,x)=(e,σ4,r2,⟨es,lv,x.w,if e=0 then x.st else 8⟩):=
 aDu hes hlv (by rw [TS.and_eq (aK1 h)];exact h1) (by rw [DS.and_eq h2];exact h3)
end
def aPl(p t:Nat)(r:Rg)(x:So)(l:List Ent)(sr:Sr):Sr:=
 if nI p t r x l≠0 then sr else if l=[] then sr else aD9 (UInt64.ofNat (r.c+1).toNat) l sr
structure KS where
 k:Nat
 σ:Dv
 r:Rg
 ev:Value
 tv:Value
 Hd:Hp
theorem aBx{sp d tr s bk tb p t c0 b0 n:Nat}{ws:List (List UInt8)}{sr:Sr}(h:Gm.Ok p t){σ:Dv}{x:So}(hx:x.Ok p){r:Rg}(hr:r.Ok){β:Bk}{Hd HS Hk Hs HE HQ:Hp}(hD:fS d σ Hd)(h8:σ.ws.length%8=0)(hS:tI sp d tr s bk p t x HS)(hK:eR bk tb β Hk)(hSe:lI s c0 b0 n ws sr Hs)(hKo:qB n ws){lv:Value}{us:List Value}{l:List Ent}(hL:Sl 136 2 lv (eW us l) HE)(hR:RB HQ us (l.map Prod.snd))(hn:l.length≤1000000){X:UInt64→Nat→List UInt8→List UInt8}(hXX:dT (Aes.enc ws n)=X) :
  Tri prog 15 [ptv sp,lv] ((tr,cl (trc d r) 201)::(HS++(Hd++(Hs++(Hk++(HE++HQ)))))) (fun _=>True)
  (fun v H=>∃ Hd' HS' Hs' Hk' β',v=.int .i64 (cmS p t X l (σ,r,x)).1∧fS d (cmS p t X l (σ,r,x)).2.1 Hd'∧tI sp d tr s bk p t (cmS p t X l (σ,r,x)).2.2.2 HS'∧eR bk tb β' Hk'∧lI s c0 b0 n ws (aPl p t r x l sr) Hs' ∧
   H=(tr,cl (trc d (cmS p t X l (σ,r,x)).2.2.1) 201)::(HS'++(Hd'++(Hs'++(Hk'++(HE++HQ)))))):=by
 obtain⟨ev,tp,He,Ht,rfl,hE,hT⟩:=hS
 refine Tri.mk func15 rfl ntmps15 rfl fun w hw=>?_
 have oe:=hE.isOne
 have hul:us.length=l.length:=by rw [hR.1,aD]
 have hel2:=gE us l hul
 have hmay:=aOE (sp:=sp) (d:=d) (tr:=tr) (s:=s) (bk:=bk) h (x:=x) hr oe (show One (ptv tp) from inferInstance) lv us l hR.le hn
 have hcm:cmS p t X l (σ,r,x)=if nI p t r x l≠0 then (nI p t r x l,(σ,r,x)) else if l=[] then (0,(σ,r,x)) else rZ p (UInt64.ofNat (r.c+1).toNat) (fL X (UInt64.ofNat (r.c+1).toNat) l) (σ,r,x):=rfl
 have hsr:aPl p t r x l sr=if nI p t r x l≠0 then sr else if l=[] then sr else aD9 (UInt64.ofNat (r.c+1).toNat) l sr:=rfl
 have hyes:=aJ4 (p:=p) (t:=t) (r:=r) (x:=x) (l:=l)
 obtain⟨la,ll,lc,rfl,hlf⟩:=hL.form
 rw [hel2] at hlf
 obtain rfl:ll=l.length:=by omega
 rw [hcm,hsr]
 clear hcm hsr
 generalize nI p t r x l=m at *
 by_cases h0:m≠0
 ·rw [if_pos h0,if_pos h0]
  (refine W.k ?_;repeat intro b_)
  refine W.cw hmay ?_ (hpre:=fun w2 hs=>Rd.own (Hc:=[(sp,cl (gI d tr s bk p t ev (ptv tp) x.w x.st) 98),(tr,cl (trc d r) 201)]) hL hs inferInstance);repeat intro b_
  refine Fin.to ((tr,cl (trc d r) 201)::(((sp,cl (gI d tr s bk p t ev (ptv tp) x.w x.st) 98)::(He++Ht))++(Hd++(Hs++(Hk++(HE++HQ)))))) ?_
  exact F.f1 ⟨Hd,_,Hs,Hk,β,rfl,hD,⟨ev,tp,He,Ht,rfl,hE,hT⟩,hK,hSe,rfl⟩
 rw [if_neg h0,if_neg h0]
 obtain rfl:m=0:=Decidable.not_not.1 h0
 by_cases hl0:l.length=0
 ·have hl00:l=[]:=bL hl0
  rw [if_pos hl00,if_pos hl00]
  (refine W.k ?_;repeat intro b_)
  refine W.cw hmay ?_ (hpre:=fun w2 hs=>Rd.own (Hc:=[(sp,cl (gI d tr s bk p t ev (ptv tp) x.w x.st) 98),(tr,cl (trc d r) 201)]) hL hs inferInstance);repeat intro b_
  refine Fin.to ((tr,cl (trc d r) 201)::(((sp,cl (gI d tr s bk p t ev (ptv tp) x.w x.st) 98)::(He++Ht))++(Hd++(Hs++(Hk++(HE++HQ)))))) ?_
  exact F.f1 ⟨Hd,_,Hs,Hk,β,rfl,hD,⟨ev,tp,He,Ht,rfl,hE,hT⟩,hK,hSe,rfl⟩
 have hl00:l≠[]:=fun e=>hl0 (by rw [e];rfl)
 rw [if_neg hl00,if_neg hl00]
 obtain⟨hst,hrc,hm⟩:=hyes rfl hl00
 obtain⟨hl1,hall⟩:=aAw hm
 have ht:=h.2.2.2
 have hc0:=hr.c0
 have hc1:=hr.c1
 have hcc:((UInt64.ofNat (r.c+1).toNat).toNat:Int)=r.c+1:=by rw [bC];omega
 generalize UInt64.ofNat (r.c+1).toNat=c at *
 rcases hL with ⟨hz,hz2,-⟩|⟨eb,elen,ecap,ejunk,hz,hexl,hej,hec,rfl⟩
 ·rw [hz2] at hel2;simp at hel2;omega
 simp only [Value.slice.injEq] at hz
 obtain⟨rfl,rfl,rfl⟩:=hz
 have hL1:Sl 136 2 (.slice (some ⟨eb,0,none⟩) l.length lc) (eW us l) [(eb,cl (eW us l++ejunk) 136)]:=.inr ⟨eb,l.length,lc,ejunk,rfl,hexl,hej,hec,rfl⟩
 (refine W.k ?_;repeat intro b_)
 refine W.cq hmay ?_ (hpre:=fun w2 hs=>Rd.own (Hc:=[(sp,cl (gI d tr s bk p t ev (ptv tp) x.w x.st) 98),(tr,cl (trc d r) 201)]) hL1 hs inferInstance)
 (refine W.j ?_;repeat intro b_)
 generalize b_=ob
 have hO0:Sl 136 2 (.slice (some ⟨ob,0,none⟩) 0 l.length) (eW [] []) [(ob,cl (zs [.int .i64 0,.slice none 0 0] l.length) 136)]:=.inr ⟨ob,0,l.length,zs [.int .i64 0,.slice none 0 0] l.length,rfl,rfl,by rw [aBB];simp,Nat.zero_le _,rfl⟩
 refine bW [0] [(ob,cl (zs [.int .i64 0,.slice none 0 0] l.length) 136)] (fun y:Value×List Value×Hp×Hp=>[(6,y.1)]) (fun y=>y.2.2.1++y.2.2.2) (fun y=>Sl 136 2 y.1 (eW y.2.1 l) y.2.2.1∧RB y.2.2.2 y.2.1 (l.map Prod.snd)) ?_ ?_
 ·(refine W.k ?_;repeat intro b_)
  refine bF [0,28,29] (fun y:Nat×Value×List Value×Hp×Hp=>[(6,y.2.1),(30,.int .i64 (y.1:Int))]) (fun y=>y.2.2.2.1++y.2.2.2.2) (fun y=>l.length-y.1) (fun y=>y.1≤l.length∧Sl 136 2 y.2.1 (eW y.2.2.1 (l.take y.1)) y.2.2.2.1∧RB y.2.2.2.2 y.2.2.1 ((l.take y.1).map Prod.snd)) (0,.slice (some ⟨ob,0,none⟩) 0 l.length,[],[(ob,cl (zs [.int .i64 0,.slice none 0 0] l.length) 136)],[]) ⟨Nat.zero_le _,hO0,RB.nil _⟩ ?_
  rintro⟨k,ov,us2,HO,HQ2⟩ ⟨hk,hO,hR2⟩
  dsimp only at hk hO hR2 ⊢
  have oO:=hO.isOne
  by_cases hkn:k<l.length
  ·have hx0:=aA hkn
   obtain⟨u,huk,hru⟩:=hR.2 k l[k].2 (by rw [aH,hx0];rfl)
   have hrow:=xQ (junk:=ejunk) hul huk hx0
   obtain⟨hx1,hx2,hx3⟩:=hall k _ hx0
   have htk:l.take (k+1)=l.take k++[l[k]]:=by rw [bA,hx0];rfl
   have htkl:(l.take k).length=k:=by rw [aK];omega
   have hul2:us2.length=(l.take k).length:=by rw [hR2.1,aD]
   have hecl:=gE us2 _ hul2
   have huo:=hru.one
   have hcl:=sU u l[k].2 oQ
   have hLs:=fun v=>iD hul2 v l[k]
   rw [← htk] at hLs
   generalize l[k]=z at *
   (refine W.k ?_;repeat intro b_)
   generalize b_=eb2
   (refine SW.l [7,8] [0,1,2,3,4] ?_;refine aX 5 ?_)
   refine aG hcl ?_ (hpre:=fun w2 hs=>hru.rd (Hc:=[]) hs)
   intro v1 H1 h1
   have h11:=h1.isOne
   have hRd:=RdH.of h1
   obtain⟨a1,n1,c1,rfl,-⟩:=h1.form
   (refine SL.l [6] ?_;refine bV 7 ?_)
   refine iQ (fun b7=>?_) (hr:=aA7 ..)
   (refine bK [] ?_;refine bV 8 ?_)
   refine W.ap (ys:=[.int .i64 z.1,.slice a1 n1 c1]) (mm:=1) hO (fun w2 hs=>(Sl.own 136 2 b7 (len:=1) (xs:=[.int .i64 z.1,.slice a1 n1 c1]) rfl).srcAt hs inferInstance) (fun ov2 HO2 hO2=>?_) (hys:=rfl) (hbytes:=by rw [hecl,htkl];simp;omega)
   have oO2:=hO2.isOne
   rw [← hLs] at hO2
   have hR3:RB (HQ2++H1) (us2++[.slice a1 n1 c1]) ((l.take (k+1)).map Prod.snd):=by
    rw [htk,aL]
    exact (hR2.mono fun y hy=>aN _ hy).snoc (hRd.mono fun y hy=>aM _ hy)
   (refine SL.l [9,10] ?_)
   (refine W.k ?_;repeat intro b_)
   refine aQ.mk (k+1,ov2,us2++[.slice a1 n1 c1],HO2,HQ2++H1) ?_
   exact⟨hkn,hO2,hR3⟩
  ·have hkl:k=l.length:=oQ
   rw [hkl,bP] at hO hR2
   subst hkl
   (refine W.k ?_;repeat intro b_)
   refine bZ.mk (ov,us2,HO,HQ2) ?_
   exact⟨hO,hR2⟩
 rintro⟨ov,us2,HO,HQ2⟩ ⟨hO,hR2⟩
 dsimp only at hO hR2 ⊢
 have oO:=hO.isOne
 have hch:=aIj (sp:=sp) (tr:=tr) (d:=d) h hx hr oQ hE hT hK hSe hKo hO hR2 hm hcc hXX
 have hX1:∀ e k b,(X e k b).length=b.length:=fun e k b=>by rw [← hXX];exact oS (fun y=>Aes.enc_len ..) ..
 have hm2:gV p t (fL X c l)=true:=by rw [aCU hX1];exact hm
 have htb:=aF1 X c l
 have hre:=aIR X c c l x.es
 have hsl:=rO X c l
 have hchg:=aHl h (eE c x.es l) hm2
 have hV32:=aEv hx.d (tK p (eE c x.es l) (fL X c l)) hchg.1
 clear hchg
 (refine W.k ?_;repeat intro b_)
 refine aG hch ?_
 clear hch
 rintro _ _ ⟨cp,Lv,bv,nx,tv,tp2,us3,β2,HL2,HQ3,HB,HN,HT2,HTr,Hk2,Hs2,rfl,hL2,hR3,hB,hN,hT2,hTr,hK2,hS2,rfl⟩
 rw [← htb] at hT2
 have hes2:(eE c x.es l).length=Gm.sealed p:=by rw [oH];exact hx.es
 generalize hLL:fL X c l=L2 at *
 generalize hEE:eE c x.es l=E2 at *
 generalize hVV:pP x.lv (tK p E2 L2)=lvN at *
 have oL2:=hL2.isOne
 have oB:=hB.one
 have oN:=hN.isOne
 have oT2:=hT2.isOne
 have hg:(⟨(c.toNat:Int),iU lvN⟩:Rg).Ok:=⟨Sha.sum_len _,by show 0≤(c.toNat:Int);omega,by show (c.toNat:Int)≤_;omega⟩
 have hsd:=fun (ev tv:Value) (o0:One ev) (o1:One tv) (e:Int)=>aHW (sp:=sp) (d:=d) (tr:=tr) (s:=s) (bk:=bk) (p:=p) (t:=t) (wr:=x.w) (st:=x.st) (e:=e) o0 o1
 have hL2l:L2.length≤t:=oQ
 have hbl:(uD c L2).length=1+L2.length:=by unfold uD;rw [aW,aD];omega
 have hb256:∀ b∈uD c L2,b.length=256:=fun b hb=>by
  unfold uD at hb
  rcases cI.1 hb with rfl|hb
  ·exact uB _ _
  ·obtain⟨y,hy,rfl⟩:=bJ.1 hb
   obtain⟨i,hi⟩:=cT.1 hy
   exact uF hm2 i y hi
 (refine W.j ?_;repeat intro b_)
 generalize b_=fb
 refine bW [0] ((sp,cl (gI d tr s bk p t ev (ptv tp) x.w x.st) 98)::(tr,cl (trc d r) 201)::Hd) (fun _:KS=>[]) (fun y=>(sp,cl (gI d tr s bk p t y.ev y.tv x.w x.st) 98)::(tr,cl (trc d y.r) 201)::y.Hd)
  (fun y=>rZ p c L2 (σ,r,x)=(0,y.σ,y.r,⟨E2,lvN,x.w,x.st⟩)∧nx=y.ev∧ptv tp2=y.tv∧fS d y.σ y.Hd) ?_ ?_
 ·(refine W.k ?_;repeat intro b_)
  refine bF [0,61,62] (fun y:KS=>[(63,.int .i64 (y.k:Int))]) (fun y=>(sp,cl (gI d tr s bk p t y.ev y.tv x.w x.st) 98)::(tr,cl (trc d y.r) 201)::y.Hd) (fun y=>4-y.k)
   (fun y=>(y.k=0∧y.σ=σ∧y.r=r∧y.ev=ev∧y.tv=ptv tp∧fS d y.σ y.Hd) ∨
    (y.k=1∧vL p c L2 σ=(0,y.σ)∧y.r=r∧y.ev=ev∧y.tv=ptv tp∧fS d y.σ y.Hd) ∨
    (y.k=2∧(∃ σ1,vL p c L2 σ=(0,σ1)∧mT ⟨(c.toNat:Int),iU lvN⟩ (σ1,r)=(0,y.σ,y.r))∧nx=y.ev∧ptv tp2=y.tv∧fS d y.σ y.Hd) ∨
    (y.k=3∧(∃ σ1 σ2,vL p c L2 σ=(0,σ1)∧mT ⟨(c.toNat:Int),iU lvN⟩ (σ1,r)=(0,σ2,y.r)∧aBf p E2 L2 σ2=(0,y.σ))∧nx=y.ev∧ptv tp2=y.tv∧fS d y.σ y.Hd) ∨
    (y.k=4∧rZ p c L2 (σ,r,x)=(0,y.σ,y.r,⟨E2,lvN,x.w,x.st⟩)∧nx=y.ev∧ptv tp2=y.tv∧fS d y.σ y.Hd)) ⟨0,σ,r,ev,ptv tp,Hd⟩ (.inl ⟨rfl,rfl,rfl,rfl,rfl,hD⟩) ?_
  rintro⟨k,σ0,r0,ev0,tv0,Hd0⟩ hI
  dsimp only at hI ⊢
  rcases hI with ⟨rfl,rfl,rfl,rfl,rfl,hD0⟩|⟨rfl,hg1,rfl,rfl,rfl,hD0⟩|⟨rfl,⟨σ1,hg1,hg2⟩,rfl,rfl,hD0⟩|⟨rfl,⟨σ1,σ2,hg1,hg2,hg3⟩,rfl,rfl,hD0⟩|⟨rfl,hdo,rfl,rfl,hD0⟩
  ·have hlg:=aIn (cp:=cp) (sp:=sp) (tr:=tr) (s:=s) (bk:=bk) (cnt:=(c.toNat:Int)) (st:=x.st) (wt:=x.w) (Lv:=Lv) (nv:=nx) (tv:=tv) (tp:=ptv tp2) (ev:=ev0) (tt:=ptv tp) (g:=⟨(c.toNat:Int),iU lvN⟩) h hD0 h8 hB oL2 oN oT2 inferInstance oe inferInstance oQ oQ hb256
   obtain⟨e,σ1,hz⟩:∃ e σ1,vL p c L2 σ0=(e,σ1):=⟨_,_,rfl⟩
   rw [show (putL (fM (Gm.leaves p) (uD c L2))).and feS σ0=(e,σ1) from hz] at hlg
   dsimp only at hlg
   (refine W.k ?_;repeat intro b_)
   refine dR ((cp,cl (chC sp (c.toNat:Int) Lv bv nx tv (ptv tp2) ⟨(c.toNat:Int),iU lvN⟩) 227)::(sp,cl (gI d tr s bk p t ev0 (ptv tp) x.w x.st) 98)::(Hd0++HB)) rfl rfl rfl rfl rfl rfl hlg (fun _ _=>trivial) ?_
   rintro _ _ ⟨rfl,Hd1,hD1,rfl⟩
   (refine W.k ?_;repeat intro b_)
   refine W.cq (hsd ev0 (ptv tp) oe inferInstance e) ?_
   by_cases he:e=0
   ·subst he
    rw [if_pos rfl]
    (refine W.k ?_;repeat intro b_)
    refine aQ.mk ⟨1,σ1,r0,ev0,ptv tp,Hd1⟩ ?_
    exact .inr (.inl ⟨rfl,hz,rfl,rfl,rfl,hD1⟩)
   ·have hdo:=aNJ (r:=r0) (x:=x) hz he
    rw [hdo,if_neg he]
    (refine W.k ?_;repeat intro b_)
    refine Fin.to ((tr,cl (trc d r0) 201)::(((sp,cl (gI d tr s bk p t ev0 (ptv tp) x.w 8) 98)::(He++Ht))++(Hd1++(Hs2++(Hk2++([(eb,cl (eW us l++ejunk) 136)]++HQ)))))) ?_
    exact F.f1 ⟨Hd1,_,Hs2,Hk2,β2,rfl,hD1,⟨ev0,tp,He,Ht,rfl,hE,hT⟩,hK2,hS2,rfl⟩
  ·have hw1:=aEb p c L2 σ
   rw [hg1] at hw1
   have hct:=aIh (cp:=cp) (sp:=sp) (tr:=tr) (s:=s) (bk:=bk) (p:=p) (t:=t) (cnt:=(c.toNat:Int)) (st:=x.st) (wt:=x.w) (Lv:=Lv) (bv:=bv) (nv:=nx) (tv:=tv) (tp:=ptv tp2) (ev:=ev0) (tt:=ptv tp) (r:=r0) hr hg hD0 oB oL2 oN oT2 inferInstance oe inferInstance
   obtain⟨e,σ2,r2,hz⟩:∃ e σ2 r2,mT ⟨(c.toNat:Int),iU lvN⟩ (σ0,r0)=(e,σ2,r2):=⟨_,_,_,rfl⟩
   rw [hz] at hct
   dsimp only at hct
   (refine W.k ?_;repeat intro b_)
   refine dR ((cp,cl (chC sp (c.toNat:Int) Lv bv nx tv (ptv tp2) ⟨(c.toNat:Int),iU lvN⟩) 227)::(sp,cl (gI d tr s bk p t ev0 (ptv tp) x.w x.st) 98)::(tr,cl (trc d r0) 201)::Hd0) rfl rfl rfl rfl rfl rfl hct (fun _ _=>trivial) ?_
   rintro _ _ ⟨rfl,Hd1,hD1,rfl⟩
   by_cases he:e=0
   ·subst he
    rw [if_pos rfl]
    have hsd0:=hsd nx (ptv tp2) oN inferInstance 0
    rw [if_pos rfl] at hsd0
    (refine W.k ?_;repeat intro b_)
    refine W.cw hsd0 ?_;repeat intro b_
    refine aQ.mk ⟨2,σ2,r2,nx,ptv tp2,Hd1⟩ ?_
    exact .inr (.inr (.inl ⟨rfl,⟨σ0,hg1,hz⟩,rfl,rfl,hD1⟩))
   ·have hdo:=aNK (x:=x) hre hVV hg1 hz he
    have hsd0:=hsd ev0 (ptv tp) oe inferInstance e
    rw [if_neg he] at hsd0 ⊢
    (refine W.k ?_;repeat intro b_)
    refine W.cq hsd0 ?_
    rw [hdo]
    (refine W.k ?_;repeat intro b_)
    refine Fin.to ((tr,cl (trc d r2) 201)::(((sp,cl (gI d tr s bk p t ev0 (ptv tp) x.w 8) 98)::(He++Ht))++(Hd1++(Hs2++(Hk2++([(eb,cl (eW us l++ejunk) 136)]++HQ)))))) ?_
    exact F.f1 ⟨Hd1,_,Hs2,Hk2,β2,rfl,hD1,⟨ev0,tp,He,Ht,rfl,hE,hT⟩,hK2,hS2,rfl⟩
  ·have hw1:=aEb p c L2 σ
   rw [hg1] at hw1
   have hw2:=aHQ ⟨(c.toNat:Int),iU lvN⟩ (σ1,r)
   rw [hg2] at hw2
   dsimp only at hw1 hw2
   have hla:=aLJ (cp:=cp) (sp:=sp) (tr:=tr) (s:=s) (bk:=bk) (cnt:=(c.toNat:Int)) (st:=x.st) (wt:=x.w) (Lv:=Lv) (bv:=bv) (nx:=nx) (tv:=tv) (tp:=ptv tp2) (ev:=nx) (tt:=ptv tp2) (g:=⟨(c.toNat:Int),iU lvN⟩) h hD0 (by rw [hw2,hw1];exact h8) hm2 hL2 hR3 hN hes2 hT2 oB inferInstance oN inferInstance
   obtain⟨e,σ3,hz⟩:∃ e σ3,aBf p E2 L2 σ0=(e,σ3):=⟨_,_,rfl⟩
   rw [hz] at hla
   dsimp only at hla
   (refine W.k ?_;repeat intro b_)
   refine dR ((cp,cl (chC sp (c.toNat:Int) Lv bv nx tv (ptv tp2) ⟨(c.toNat:Int),iU lvN⟩) 227)::(sp,cl (gI d tr s bk p t nx (ptv tp2) x.w x.st) 98)::(Hd0++((HL2++HQ3)++(HN++HT2)))) rfl rfl rfl rfl rfl rfl hla (fun _ _=>trivial) ?_
   rintro _ _ ⟨rfl,Hd1,hD1,rfl⟩
   (refine W.k ?_;repeat intro b_)
   refine W.cq (hsd nx (ptv tp2) oN inferInstance e) ?_
   by_cases he:e=0
   ·subst he
    rw [if_pos rfl]
    (refine W.k ?_;repeat intro b_)
    refine aQ.mk ⟨3,σ3,r0,nx,ptv tp2,Hd1⟩ ?_
    exact .inr (.inr (.inr (.inl ⟨rfl,⟨σ1,σ0,hg1,hg2,hz⟩,rfl,rfl,hD1⟩)))
   ·have hdo:=aNL (x:=x) hre hVV hg1 hg2 hz he
    rw [hdo,if_neg he]
    (refine W.k ?_;repeat intro b_)
    refine Fin.to ((tr,cl (trc d r0) 201)::(((sp,cl (gI d tr s bk p t nx (ptv tp2) x.w 8) 98)::(HN++HTr))++(Hd1++(Hs2++(Hk2++([(eb,cl (eW us l++ejunk) 136)]++HQ)))))) ?_
    exact F.f1 ⟨Hd1,_,Hs2,Hk2,β2,rfl,hD1,⟨nx,tp2,HN,HTr,rfl,hN,hTr⟩,hK2,hS2,rfl⟩
  ·have hw1:=aEb p c L2 σ
   rw [hg1] at hw1
   have hw2:=aHQ ⟨(c.toNat:Int),iU lvN⟩ (σ1,r)
   rw [hg2] at hw2
   have hw3:=aLX p E2 L2 σ2
   rw [hg3] at hw3
   dsimp only at hw1 hw2 hw3
   obtain⟨za,zl,zc,hzv,hzl⟩:=hL2.form
   rw [gE us3 L2 (by rw [hR3.1,aD])] at hzl
   obtain rfl:zl=L2.length:=by omega
   have hsc:=aE8 (cp:=cp) (sp:=sp) (tr:=tr) (s:=s) (bk:=bk) (st:=x.st) (wt:=x.w) (c:=c) (a:=za) (n:=L2.length) (cap:=zc) (bv:=bv) (nv:=nx) (tv:=tv) (tp:=ptv tp2) (ev:=nx) (tt:=ptv tp2) (g:=⟨(c.toNat:Int),iU lvN⟩) h hD0 (by rw [hw3,hw2,hw1];exact h8) hL2l oB oN oT2 inferInstance oN inferInstance
   rw [← hzv] at hsc
   obtain⟨e,σ4,hz⟩:∃ e σ4,gH (Gm.leaves p) (1+L2.length) σ0=(e,σ4):=⟨_,_,rfl⟩
   rw [hz] at hsc
   dsimp only at hsc
   have hdo:=aNM (x:=x) hre hVV hg1 hg2 hg3 hz
   (refine W.k ?_;repeat intro b_)
   refine dR ((cp,cl (chC sp (c.toNat:Int) Lv bv nx tv (ptv tp2) ⟨(c.toNat:Int),iU lvN⟩) 227)::(sp,cl (gI d tr s bk p t nx (ptv tp2) x.w x.st) 98)::Hd0) rfl rfl rfl rfl rfl rfl hsc (fun _ _=>trivial) ?_
   rintro _ _ ⟨rfl,Hd1,hD1,rfl⟩
   (refine W.k ?_;repeat intro b_)
   refine W.cq (hsd nx (ptv tp2) oN inferInstance e) ?_
   by_cases he:e=0
   ·subst he
    rw [if_pos rfl] at hdo ⊢
    (refine W.k ?_;repeat intro b_)
    refine aQ.mk ⟨4,σ4,r0,nx,ptv tp2,Hd1⟩ ?_
    exact .inr (.inr (.inr (.inr ⟨rfl,hdo,rfl,rfl,hD1⟩)))
   ·rw [if_neg he] at hdo ⊢
    rw [hdo]
    (refine W.k ?_;repeat intro b_)
    refine Fin.to ((tr,cl (trc d r0) 201)::(((sp,cl (gI d tr s bk p t nx (ptv tp2) x.w 8) 98)::(HN++HTr))++(Hd1++(Hs2++(Hk2++([(eb,cl (eW us l++ejunk) 136)]++HQ)))))) ?_
    exact F.f1 ⟨Hd1,_,Hs2,Hk2,β2,rfl,hD1,⟨nx,tp2,HN,HTr,rfl,hN,hTr⟩,hK2,hS2,rfl⟩
  ·(refine W.k ?_;repeat intro b_)
   refine bZ.mk ⟨4,σ0,r0,nx,ptv tp2,Hd0⟩ ?_
   exact⟨hdo,rfl,rfl,hD0⟩
 rintro⟨k,σ0,r0,ev0,tv0,Hd0⟩ ⟨hdo,rfl,rfl,hD0⟩
 dsimp only at hdo hD0 ⊢
 rw [hdo]
 (refine W.k ?_;repeat intro b_)
 refine Fin.to ((tr,cl (trc d r0) 201)::(((sp,cl (gI d tr s bk p t nx (ptv tp2) x.w x.st) 98)::(HN++HTr))++(Hd0++(Hs2++(Hk2++([(eb,cl (eW us l++ejunk) 136)]++HQ)))))) ?_
 exact F.f1 ⟨Hd0,_,Hs2,Hk2,β2,rfl,hD0,⟨_,tp2,HN,HTr,rfl,hN,hTr⟩,hK2,hS2,rfl⟩
end
end Go.Proofs.YtnhnpjokpelkbaaGreat
