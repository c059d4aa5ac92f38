/- What a Commit will make: the sums of leaves; sealed entries in plain words. -/
import Derived.Test.YtnhnpjokpelkbaaGreatPp37
import Derived.Test.YtnhnpjokpelkbaaGreatPp39
import Derived.Test.YtnhnpjokpelkbaaGreatPp40
set_option linter.unusedVariables false
set_option linter.unusedSimpArgs false
set_option linter.unusedSectionVars false
set_option maxHeartbeats 4000000
namespace Go.Proofs.YtnhnpjokpelkbaaGreat
open Go Go.Proofs.Tryz
section
attribute [local irreducible] SW SL SQ SH SA SS Pu Fin bT aQ
theorem aPK(k:Int){x:List UInt8}(h:x.length=32):bX (fun i=>[(0,1),(1,32)][i]?) ([.int .i64 0]++List.replicate 32 (.int .u8 0)) [(0,.int .i64 k),(1,dgV x)]=some (lF (k,x)):=by
 simp [bX,vl,lF,h]
theorem aPL(k:Int){x:List UInt8}(h:x.length=32):bX (fun i=>some (i*33,33)) (zs (.int .i64 0::List.replicate 32 (.int .u8 0)) 1) [(0,.agg (lF (k,x)).toArray)]=some (lF (k,x)):=by
 simp [bX,vl,lF,h,zs]
theorem aGD{xs:List (Int×List UInt8)}(h:∀ x∈xs,x.2.length=32):(nU xs).length=xs.length*33:=by
 rw [nU,dI (n:=33) (fun y hy=>by obtain⟨x,hx,rfl⟩:=bH.1 hy;exact pO (h x hx)),aD]
theorem aFy(xs:List (Int×List UInt8))(x:Int×List UInt8):nU xs++lF x=nU (xs++[x]):=by simp [nU]
theorem aHs{lb sb sp d tr s bk tb p t:Nat}{ev tp xv:Value}{wt:Bool}{st:Int}{xs:List (Int×List UInt8)}{HX:Hp}(hX:Sl 230 33 xv (nU xs) HX)(h32:∀ x∈xs,x.2.length=32)(hn:xs.length≤1000)(o5:One ev)(o6:One tp){β:Bk}{Hk:Hp}(hK:eV bk tb β Hk)(k:Nat)(v:Value)(x:List UInt8)(hx:x.length≤1000000) :
  Tri prog 113 [.int .i64 (k:Int),v,ptv lb,ptv sb] ((lb,cl [xv] 228)::(sb,cl [ptv sp] 22)::(sp,cl (fT d tr s bk p t ev tp wt st) 98)::(HX++Hk)) (fun w2=>Rd (((lb,cl [xv] 228)::(sb,cl [ptv sp] 22)::(sp,cl (fT d tr s bk p t ev tp wt st) 98)::(HX++Hk)).map Prod.fst) w2 1 v (cbs x))
  (fun r H=>r=.tuple #[]∧∃ xv' HX' Hk',Sl 230 33 xv' (nU (xs++[((k:Int),Sha.sum (fJ k x))])) HX'∧eV bk tb (β.add (fJ k x)) Hk'∧H=(lb,cl [xv'] 228)::(sb,cl [ptv sp] 22)::(sp,cl (fT d tr s bk p t ev tp wt st) 98)::(HX'++Hk')):=by
 refine Tri.mk func113 rfl ntmps113 rfl fun w hw=>?_
 have hv1:=hw.isOne
 have hlf:=aGC hK k v x oQ
 have hy:(Sha.sum (fJ k x)).length=32:=Sha.sum_len _
 generalize Sha.sum (fJ k x)=y at *
 generalize β.add (fJ k x)=β2 at *
 have hb2:=aPK (k:Int) hy
 have hb4:=aPL (k:Int) hy
 have hcs:=lV hy
 have hn1:=aGD h32
 have hn3:=pO (x:=((k:Int),y)) hy
 have hX1:=hX.isOne
 refine W.k ?_
 (refine SW.l [12,13] [0,1,2,3,4,5,6,7,8] ?_;refine bA 9 ?_)
 refine aF hlf ?_ (hpre:=fun w2 hs=>hw.ro (Hc:=Hk) hs)
 rintro _ Hk2 ⟨rfl,hK2⟩
 (refine SL.l [10] ?_;refine bA 11 ?_)
 refine iS (fun b7=>?_) (hr:=hb4)
 (refine bC [] ?_;refine bO 12 ?_)
 refine W.ap (ys:=lF ((k:Int),y)) (mm:=1) hX (fun w2 hs=>(Sl.own 230 33 b7 (len:=1) (xs:=lF ((k:Int),y)) hn3).srcAt hs inferInstance) (fun xv2 HX2 hX2=>?_) (hys:=hn3) (hbytes:=by rw [hn1,hn3];omega)
 have hX21:=hX2.isOne
 rw [aFy] at hX2
 (refine bC [] ?_;refine bO 13 ?_;refine W.i ?_;refine SS.dn ?_)
 refine W.k ?_
 rw [show [xv].set 0 xv2=[xv2] from rfl]
 refine Fin.to ((lb,cl [xv2] 228)::(sb,cl [ptv sp] 22)::(sp,cl (fT d tr s bk p t ev tp wt st) 98)::(HX2++Hk2)) ?_
 exact F.f0 ⟨rfl,xv2,HX2,Hk2,hX2,hK2,rfl⟩
theorem aCM(X:UInt64→Nat→List UInt8→List UInt8)(c:UInt64)(l:List Ent)(x:Ent):dH X c (l++[x])=dH X c l++[(x.1,X c x.1.toNat x.2)]:=by unfold dH;rw [aV];rfl
theorem aDh(p:Nat)(l:List Ent)(x:Ent):lP p (l++[x])=lP p l++[(((Ks p x.1.toNat:Nat):Int),Sha.sum (fJ (Ks p x.1.toNat) x.2))]:=by unfold lP;rw [aV];rfl
theorem aDi(es:List UInt64)(ts:List Nat)(q:Nat):oR es (ts++[q])=oR es ts++[(((1+q:Nat):Int),Sha.sum (fJ (1+q) (epB q es)))]:=by unfold oR;rw [aV];rfl
theorem aAa(p:Nat)(l:List Ent):∀ x∈lP p l,x.2.length=32:=fun x hx=>by
 obtain⟨y,-,rfl⟩:=bH.1 hx
 exact Sha.sum_len _
theorem aD4(es:List UInt64)(ts:List Nat):∀ x∈oR es ts,x.2.length=32:=fun x hx=>by
 obtain⟨y,-,rfl⟩:=bH.1 hx
 exact Sha.sum_len _
theorem aCT(X:UInt64→Nat→List UInt8→List UInt8)(c:UInt64)(l:List Ent):cZ (dH X c l)=cZ l:=by
 have key:∀ (l:List Ent) (o:List Nat),(dH X c l).foldl tA o=l.foldl tA o:=fun l=>by
  induction l with
  | nil=>intro o;rfl
  | cons x l ih=>intro o;exact ih _
 exact key l []
theorem aDz(X:UInt64→Nat→List UInt8→List UInt8)(c c':UInt64)(l:List Ent):∀ es:List UInt64,dL c' es (dH X c l)=dL c' es l:=by
 unfold dL
 induction l with
 | nil=>intro es;rfl
 | cons x l ih=>intro es;exact ih _
def aBx(c:UInt64)(l:List Ent)(s:Sr):Sr:=l.foldl (fun s x=>s.hid (c,x.1.toNat) x.2) s
theorem aIt(c:UInt64)(l:List Ent)(x:Ent)(s:Sr):aBx c (l++[x]) s=(aBx c l s).hid (c,x.1.toNat) x.2:=by unfold aBx;rw [gX];rfl
theorem aAk{p t:Nat}{l:List Ent}(hm:gH p t l=true):(1≤l.length∧l.length≤t)∧∀ (k:Nat) (x:Ent),l[k]?=some x → -1<x.1∧x.1<(Gm.sealed p:Nat)∧x.2.length=256:=by
 unfold gH at hm
 rw [bM,decide_eq_true_iff] at hm
 exact⟨hm.1,lX hm.2⟩
theorem aBD{p t:Nat}(h:Gm.Ok p t)(es:List UInt64){l:List Ent}(hm:gH p t l=true):(∀ x∈oH p es l,x.2.length=32)∧(oH p es l).any (fun x=>!okK (Gm.leaves p) x.1)=false∧(oH p es l).length≤2*l.length:=by
 have hLq:Gm.leaves p=1+Gm.epochs p+Gm.sealed p:=rfl
 refine⟨fun x hx=>?_,?_,?_⟩
 ·unfold oH at hx
  rcases bK.1 hx with hx|hx
  ·exact aAa _ _ x hx
  ·exact aD4 _ _ x hx
 ·rw [List.any_eq_false]
  intro x hx
  unfold oH at hx
  have e:okK (Gm.leaves p) x.1=true:=by
   unfold okK
   rw [decide_eq_true_iff]
   rcases bK.1 hx with hx|hx
   ·obtain⟨y,hy,rfl⟩:=bH.1 hx
    obtain⟨i,hi⟩:=cC.1 hy
    obtain⟨h1,h2,-⟩:=(aAk hm).2 i y hi
    have hK:Ks p y.1.toNat=1+Gm.epochs p+y.1.toNat:=rfl
    dsimp only
    omega
   ·obtain⟨q,hq,rfl⟩:=bH.1 hx
    have:=rE hm q hq
    dsimp only
    omega
  rw [e]
  decide
 ·unfold oH lP oR
  rw [aB,aD,aD]
  have:=pX l
  omega
theorem aB3(K:Int)(a:Option Addr)(n c:Nat):bX (fun i=>some (i*2,2)) (zs [.int .i64 0,.slice none 0 0] 1) [(0,.agg [.int .i64 K,.slice a n c].toArray)]=some [.int .i64 K,.slice a n c]:=rfl
structure CG where
 k:Nat
 Lv:Value
 us:List Value
 tv:Value
 xv:Value
 β:Bk
 HL:Hp
 HT:Hp
 HX:Hp
 Hk:Hp
 Hs:Hp
 HQ:Hp
abbrev rgz:Rg:=⟨0,z32⟩
theorem aO1(sp tp:Nat)(a:Option Addr)(m c:Nat):bX (fun i=>[(0,1),(1,2),(3,1),(4,1),(5,1),(6,1),(7,33)][i]?) ([.pointer none]++([.int .u64 0]++[.slice none 0 0])++[.slice none 0 0]++[.slice none 0 0]++[.slice none 0 0]++[.pointer none]++([.int .u64 0]++List.replicate 32 (.int .u8 0))) [(0,ptv sp),(3,.slice a m c),(5,ptv tp)]=some (chC sp 0 (.slice none 0 0) (.slice none 0 0) (.slice a m c) (.slice none 0 0) (ptv tp) rgz):=rfl
theorem aIe{sp d tr s bk tb p t c0 b0 n:Nat}{ws:List (List UInt8)}{sr:Sr}(h:Gm.Ok p t){x:So}(hx:x.Ok p){r:Rg}(hr:r.Ok)(hc:r.c<18446744073709551615){β:Bk}{ev lv:Value}{tp:Nat}{us:List Value}{l:List Ent}{He Ht Hk Hs HE HQ:Hp}(hE:Sl 33 1 ev (uv x.es) He)(hT:rR tp bk x.lv Ht)(hK:eV bk tb β Hk)(hSe:lU s c0 b0 n ws sr Hs)(hKo:kS n ws)(hL:Sl 136 2 lv (eD us l) HE)(hR:RB HQ us (l.map Prod.snd))(hm:gH p t l=true){c:UInt64}(hcc:(c.toNat:Int)=r.c+1){X:UInt64→Nat→List UInt8→List UInt8}(hXX:dM (Aes.enc ws n)=X) :
  Tri prog 58 [ptv sp,lv] ((sp,cl (fT d tr s bk p t ev (ptv tp) x.w x.st) 98)::(tr,cl (trc d r) 201)::(He++(Ht++(Hk++(Hs++(HE++HQ)))))) (fun _=>True)
  (fun v H=>∃ cp Lv bv nx tv tp2 us2 β2 HL2 HQ2 HB HN HT2 HTr Hk2 Hs2,v=.tuple #[ptv cp,.int .i64 0]∧Sl 136 2 Lv (eD us2 (dH X c l)) HL2∧RB HQ2 us2 ((dH X c l).map Prod.snd)∧Bls bv (pB c (dH X c l)) HB∧Sl 33 1 nx (uv (dL c x.es l)) HN∧Sl 3 1 tv (nv (cZ l)) HT2∧rR tp2 bk (jE x.lv (oH p (dL c x.es l) (dH X c l))) HTr∧eV bk tb β2 Hk2∧lU s c0 b0 n ws (aBx c l sr) Hs2 ∧
   H=(cp,cl (chC sp (c.toNat:Int) Lv bv nx tv (ptv tp2) ⟨(c.toNat:Int),fU (jE x.lv (oH p (dL c x.es l) (dH X c l)))⟩) 227)::(sp,cl (fT d tr s bk p t ev (ptv tp) x.w x.st) 98)::(tr,cl (trc d r) 201)::(He++(Ht++(Hk2++(Hs2++(HL2++(HQ2++(HB++(HN++(HT2++HTr))))))))) ):=by
 refine Tri.mk func58 rfl ntmps58 rfl fun w hw=>?_
 have hll:=Gm.leaves_le h
 have hsl:=Gm.sealed_le h
 have hel:=Gm.epochs_le h
 have hLq:Gm.leaves p=1+Gm.epochs p+Gm.sealed p:=rfl
 have ht:=h.2.2.2
 have hs1:1≤Gm.sealed p:=by unfold Gm.sealed;omega
 obtain⟨hl1,hall⟩:=aAk hm
 have hX1:∀ e k b,(X e k b).length=b.length:=fun e k b=>by rw [← hXX];exact mQ (fun y=>Aes.enc_len ..) ..
 have hm2:gH p t (dH X c l)=true:=by rw [wX hX1];exact hm
 have hSp:=fun (s':Sr) (H':Hp) (hS':lU s c0 b0 n ws s' H') (k:Nat) (hk:k<65536) v y hy=>aJg hS' hKo c k hk v y hy
 rw [hXX] at hSp
 have hesl:=hx.es
 have hlvl:=hx.lv
 have hcu:=aFd x.es oQ oQ ev
 have hcp:=aI1 hT hx.d oQ oQ
 have hrd:=zD tr d r hr
 have hc0:=hr.c0
 have oe:=hE.isOne
 have htabs:=aCT X c l
 have hchg:=aBD h (dL c x.es l) hm2
 have hchgE:oH p (dL c x.es l) (dH X c l)=lP p (dH X c l)++oR (dL c x.es l) (cZ l):=by unfold oH;rw [htabs]
 rw [oE] at hchg
 have htlt:=rE hm
 have htle:=pX l
 have hul:us.length=l.length:=by rw [hR.1,aD]
 have hel2:=fI us l hul
 haveI i1:U64 r.c (UInt64.ofNat r.c.toNat):=⟨by rw [aW];omega⟩
 have e1:(((UInt64.ofNat r.c.toNat+1).toNat:Nat):Int)=(c.toNat:Int):=by
  rw [gT,aW,show (1:UInt64).toNat=1 from rfl,hcc];omega
 have hq0:(rgc r)[0]?=some (.int .u64 r.c):=rfl
 rcases hL with ⟨-,hz,-⟩|⟨eb,elen,ecap,ejunk,rfl,hexl,hej,hec,rfl⟩
 ·rw [hz] at hel2;simp at hel2;omega
 obtain rfl:elen=l.length:=by omega
 refine W.k fun b_=>?_
 generalize b_=sb
 (refine SW.l [12] [0,1,2,3,4,6,7,8,9] ?_;refine bA 5 ?_)
 refine aF hcu ?_ (hpre:=fun w2 hs=>Rd.own (Hc:=[]) hE hs inferInstance)
 rintro nx HN (⟨-,hz,-⟩|⟨nb,nlen,ncap,njunk,rfl,hnxl,hnj,hnc,rfl⟩)
 ·have h9:=eR x.es
  rw [hz,List.length_nil] at h9
  omega
 rw [eR] at hnxl
 obtain rfl:nlen=x.es.length:=by omega
 (refine bC [] ?_;refine bA 10 ?_)
 refine aF hcp ?_
 rintro _ _ ⟨tp2,Htc,rfl,rfl,hTc⟩
 have hbf:=aO1 sp tp2 (some ⟨nb,0,none⟩) x.es.length ncap
 (refine SL.l [11] ?_;refine bO 12 ?_;refine W.i fun b_=>?_;refine SG.l [13,14] ?_)
 refine W.k ?_
 generalize b_=cb
 refine W.cq hrd ?_
 refine W.j fun b_=>?_
 generalize b_=lb
 rw [e1,show (chC sp 0 (.slice none 0 0) (.slice none 0 0) (.slice (some ⟨nb,0,none⟩) x.es.length ncap) (.slice none 0 0) (ptv tp2) rgz).set 1 (.int .u64 (c.toNat:Int))=chC sp (c.toNat:Int) (.slice none 0 0) (.slice none 0 0) (.slice (some ⟨nb,0,none⟩) x.es.length ncap) (.slice none 0 0) (ptv tp2) rgz from rfl]
 clear hcu hcp hrd hbf
 refine bQ [2,6,7,8] ((cb,cl (chC sp (c.toNat:Int) (.slice none 0 0) (.slice none 0 0) (.slice (some ⟨nb,0,none⟩) x.es.length ncap) (.slice none 0 0) (ptv tp2) rgz) 227)::(lb,cl [.slice none 0 0] 228)::(nb,cl (uv x.es++njunk) 33)::(Hk++Hs)) (fun _:CG=>[])
  (fun y=>(cb,cl (chC sp (c.toNat:Int) y.Lv (.slice none 0 0) (.slice (some ⟨nb,0,none⟩) x.es.length ncap) y.tv (ptv tp2) rgz) 227)::(lb,cl [y.xv] 228)::(nb,cl (uv (dL c x.es l)++njunk) 33)::(y.HL++(y.HT++(y.HX++(y.Hk++(y.Hs++y.HQ))))))
  (fun y=>Sl 136 2 y.Lv (eD y.us (dH X c l)) y.HL∧RB y.HQ y.us ((dH X c l).map Prod.snd)∧Sl 3 1 y.tv (nv (cZ l)) y.HT∧Sl 230 33 y.xv (nU (lP p (dH X c l))) y.HX∧eV bk tb y.β y.Hk∧lU s c0 b0 n ws (aBx c l sr) y.Hs) ?_ ?_
 ·refine W.k ?_
  rw [show uv x.es=uv (dL c x.es (l.take 0)) from rfl]
  refine bF [2,6,7,8,48,49] (fun y:CG=>[(50,.int .i64 (y.k:Int))])
   (fun y=>(cb,cl (chC sp (c.toNat:Int) y.Lv (.slice none 0 0) (.slice (some ⟨nb,0,none⟩) x.es.length ncap) y.tv (ptv tp2) rgz) 227)::(lb,cl [y.xv] 228)::(nb,cl (uv (dL c x.es (l.take y.k))++njunk) 33)::(y.HL++(y.HT++(y.HX++(y.Hk++(y.Hs++y.HQ))))))
   (fun y=>l.length-y.k)
   (fun y=>y.k≤l.length∧Sl 136 2 y.Lv (eD y.us (dH X c (l.take y.k))) y.HL∧RB y.HQ y.us ((dH X c (l.take y.k)).map Prod.snd)∧Sl 3 1 y.tv (nv (cZ (l.take y.k))) y.HT∧Sl 230 33 y.xv (nU (lP p (dH X c (l.take y.k)))) y.HX∧eV bk tb y.β y.Hk∧lU s c0 b0 n ws (aBx c (l.take y.k) sr) y.Hs)
   ⟨0,.slice none 0 0,[],.slice none 0 0,.slice none 0 0,β,[],[],[],Hk,Hs,[]⟩ ⟨Nat.zero_le _,Sl.nil _ _,RB.nil _,Sl.nil _ _,Sl.nil _ _,hK,hSe⟩ ?_
  rintro⟨k,Lv,us2,tv,xv,β2,HL,HT,HX,Hk,Hs,HQ2⟩ ⟨hk,hL2,hR2,hT2,hX2,hK2,hS2⟩
  dsimp only at hk hL2 hR2 hT2 hX2 hK2 hS2 ⊢
  have oL:=hL2.isOne
  have oT:=hT2.isOne
  have oX:=hX2.isOne
  by_cases hkn:k<l.length
  ·have hx0:=aA hkn
   obtain⟨u,huk,hru⟩:=hR.2 k l[k].2 (by rw [aJ,hx0];rfl)
   have hrow:=uS (junk:=ejunk) hul huk hx0
   obtain⟨hx1,hx2,hx3⟩:=hall k _ hx0
   have htk:l.take (k+1)=l.take k++[l[k]]:=by rw [aZ,hx0];rfl
   have htkl:(l.take k).length=k:=by rw [aG];omega
   have hEs:=vA c x.es (l.take k) l[k]
   have hSs:=aCM X c (l.take k) l[k]
   have hAs:=aDh p (dH X c (l.take k)) (l[k].1,X c l[k].1.toNat l[k].2)
   have hHs:=aIt c (l.take k) l[k] sr
   have hTs:=xT (l.take k) l[k]
   rw [← htk] at hEs hSs hHs hTs
   rw [← hSs] at hAs
   have htl:=pX (l.take k)
   rw [htkl] at htl
   have hcl:(lP p (dH X c (l.take k))).length=k:=by unfold lP;rw [aD,oE,htkl]
   have hc32:=aAa p (dH X c (l.take k))
   have hEl:=lG c (l.take k) x.es
   have hsll:(dH X c (l.take k)).length=k:=by rw [oE,htkl]
   have hul2:us2.length=(dH X c (l.take k)).length:=by rw [hR2.1,aD]
   have hecl:=fI us2 _ hul2
   have huo:=hru.one
   generalize l[k]=z at *
   obtain⟨K,hKK⟩:∃ K:Nat,z.1=(K:Int):=⟨z.1.toNat,by omega⟩
   have hKn:z.1.toNat=K:=oQ
   rw [hKn] at hEs hSs hAs hHs
   unfold tA at hTs
   rw [hKn] at hTs
   rw [hKK] at hrow hSs hAs
   have hse:=hSp _ _ hS2 K oQ u z.2 hx3
   have hci:=aHf tv (cZ (l.take k)) (K/32) oQ
   have hsa:=qH h (K:Int)
   rw [show Gm.atK (Gm.sealed p) (1+Gm.epochs p) (K:Int)=((Ks p K:Nat):Int) by unfold Gm.atK;rw [if_pos oQ];show _=((1+Gm.epochs p+K:Nat):Int);omega] at hsa
   have hdv:((K:Int)/32)=((K/32:Nat):Int):=rfl
   have hYl:(X c K z.2).length=256:=by rw [hX1];exact hx3
   rw [← hHs] at hse
   have hset:=vD (vs:=uv (dL c x.es (l.take k))) (junk:=njunk) (i:=K) (by rw [eR,hEl];omega) (eG c)
   rw [aEF,← hEs] at hset
   have hlt2:K<(uv (dL c x.es (l.take k))++njunk).length:=by rw [aB,eR,hEl];omega
   generalize X c K z.2=Y at *
   have hLs:=kA hul2
   generalize dH X c (l.take k)=S0 at *
   generalize dL c x.es (l.take k)=E0 at *
   generalize cZ (l.take k)=T0 at *
   refine W.k fun b_=>?_
   generalize b_=eb2
   (refine SW.l [14] [0,1,2,3,4,5,6,7,8,9,10,11,12,13] ?_;refine bO 14 ?_)
   refine aF hse ?_ (hpre:=fun w2 hs=>hru.rd (Hc:=Hs) hs)
   rintro _ _ ⟨q,Hs3,rfl,rfl,hS3⟩
   have hq:Sl 5 1 (.slice (some ⟨q,0,none⟩) 256 256) (cbs Y) [(q,cl (cbs Y) 5)]:=Sl.own _ _ _ (len:=256) (by rw [aI];exact hYl)
   (refine SL.l [15,16,17,18,19,20] ?_)
   refine W.k ?_
   (refine SW.l [11,15] [0,1,2,3,4,5,6,7,8,9] ?_;refine bA 10 ?_)
   refine iS (fun b7=>?_) (hr:=aB3 ..)
   (refine bC [] ?_;refine bO 11 ?_)
   refine W.ap (ys:=[.int .i64 (K:Int),.slice (some ⟨q,0,none⟩) 256 256]) (mm:=1) hL2 (fun w2 hs=>(Sl.own 136 2 b7 (len:=1) (xs:=[.int .i64 (K:Int),.slice (some ⟨q,0,none⟩) 256 256]) rfl).srcAt hs inferInstance) (fun Lv2 HL2 hL3=>?_) (hys:=rfl) (hbytes:=by rw [hecl,hsll];simp;omega)
   have oL2:=hL3.isOne
   have hL4:=hLs (.slice (some ⟨q,0,none⟩) 256 256) ((K:Int),Y)
   dsimp only at hL4
   rw [← hL4,← hSs] at hL3
   have hR3:RB (HQ2++[(q,cl (cbs Y) 5)]) (us2++[.slice (some ⟨q,0,none⟩) 256 256]) ((dH X c (l.take (k+1))).map Prod.snd):=by
    rw [hSs,aV]
    exact (hR2.mono fun y hy=>aO _ hy).snoc ((RdH.of hq).mono fun y hy=>aN _ hy)
   (refine SL.l [12,13,14] ?_;refine bO 15 ?_;refine W.i ?_;refine SS.dn ?_)
   rw [show (chC sp (c.toNat:Int) Lv (.slice none 0 0) (.slice (some ⟨nb,0,none⟩) x.es.length ncap) tv (ptv tp2) rgz).set 2 Lv2=chC sp (c.toNat:Int) Lv2 (.slice none 0 0) (.slice (some ⟨nb,0,none⟩) x.es.length ncap) tv (ptv tp2) rgz from rfl]
   refine W.k ?_
   (refine SW.l [12] [0,1,2,3,4,5,6,7,8,9,10,11] ?_;refine bO 12 ?_;refine W.i ?_;refine SS.dn ?_)
   rw [hset]
   have hlc:=aHs (lb:=lb) (sb:=sb) (sp:=sp) (d:=d) (tr:=tr) (s:=s) (p:=p) (t:=t) (ev:=ev) (tp:=ptv tp) (wt:=x.w) (st:=x.st) hX2 hc32 oQ oe inferInstance hK2 (Ks p K) (.slice (some ⟨q,0,none⟩) 256 256) Y oQ
   refine W.k ?_
   rw [hdv]
   refine W.cq hci ?_ (hpre:=fun w2 hs=>Rd.own (Hc:=[]) hT2 hs inferInstance)
   by_cases hin:K/32∈T0
   ·rw [if_pos hin] at hTs
    rw [decide_eq_true hin]
    rw [← hTs] at hT2
    refine W.k ?_
    (refine SW.l [8,10] [0,1,2,3,4,5,6,7,9] ?_;refine bO 8 ?_)
    refine W.cq hsa ?_
    (refine bC [] ?_;refine bO 10 ?_)
    refine dV ((lb,cl [xv] 228)::(sb,cl [ptv sp] 22)::(sp,cl (fT d tr s bk p t ev (ptv tp) x.w x.st) 98)::(HX++Hk)) rfl rfl rfl rfl rfl rfl hlc (fun w2 hs=>Rd.own (Hc:=(lb,cl [xv] 228)::(sb,cl [ptv sp] 22)::(sp,cl (fT d tr s bk p t ev (ptv tp) x.w x.st) 98)::(HX++Hk)) hq hs inferInstance) ?_
    rintro _ _ ⟨rfl,xv2,HX2,Hk2,hX3,hK3,rfl⟩
    have oX2:=hX3.isOne
    rw [← hAs] at hX3
    (refine bC [] ?_;refine SS.dn ?_)
    refine W.k ?_
    refine aQ.mk ⟨k+1,Lv2,us2++[.slice (some ⟨q,0,none⟩) 256 256],tv,xv2,β2.add (fJ (Ks p K) Y),HL2,HT,HX2,Hk2,Hs3,HQ2++[(q,cl (cbs Y) 5)]⟩ ?_
    exact⟨hkn,hL3,hR3,hT2,hX3,hK3,hS3⟩
   ·rw [if_neg hin] at hTs
    rw [decide_eq_false hin]
    have hb26:bX (fun i=>some (i*1,1)) (zs [.int .i64 0] 1) [(0,.int .i64 ((K/32:Nat):Int))]=some (nv [K/32]):=rfl
    refine W.k fun b_=>?_
    refine W.ap hT2 (ys:=nv [K/32]) (mm:=1) (fun w2 hs=>(Sl.own 3 1 b_ (xs:=nv [K/32]) rfl).srcAt hs inferInstance) (fun tv2 HT2 hT3=>?_) (hys:=rfl) (hbytes:=by simp;omega)
    have oT2:=hT3.isOne
    rw [← aV,← hTs] at hT3
    refine W.k ?_
    rw [show (chC sp (c.toNat:Int) Lv2 (.slice none 0 0) (.slice (some ⟨nb,0,none⟩) x.es.length ncap) tv (ptv tp2) rgz).set 5 tv2=chC sp (c.toNat:Int) Lv2 (.slice none 0 0) (.slice (some ⟨nb,0,none⟩) x.es.length ncap) tv2 (ptv tp2) rgz from rfl]
    (refine SW.l [8,10] [0,1,2,3,4,5,6,7,9] ?_;refine bO 8 ?_)
    refine W.cq hsa ?_
    (refine bC [] ?_;refine bO 10 ?_)
    refine dV ((lb,cl [xv] 228)::(sb,cl [ptv sp] 22)::(sp,cl (fT d tr s bk p t ev (ptv tp) x.w x.st) 98)::(HX++Hk)) rfl rfl rfl rfl rfl rfl hlc (fun w2 hs=>Rd.own (Hc:=(lb,cl [xv] 228)::(sb,cl [ptv sp] 22)::(sp,cl (fT d tr s bk p t ev (ptv tp) x.w x.st) 98)::(HX++Hk)) hq hs inferInstance) ?_
    rintro _ _ ⟨rfl,xv2,HX2,Hk2,hX3,hK3,rfl⟩
    have oX2:=hX3.isOne
    rw [← hAs] at hX3
    (refine bC [] ?_;refine SS.dn ?_)
    refine W.k ?_
    refine aQ.mk ⟨k+1,Lv2,us2++[.slice (some ⟨q,0,none⟩) 256 256],tv2,xv2,β2.add (fJ (Ks p K) Y),HL2,HT2,HX2,Hk2,Hs3,HQ2++[(q,cl (cbs Y) 5)]⟩ ?_
    exact⟨hkn,hL3,hR3,hT3,hX3,hK3,hS3⟩
  ·have hkl:k=l.length:=oQ
   rw [hkl,bN] at hL2 hR2 hT2 hX2 hS2 ⊢
   subst hkl
   refine W.k ?_
   refine bT.mk ⟨l.length,Lv,us2,tv,xv,β2,HL,HT,HX,Hk,Hs,HQ2⟩ ?_
   exact⟨hL2,hR2,hT2,hX2,hK2,hS2⟩
 rintro⟨k,Lv,us2,tv,xv,β2,HL,HT,HX,Hk,Hs,HQ2⟩ ⟨hL2,hR2,hT2,hX2,hK2,hS2⟩
 dsimp only at hL2 hR2 hT2 hX2 hK2 hS2 ⊢
 have oL:=hL2.isOne
 have oT:=hT2.isOne
 have oX:=hX2.isOne
 obtain⟨ta,tl,tc2,rfl,htl⟩:=hT2.form
 rw [Nat.mul_one,aD] at htl
 subst htl
 have hEl2:=lG c l x.es
 have hcA:=aAa p (dH X c l)
 have hcAl:(lP p (dH X c l)).length=l.length:=by unfold lP;rw [aD,oE]
 rw [hchgE] at hchg ⊢
 have hN:Sl 33 1 (.slice (some ⟨nb,0,none⟩) x.es.length ncap) (uv (dL c x.es l)) [(nb,cl (uv (dL c x.es l)++njunk) 33)]:=.inr ⟨nb,x.es.length,ncap,njunk,rfl,by rw [eR,hEl2,Nat.mul_one],hnj,hnc,rfl⟩
 have hlog:pB c (dH X c l)=lJ c (dH X c l)::(dH X c l).map Prod.snd:=rfl
 rw [hlog]
 clear hlog hchgE htabs hSp hall
 generalize dL c x.es l=E2 at *
 generalize dH X c l=L2 at *
 generalize aBx c l sr=Q2 at *
 refine W.j ?_
 refine bQ [2,6,7] ((lb,cl [xv] 228)::(HX++Hk)) (fun _:Value×Bk×Hp×Hp=>[]) (fun y=>(lb,cl [y.1] 228)::(y.2.2.1++y.2.2.2)) (fun y=>Sl 230 33 y.1 (nU (lP p L2++oR E2 (cZ l))) y.2.2.1∧eV bk tb y.2.1 y.2.2.2) ?_ ?_
 ·refine W.k ?_
  refine bF [2,6,7,8,137,138] (fun y:Nat×Value×Bk×Hp×Hp=>[(139,.int .i64 (y.1:Int))]) (fun y=>(lb,cl [y.2.1] 228)::(y.2.2.2.1++y.2.2.2.2)) (fun y=>(cZ l).length-y.1) (fun y=>y.1≤(cZ l).length∧Sl 230 33 y.2.1 (nU (lP p L2++oR E2 ((cZ l).take y.1))) y.2.2.2.1∧eV bk tb y.2.2.1 y.2.2.2.2) (0,xv,β2,HX,Hk) ⟨Nat.zero_le _,by rw [cT];show Sl _ _ _ (nU (lP p L2++[])) _;rw [aH];exact hX2,hK2⟩ ?_
  rintro⟨k,xv,β2,HX,Hk⟩ ⟨hk,hX2,hK2⟩
  dsimp only at hk hX2 hK2 ⊢
  have oX:=hX2.isOne
  by_cases hkn:k<(cZ l).length
  ·rcases hT2 with ⟨hz,hz2,-⟩|⟨qb,qlen,qcap,qjunk,hz,hqxl,hqj,hqc,rfl⟩
   ·simp only [Value.slice.injEq] at hz;omega
   simp only [Value.slice.injEq] at hz
   obtain⟨rfl,rfl,rfl⟩:=hz
   have hx0:=aA hkn
   have hlu:(nv (cZ l)++qjunk)[k]?=some (.int .i64 (((cZ l)[k]:Nat):Int)):=by
    rw [aL (by rw [aD];exact hkn),aJ,hx0];rfl
   have hlt:=htlt _ (cE hkn)
   have htk:(cZ l).take (k+1)=(cZ l).take k++[(cZ l)[k]]:=by rw [aZ,hx0];rfl
   have hBs:=aDi E2 ((cZ l).take k) (cZ l)[k]
   rw [← htk] at hBs
   have hcl:(lP p L2++oR E2 ((cZ l).take k)).length≤1000:=by unfold oR;rw [aB,hcAl,aD,aG];omega
   have hc32:∀ y∈lP p L2++oR E2 ((cZ l).take k),y.2.length=32:=fun y hy=>by
    rcases bK.1 hy with h|h
    ·exact hcA y h
    ·exact aD4 _ _ y h
   have hBs2:(lP p L2++oR E2 ((cZ l).take k))++[(((1+(cZ l)[k]:Nat):Int),Sha.sum (fJ (1+(cZ l)[k]) (epB (cZ l)[k] E2)))]=lP p L2++oR E2 ((cZ l).take (k+1)):=by rw [hBs,aM]
   clear hBs htk
   generalize lP p L2++oR E2 ((cZ l).take k)=Z0 at *
   generalize (cZ l)[k]=q at *
   have hsb:=aAB h q hlt (.slice (some ⟨nb,0,none⟩) x.es.length ncap) E2 oQ
   have hea:=uW h (q:Int)
   rw [show Gm.atK (Gm.epochs p) 1 (q:Int)=((1+q:Nat):Int) by unfold Gm.atK;rw [if_pos oQ];omega] at hea
   refine W.k ?_
   (refine SW.l [10] [0,1,2,3,4,5,6,7,8,9] ?_;refine bO 10 ?_)
   refine aF hsb ?_ (hpre:=fun w2 hs=>Rd.own (Hc:=[]) hN hs inferInstance)
   rintro _ _ ⟨b5,rfl,rfl⟩
   have h5:Sl 5 1 (.slice (some ⟨b5,0,none⟩) 256 256) (cbs (epB q E2)) [(b5,cl (cbs (epB q E2)) 5)]:=Sl.own _ _ _ (len:=256) (by rw [aI,nA])
   have hlc:=aHs (lb:=lb) (sb:=sb) (sp:=sp) (d:=d) (tr:=tr) (s:=s) (p:=p) (t:=t) (ev:=ev) (tp:=ptv tp) (wt:=x.w) (st:=x.st) hX2 hc32 hcl oe inferInstance hK2 (1+q) (.slice (some ⟨b5,0,none⟩) 256 256) (epB q E2) (by rw [nA];decide)
   rw [hBs2] at hlc
   generalize epB q E2=eb5 at *
   (refine SL.l [11,12,13,14,15,16] ?_)
   refine W.k ?_
   refine W.cw hea ?_
   refine dV ((lb,cl [xv] 228)::(sb,cl [ptv sp] 22)::(sp,cl (fT d tr s bk p t ev (ptv tp) x.w x.st) 98)::(HX++Hk)) rfl rfl rfl rfl rfl rfl hlc (fun w2 hs=>Rd.own (Hc:=(lb,cl [xv] 228)::(sb,cl [ptv sp] 22)::(sp,cl (fT d tr s bk p t ev (ptv tp) x.w x.st) 98)::(HX++Hk)) h5 hs inferInstance) ?_
   rintro _ _ ⟨rfl,xv2,HX2,Hk2,hX3,hK3,rfl⟩
   have oX2:=hX3.isOne
   refine W.k ?_
   refine aQ.mk (k+1,xv2,β2.add (fJ (1+q) eb5),HX2,Hk2) ?_
   exact⟨hkn,hX3,hK3⟩
  ·have hkl:k=(cZ l).length:=oQ
   rw [hkl,bN] at hX2
   subst hkl
   refine W.k ?_
   refine bT.mk (xv,β2,HX,Hk) ?_
   exact⟨hX2,hK2⟩
 rintro⟨xv,β2,HX,Hk⟩ ⟨hX2,hK2⟩
 dsimp only at hX2 hK2 ⊢
 have oX:=hX2.isOne
 have hen:=aI2 h c Lv us2 L2 hR2 hm2
 have hse:=aOP hTc hK2 hx.d oQ oQ (lP p L2++oR E2 (cZ l)) hchg.1 oQ (by rw [hlvl];exact hchg.2.1) xv
 have hV32:=sY hx.d (lP p L2++oR E2 (cZ l)) hchg.1
 have hVl:=qP x.lv (lP p L2++oR E2 (cZ l))
 generalize jE x.lv (lP p L2++oR E2 (cZ l))=V at *
 have hrl:(fU V).length=32:=Sha.sum_len _
 have hbd:bX (fun i=>[(0,1),(1,32)][i]?) ([.int .u64 0]++List.replicate 32 (.int .u8 0)) [(0,.int .u64 (c.toNat:Int)),(1,dgV (fU V))]=some (rgc ⟨(c.toNat:Int),fU V⟩):=aB4 _ hrl
 refine W.k ?_
 (refine SW.l [9] [0,1,2,3,4,5,6,7,8] ?_;refine bO 9 ?_)
 refine aF hen ?_ (hpre:=fun w2 hs=>Rd.own (Hc:=HQ2) hL2 hs inferInstance)
 rintro _ _ ⟨bv,HB,rfl,hB,rfl⟩
 have oB:=hB.one
 (refine SL.l [10,11,12,13,14,15] ?_)
 refine W.k ?_
 rw [show (chC sp (c.toNat:Int) Lv (.slice none 0 0) (.slice (some ⟨nb,0,none⟩) x.es.length ncap) (.slice ta (cZ l).length tc2) (ptv tp2) rgz).set 3 bv=chC sp (c.toNat:Int) Lv bv (.slice (some ⟨nb,0,none⟩) x.es.length ncap) (.slice ta (cZ l).length tc2) (ptv tp2) rgz from rfl]
 (refine SW.l [5] [0,1,2,3,4] ?_;refine bO 5 ?_)
 refine aF hse ?_ (hpre:=fun w2 hs=>Rd.own (Hc:=Htc++Hk) hX2 hs inferInstance)
 rintro _ _ ⟨HTr,Hk2,β3,rfl,rfl,hTr,hK3⟩
 have hro:=aDS hTr hK3 oQ
 (refine SL.l [6,7,8,9,10,11] ?_)
 refine W.k ?_
 (refine SW.l [14] [0,1,2,3,4,5,6,7,8,9] ?_;refine bA 10 ?_)
 refine aF hro ?_
 rintro _ _ ⟨Hk4,rfl,rfl,hK4⟩
 (refine SL.l [11,12,13] ?_;refine bO 14 ?_;refine W.i ?_;refine SS.dn ?_)
 rw [show (chC sp (c.toNat:Int) Lv bv (.slice (some ⟨nb,0,none⟩) x.es.length ncap) (.slice ta (cZ l).length tc2) (ptv tp2) rgz).take 7++rgc ⟨(c.toNat:Int),fU V⟩++(chC sp (c.toNat:Int) Lv bv (.slice (some ⟨nb,0,none⟩) x.es.length ncap) (.slice ta (cZ l).length tc2) (ptv tp2) rgz).drop (7+33)=chC sp (c.toNat:Int) Lv bv (.slice (some ⟨nb,0,none⟩) x.es.length ncap) (.slice ta (cZ l).length tc2) (ptv tp2) ⟨(c.toNat:Int),fU V⟩ from aH _]
 refine W.k ?_
 refine Fin.to ((cb,cl (chC sp (c.toNat:Int) Lv bv (.slice (some ⟨nb,0,none⟩) x.es.length ncap) (.slice ta (cZ l).length tc2) (ptv tp2) ⟨(c.toNat:Int),fU V⟩) 227)::(sp,cl (fT d tr s bk p t ev (ptv tp) x.w x.st) 98)::(tr,cl (trc d r) 201)::(He++(Ht++(Hk4++(Hs++(HL++(HQ2++(HB++([(nb,cl (uv E2++njunk) 33)]++(HT++HTr)))))))))) ?_
 exact F.f2 ⟨cb,Lv,bv,_,_,tp2,us2,_,HL,HQ2,HB,_,HT,HTr,Hk4,Hs,rfl,hL2,hR2,hB,hN,hT2,hTr,hK4,hS2,rfl⟩
theorem aAu(g:Rg)(y:Dv×Rg):(kB g y).2.1.ws.length=y.1.ws.length:=by
 show (sE _ _ _).ws.length=_
 unfold sE
 split
 ·rfl
 ·split
  ·rfl
  ·exact aJG _
theorem aFC{p t:Nat}{r:Rg}{x:So}{l:List Ent}(h:lQ p t r x l=0)(hl:l≠[]):x.st=0∧r.c≠18446744073709551615∧gH p t l=true:=by
 unfold lQ at h
 split at h
 ·contradiction
 ·rename_i h0
  split at h
  ·cases h
  ·split at h
   ·cases h
   ·rename_i h1
    split at h
    ·cases h
    ·rename_i h2
     split at h
     ·cases h
     ·rename_i h3
      refine⟨Decidable.not_not.1 h0,h1,?_⟩
      have h4:mR p (-1) l=true:=by
       cases hh:mR p (-1) l
       ·exact absurd ⟨hl,hh⟩ h3
       ·rfl
      have h5:1≤l.length:=by
       cases l with
       | nil=>exact absurd rfl hl
       | cons y l=>simp
      unfold gH
      rw [h4,decide_eq_true (show 1≤l.length∧l.length≤t by omega)]
      rfl
section
variable {p:Nat}{c:UInt64}{l:List Ent}{σ σ1 σ2 σ3 σ4:Dv}{r r2:Rg}{x:So}{e:Int}{es:List UInt64}{lv:List (List UInt8)}
theorem aAb(hes:dL c x.es l=es)(hlv:jE x.lv (oH p es l)=lv)(ha:((nV p c l).t.and (kB ⟨(c.toNat:Int),fU lv⟩)) (σ,r)=(e,σ1,r2))(he:e≠0):kO p c l (σ,r,x)=(e,σ1,r2,{ x with st:=8 }):=by
 unfold kO
 dsimp only
 simp only [hes,hlv,ha]
 rw [if_pos he]
theorem xC(hes:dL c x.es l=es)(hlv:jE x.lv (oH p es l)=lv)(ha:((nV p c l).t.and (kB ⟨(c.toNat:Int),fU lv⟩)) (σ,r)=(0,σ1,r2))(hb:((uY p es l).and (gB (Gm.leaves p) (1+l.length))) σ1=(e,σ2)):kO p c l (σ,r,x)=(e,σ2,r2,⟨es,lv,x.w,if e=0 then x.st else 8⟩):=by
 unfold kO
 dsimp only
 simp only [hes,hlv,ha,hb]
 rw [if_neg (fun hh=>hh rfl)]
 by_cases he:e=0
 ·rw [if_neg (fun hh=>hh he),if_pos he,he]
 ·rw [if_pos he,if_neg he]
theorem aIW{f:DS}(h:f σ=(e,σ1)):f.t (σ,r)=(e,σ1,r):=by
 unfold DS.t
 dsimp only
 rw [h]
theorem aGp(h:nV p c l σ=(e,σ1))(he:e≠0):kO p c l (σ,r,x)=(e,σ1,r,{ x with st:=8 }):=
 aAb rfl rfl (by rw [TS.and_ne (by rw [aIW h];exact he)];exact aIW h) he
theorem aJB(hes:dL c x.es l=es)(hlv:jE x.lv (oH p es l)=lv)(h:nV p c l σ=(0,σ1))(h1:kB ⟨(c.toNat:Int),fU lv⟩ (σ1,r)=(e,σ2,r2))(he:e≠0):kO p c l (σ,r,x)=(e,σ2,r2,{ x with st:=8 }):=
 aAb hes hlv (by rw [TS.and_eq (aIW h)];exact h1) he
theorem aJC(hes:dL c x.es l=es)(hlv:jE x.lv (oH p es l)=lv)(h:nV p c l σ=(0,σ1))(h1:kB ⟨(c.toNat:Int),fU lv⟩ (σ1,r)=(0,σ2,r2))(h2:uY p es l σ2=(e,σ3))(he:e≠0):kO p c l (σ,r,x)=(e,σ3,r2,⟨es,lv,x.w,8⟩):=by
 have hb:((uY p es l).and (gB (Gm.leaves p) (1+l.length))) σ2=(e,σ3):=by
  rw [DS.and_ne (by rw [h2];exact he)]
  exact h2
 rw [xC hes hlv (by rw [TS.and_eq (aIW h)];exact h1) hb,if_neg he]
theorem aJD(hes:dL c x.es l=es)(hlv:jE x.lv (oH p es l)=lv)(h:nV p c l σ=(0,σ1))(h1:kB ⟨(c.toNat:Int),fU lv⟩ (σ1,r)=(0,σ2,r2))(h2:uY p es l σ2=(0,σ3))(h3:gB (Gm.leaves p) (1+l.length) σ3=(e,σ4)):kO p c l (σ,r,x)=(e,σ4,r2,⟨es,lv,x.w,if e=0 then x.st else 8⟩):=
 xC hes hlv (by rw [TS.and_eq (aIW h)];exact h1) (by rw [DS.and_eq h2];exact h3)
end
def aFt(p t:Nat)(r:Rg)(x:So)(l:List Ent)(sr:Sr):Sr:=
 if lQ p t r x l≠0 then sr else if l=[] then sr else aBx (UInt64.ofNat (r.c+1).toNat) l sr
structure KS where
 k:Nat
 σ:Dv
 r:Rg
 ev:Value
 tv:Value
 Hd:Hp
theorem aDE{sp d tr s bk tb p t c0 b0 n:Nat}{ws:List (List UInt8)}{sr:Sr}(h:Gm.Ok p t){σ:Dv}{x:So}(hx:x.Ok p){r:Rg}(hr:r.Ok){β:Bk}{Hd HS Hk Hs HE HQ:Hp}(hD:fD d σ Hd)(h8:σ.ws.length%8=0)(hS:qS sp d tr s bk p t x HS)(hK:eV bk tb β Hk)(hSe:lU s c0 b0 n ws sr Hs)(hKo:kS n ws){lv:Value}{us:List Value}{l:List Ent}(hL:Sl 136 2 lv (eD us l) HE)(hR:RB HQ us (l.map Prod.snd))(hn:l.length≤1000000){X:UInt64→Nat→List UInt8→List UInt8}(hXX:dM (Aes.enc ws n)=X) :
  Tri prog 15 [ptv sp,lv] ((tr,cl (trc d r) 201)::(HS++(Hd++(Hs++(Hk++(HE++HQ)))))) (fun _=>True)
  (fun v H=>∃ Hd' HS' Hs' Hk' β',v=.int .i64 (cmS p t X l (σ,r,x)).1∧fD d (cmS p t X l (σ,r,x)).2.1 Hd'∧qS sp d tr s bk p t (cmS p t X l (σ,r,x)).2.2.2 HS'∧eV bk tb β' Hk'∧lU s c0 b0 n ws (aFt p t r x l sr) Hs' ∧
   H=(tr,cl (trc d (cmS p t X l (σ,r,x)).2.2.1) 201)::(HS'++(Hd'++(Hs'++(Hk'++(HE++HQ)))))):=by
 obtain⟨ev,tp,He,Ht,rfl,hE,hT⟩:=hS
 refine Tri.mk func15 rfl ntmps15 rfl fun w hw=>?_
 have oe:=hE.isOne
 have hul:us.length=l.length:=by rw [hR.1,aD]
 have hel2:=fI us l hul
 have hmay:=aOp (sp:=sp) (d:=d) (tr:=tr) (s:=s) (bk:=bk) h (x:=x) hr oe (show One (ptv tp) from inferInstance) lv us l hR.le hn
 have hcm:cmS p t X l (σ,r,x)=if lQ p t r x l≠0 then (lQ p t r x l,(σ,r,x)) else if l=[] then (0,(σ,r,x)) else kO p (UInt64.ofNat (r.c+1).toNat) (dH X (UInt64.ofNat (r.c+1).toNat) l) (σ,r,x):=rfl
 have hsr:aFt p t r x l sr=if lQ p t r x l≠0 then sr else if l=[] then sr else aBx (UInt64.ofNat (r.c+1).toNat) l sr:=rfl
 have hyes:=aFC (p:=p) (t:=t) (r:=r) (x:=x) (l:=l)
 obtain⟨la,ll,lc,rfl,hlf⟩:=hL.form
 rw [hel2] at hlf
 obtain rfl:ll=l.length:=by omega
 rw [hcm,hsr]
 clear hcm hsr
 generalize lQ p t r x l=m at *
 by_cases h0:m≠0
 ·rw [if_pos h0,if_pos h0]
  refine W.k ?_
  refine W.cw hmay ?_ (hpre:=fun w2 hs=>Rd.own (Hc:=[(sp,cl (fT d tr s bk p t ev (ptv tp) x.w x.st) 98),(tr,cl (trc d r) 201)]) hL hs inferInstance)
  refine Fin.to ((tr,cl (trc d r) 201)::(((sp,cl (fT d tr s bk p t ev (ptv tp) x.w x.st) 98)::(He++Ht))++(Hd++(Hs++(Hk++(HE++HQ)))))) ?_
  exact F.f1 ⟨Hd,_,Hs,Hk,β,rfl,hD,⟨ev,tp,He,Ht,rfl,hE,hT⟩,hK,hSe,rfl⟩
 rw [if_neg h0,if_neg h0]
 obtain rfl:m=0:=Decidable.not_not.1 h0
 by_cases hl0:l.length=0
 ·have hl00:l=[]:=bJ hl0
  rw [if_pos hl00,if_pos hl00]
  refine W.k ?_
  refine W.cw hmay ?_ (hpre:=fun w2 hs=>Rd.own (Hc:=[(sp,cl (fT d tr s bk p t ev (ptv tp) x.w x.st) 98),(tr,cl (trc d r) 201)]) hL hs inferInstance)
  refine Fin.to ((tr,cl (trc d r) 201)::(((sp,cl (fT d tr s bk p t ev (ptv tp) x.w x.st) 98)::(He++Ht))++(Hd++(Hs++(Hk++(HE++HQ)))))) ?_
  exact F.f1 ⟨Hd,_,Hs,Hk,β,rfl,hD,⟨ev,tp,He,Ht,rfl,hE,hT⟩,hK,hSe,rfl⟩
 have hl00:l≠[]:=fun e=>hl0 (by rw [e];rfl)
 rw [if_neg hl00,if_neg hl00]
 obtain⟨hst,hrc,hm⟩:=hyes rfl hl00
 obtain⟨hl1,hall⟩:=aAk hm
 have ht:=h.2.2.2
 have hc0:=hr.c0
 have hc1:=hr.c1
 have hcc:((UInt64.ofNat (r.c+1).toNat).toNat:Int)=r.c+1:=by rw [aW];omega
 generalize UInt64.ofNat (r.c+1).toNat=c at *
 rcases hL with ⟨hz,hz2,-⟩|⟨eb,elen,ecap,ejunk,hz,hexl,hej,hec,rfl⟩
 ·rw [hz2] at hel2;simp at hel2;omega
 simp only [Value.slice.injEq] at hz
 obtain⟨rfl,rfl,rfl⟩:=hz
 have hL1:Sl 136 2 (.slice (some ⟨eb,0,none⟩) l.length lc) (eD us l) [(eb,cl (eD us l++ejunk) 136)]:=.inr ⟨eb,l.length,lc,ejunk,rfl,hexl,hej,hec,rfl⟩
 refine W.k ?_
 refine W.cq hmay ?_ (hpre:=fun w2 hs=>Rd.own (Hc:=[(sp,cl (fT d tr s bk p t ev (ptv tp) x.w x.st) 98),(tr,cl (trc d r) 201)]) hL1 hs inferInstance)
 refine W.j fun b_=>?_
 generalize b_=ob
 have hO0:Sl 136 2 (.slice (some ⟨ob,0,none⟩) 0 l.length) (eD [] []) [(ob,cl (zs [.int .i64 0,.slice none 0 0] l.length) 136)]:=.inr ⟨ob,0,l.length,zs [.int .i64 0,.slice none 0 0] l.length,rfl,rfl,by rw [aBj];simp,Nat.zero_le _,rfl⟩
 refine bQ [0] [(ob,cl (zs [.int .i64 0,.slice none 0 0] l.length) 136)] (fun y:Value×List Value×Hp×Hp=>[(6,y.1)]) (fun y=>y.2.2.1++y.2.2.2) (fun y=>Sl 136 2 y.1 (eD y.2.1 l) y.2.2.1∧RB y.2.2.2 y.2.1 (l.map Prod.snd)) ?_ ?_
 ·refine W.k ?_
  refine bF [0,28,29] (fun y:Nat×Value×List Value×Hp×Hp=>[(6,y.2.1),(30,.int .i64 (y.1:Int))]) (fun y=>y.2.2.2.1++y.2.2.2.2) (fun y=>l.length-y.1) (fun y=>y.1≤l.length∧Sl 136 2 y.2.1 (eD y.2.2.1 (l.take y.1)) y.2.2.2.1∧RB y.2.2.2.2 y.2.2.1 ((l.take y.1).map Prod.snd)) (0,.slice (some ⟨ob,0,none⟩) 0 l.length,[],[(ob,cl (zs [.int .i64 0,.slice none 0 0] l.length) 136)],[]) ⟨Nat.zero_le _,hO0,RB.nil _⟩ ?_
  rintro⟨k,ov,us2,HO,HQ2⟩ ⟨hk,hO,hR2⟩
  dsimp only at hk hO hR2 ⊢
  have oO:=hO.isOne
  by_cases hkn:k<l.length
  ·have hx0:=aA hkn
   obtain⟨u,huk,hru⟩:=hR.2 k l[k].2 (by rw [aJ,hx0];rfl)
   have hrow:=uS (junk:=ejunk) hul huk hx0
   obtain⟨hx1,hx2,hx3⟩:=hall k _ hx0
   have htk:l.take (k+1)=l.take k++[l[k]]:=by rw [aZ,hx0];rfl
   have htkl:(l.take k).length=k:=by rw [aG];omega
   have hul2:us2.length=(l.take k).length:=by rw [hR2.1,aD]
   have hecl:=fI us2 _ hul2
   have huo:=hru.one
   have hcl:=wZ u l[k].2 oQ
   have hLs:=fun v=>kA hul2 v l[k]
   rw [← htk] at hLs
   generalize l[k]=z at *
   refine W.k fun b_=>?_
   generalize b_=eb2
   (refine SW.l [7,8] [0,1,2,3,4] ?_;refine bA 5 ?_)
   refine aF hcl ?_ (hpre:=fun w2 hs=>hru.rd (Hc:=[]) hs)
   intro v1 H1 h1
   have h11:=h1.isOne
   have hRd:=RdH.of h1
   obtain⟨a1,n1,c1,rfl,-⟩:=h1.form
   (refine SL.l [6] ?_;refine bO 7 ?_)
   refine iS (fun b7=>?_) (hr:=aB3 ..)
   (refine bC [] ?_;refine bO 8 ?_)
   refine W.ap (ys:=[.int .i64 z.1,.slice a1 n1 c1]) (mm:=1) hO (fun w2 hs=>(Sl.own 136 2 b7 (len:=1) (xs:=[.int .i64 z.1,.slice a1 n1 c1]) rfl).srcAt hs inferInstance) (fun ov2 HO2 hO2=>?_) (hys:=rfl) (hbytes:=by rw [hecl,htkl];simp;omega)
   have oO2:=hO2.isOne
   rw [← hLs] at hO2
   have hR3:RB (HQ2++H1) (us2++[.slice a1 n1 c1]) ((l.take (k+1)).map Prod.snd):=by
    rw [htk,aV]
    exact (hR2.mono fun y hy=>aO _ hy).snoc (hRd.mono fun y hy=>aN _ hy)
   (refine SL.l [9,10] ?_)
   refine W.k ?_
   refine aQ.mk (k+1,ov2,us2++[.slice a1 n1 c1],HO2,HQ2++H1) ?_
   exact⟨hkn,hO2,hR3⟩
  ·have hkl:k=l.length:=oQ
   rw [hkl,bN] at hO hR2
   subst hkl
   refine W.k ?_
   refine bT.mk (ov,us2,HO,HQ2) ?_
   exact⟨hO,hR2⟩
 rintro⟨ov,us2,HO,HQ2⟩ ⟨hO,hR2⟩
 dsimp only at hO hR2 ⊢
 have oO:=hO.isOne
 have hch:=aIe (sp:=sp) (tr:=tr) (d:=d) h hx hr oQ hE hT hK hSe hKo hO hR2 hm hcc hXX
 have hX1:∀ e k b,(X e k b).length=b.length:=fun e k b=>by rw [← hXX];exact mQ (fun y=>Aes.enc_len ..) ..
 have hm2:gH p t (dH X c l)=true:=by rw [wX hX1];exact hm
 have htb:=aCT X c l
 have hre:=aDz X c c l x.es
 have hsl:=oE X c l
 have hchg:=aBD h (dL c x.es l) hm2
 have hV32:=sY hx.d (oH p (dL c x.es l) (dH X c l)) hchg.1
 clear hchg
 refine W.k ?_
 refine aF hch ?_
 clear hch
 rintro _ _ ⟨cp,Lv,bv,nx,tv,tp2,us3,β2,HL2,HQ3,HB,HN,HT2,HTr,Hk2,Hs2,rfl,hL2,hR3,hB,hN,hT2,hTr,hK2,hS2,rfl⟩
 rw [← htb] at hT2
 have hes2:(dL c x.es l).length=Gm.sealed p:=by rw [lG];exact hx.es
 generalize hLL:dH X c l=L2 at *
 generalize hEE:dL c x.es l=E2 at *
 generalize hVV:jE x.lv (oH p E2 L2)=lvN at *
 have oL2:=hL2.isOne
 have oB:=hB.one
 have oN:=hN.isOne
 have oT2:=hT2.isOne
 have hg:(⟨(c.toNat:Int),fU lvN⟩:Rg).Ok:=⟨Sha.sum_len _,by show 0≤(c.toNat:Int);omega,by show (c.toNat:Int)≤_;omega⟩
 have hsd:=fun (ev tv:Value) (o0:One ev) (o1:One tv) (e:Int)=>aHO (sp:=sp) (d:=d) (tr:=tr) (s:=s) (bk:=bk) (p:=p) (t:=t) (wr:=x.w) (st:=x.st) (e:=e) o0 o1
 have hL2l:L2.length≤t:=oQ
 have hbl:(pB c L2).length=1+L2.length:=by unfold pB;rw [aX,aD];omega
 have hb256:∀ b∈pB c L2,b.length=256:=fun b hb=>by
  unfold pB at hb
  rcases bZ.1 hb with rfl|hb
  ·exact rG _ _
  ·obtain⟨y,hy,rfl⟩:=bH.1 hb
   obtain⟨i,hi⟩:=cC.1 hy
   exact rW hm2 i y hi
 refine W.j fun b_=>?_
 generalize b_=fb
 refine bQ [0] ((sp,cl (fT d tr s bk p t ev (ptv tp) x.w x.st) 98)::(tr,cl (trc d r) 201)::Hd) (fun _:KS=>[]) (fun y=>(sp,cl (fT d tr s bk p t y.ev y.tv x.w x.st) 98)::(tr,cl (trc d y.r) 201)::y.Hd)
  (fun y=>kO p c L2 (σ,r,x)=(0,y.σ,y.r,⟨E2,lvN,x.w,x.st⟩)∧nx=y.ev∧ptv tp2=y.tv∧fD d y.σ y.Hd) ?_ ?_
 ·refine W.k ?_
  refine bF [0,61,62] (fun y:KS=>[(63,.int .i64 (y.k:Int))]) (fun y=>(sp,cl (fT d tr s bk p t y.ev y.tv x.w x.st) 98)::(tr,cl (trc d y.r) 201)::y.Hd) (fun y=>4-y.k)
   (fun y=>(y.k=0∧y.σ=σ∧y.r=r∧y.ev=ev∧y.tv=ptv tp∧fD d y.σ y.Hd) ∨
    (y.k=1∧nV p c L2 σ=(0,y.σ)∧y.r=r∧y.ev=ev∧y.tv=ptv tp∧fD d y.σ y.Hd) ∨
    (y.k=2∧(∃ σ1,nV p c L2 σ=(0,σ1)∧kB ⟨(c.toNat:Int),fU lvN⟩ (σ1,r)=(0,y.σ,y.r))∧nx=y.ev∧ptv tp2=y.tv∧fD d y.σ y.Hd) ∨
    (y.k=3∧(∃ σ1 σ2,nV p c L2 σ=(0,σ1)∧kB ⟨(c.toNat:Int),fU lvN⟩ (σ1,r)=(0,σ2,y.r)∧uY p E2 L2 σ2=(0,y.σ))∧nx=y.ev∧ptv tp2=y.tv∧fD d y.σ y.Hd) ∨
    (y.k=4∧kO p c L2 (σ,r,x)=(0,y.σ,y.r,⟨E2,lvN,x.w,x.st⟩)∧nx=y.ev∧ptv tp2=y.tv∧fD d y.σ y.Hd)) ⟨0,σ,r,ev,ptv tp,Hd⟩ (.inl ⟨rfl,rfl,rfl,rfl,rfl,hD⟩) ?_
  rintro⟨k,σ0,r0,ev0,tv0,Hd0⟩ hI
  dsimp only at hI ⊢
  rcases hI with ⟨rfl,rfl,rfl,rfl,rfl,hD0⟩|⟨rfl,hg1,rfl,rfl,rfl,hD0⟩|⟨rfl,⟨σ1,hg1,hg2⟩,rfl,rfl,hD0⟩|⟨rfl,⟨σ1,σ2,hg1,hg2,hg3⟩,rfl,rfl,hD0⟩|⟨rfl,hdo,rfl,rfl,hD0⟩
  ·have hlg:=aIg (cp:=cp) (sp:=sp) (tr:=tr) (s:=s) (bk:=bk) (cnt:=(c.toNat:Int)) (st:=x.st) (wt:=x.w) (Lv:=Lv) (nv:=nx) (tv:=tv) (tp:=ptv tp2) (ev:=ev0) (tt:=ptv tp) (g:=⟨(c.toNat:Int),fU lvN⟩) h hD0 h8 hB oL2 oN oT2 inferInstance oe inferInstance oQ oQ hb256
   obtain⟨e,σ1,hz⟩:∃ e σ1,nV p c L2 σ0=(e,σ1):=⟨_,_,rfl⟩
   rw [show (putL (fR (Gm.leaves p) (pB c L2))).and feS σ0=(e,σ1) from hz] at hlg
   dsimp only at hlg
   refine W.k ?_
   refine dV ((cp,cl (chC sp (c.toNat:Int) Lv bv nx tv (ptv tp2) ⟨(c.toNat:Int),fU lvN⟩) 227)::(sp,cl (fT d tr s bk p t ev0 (ptv tp) x.w x.st) 98)::(Hd0++HB)) rfl rfl rfl rfl rfl rfl hlg (fun _ _=>trivial) ?_
   rintro _ _ ⟨rfl,Hd1,hD1,rfl⟩
   refine W.k ?_
   refine W.cq (hsd ev0 (ptv tp) oe inferInstance e) ?_
   by_cases he:e=0
   ·subst he
    rw [if_pos rfl]
    refine W.k ?_
    refine aQ.mk ⟨1,σ1,r0,ev0,ptv tp,Hd1⟩ ?_
    exact .inr (.inl ⟨rfl,hz,rfl,rfl,rfl,hD1⟩)
   ·have hdo:=aGp (r:=r0) (x:=x) hz he
    rw [hdo,if_neg he]
    refine W.k ?_
    refine Fin.to ((tr,cl (trc d r0) 201)::(((sp,cl (fT d tr s bk p t ev0 (ptv tp) x.w 8) 98)::(He++Ht))++(Hd1++(Hs2++(Hk2++([(eb,cl (eD us l++ejunk) 136)]++HQ)))))) ?_
    exact F.f1 ⟨Hd1,_,Hs2,Hk2,β2,rfl,hD1,⟨ev0,tp,He,Ht,rfl,hE,hT⟩,hK2,hS2,rfl⟩
  ·have hw1:=aBH p c L2 σ
   rw [hg1] at hw1
   have hct:=aIc (cp:=cp) (sp:=sp) (tr:=tr) (s:=s) (bk:=bk) (p:=p) (t:=t) (cnt:=(c.toNat:Int)) (st:=x.st) (wt:=x.w) (Lv:=Lv) (bv:=bv) (nv:=nx) (tv:=tv) (tp:=ptv tp2) (ev:=ev0) (tt:=ptv tp) (r:=r0) hr hg hD0 oB oL2 oN oT2 inferInstance oe inferInstance
   obtain⟨e,σ2,r2,hz⟩:∃ e σ2 r2,kB ⟨(c.toNat:Int),fU lvN⟩ (σ0,r0)=(e,σ2,r2):=⟨_,_,_,rfl⟩
   rw [hz] at hct
   dsimp only at hct
   refine W.k ?_
   refine dV ((cp,cl (chC sp (c.toNat:Int) Lv bv nx tv (ptv tp2) ⟨(c.toNat:Int),fU lvN⟩) 227)::(sp,cl (fT d tr s bk p t ev0 (ptv tp) x.w x.st) 98)::(tr,cl (trc d r0) 201)::Hd0) rfl rfl rfl rfl rfl rfl hct (fun _ _=>trivial) ?_
   rintro _ _ ⟨rfl,Hd1,hD1,rfl⟩
   by_cases he:e=0
   ·subst he
    rw [if_pos rfl]
    have hsd0:=hsd nx (ptv tp2) oN inferInstance 0
    rw [if_pos rfl] at hsd0
    refine W.k ?_
    refine W.cw hsd0 ?_
    refine aQ.mk ⟨2,σ2,r2,nx,ptv tp2,Hd1⟩ ?_
    exact .inr (.inr (.inl ⟨rfl,⟨σ0,hg1,hz⟩,rfl,rfl,hD1⟩))
   ·have hdo:=aJB (x:=x) hre hVV hg1 hz he
    have hsd0:=hsd ev0 (ptv tp) oe inferInstance e
    rw [if_neg he] at hsd0 ⊢
    refine W.k ?_
    refine W.cq hsd0 ?_
    rw [hdo]
    refine W.k ?_
    refine Fin.to ((tr,cl (trc d r2) 201)::(((sp,cl (fT d tr s bk p t ev0 (ptv tp) x.w 8) 98)::(He++Ht))++(Hd1++(Hs2++(Hk2++([(eb,cl (eD us l++ejunk) 136)]++HQ)))))) ?_
    exact F.f1 ⟨Hd1,_,Hs2,Hk2,β2,rfl,hD1,⟨ev0,tp,He,Ht,rfl,hE,hT⟩,hK2,hS2,rfl⟩
  ·have hw1:=aBH p c L2 σ
   rw [hg1] at hw1
   have hw2:=aAu ⟨(c.toNat:Int),fU lvN⟩ (σ1,r)
   rw [hg2] at hw2
   dsimp only at hw1 hw2
   have hla:=aLu (cp:=cp) (sp:=sp) (tr:=tr) (s:=s) (bk:=bk) (cnt:=(c.toNat:Int)) (st:=x.st) (wt:=x.w) (Lv:=Lv) (bv:=bv) (nx:=nx) (tv:=tv) (tp:=ptv tp2) (ev:=nx) (tt:=ptv tp2) (g:=⟨(c.toNat:Int),fU lvN⟩) h hD0 (by rw [hw2,hw1];exact h8) hm2 hL2 hR3 hN hes2 hT2 oB inferInstance oN inferInstance
   obtain⟨e,σ3,hz⟩:∃ e σ3,uY p E2 L2 σ0=(e,σ3):=⟨_,_,rfl⟩
   rw [hz] at hla
   dsimp only at hla
   refine W.k ?_
   refine dV ((cp,cl (chC sp (c.toNat:Int) Lv bv nx tv (ptv tp2) ⟨(c.toNat:Int),fU lvN⟩) 227)::(sp,cl (fT d tr s bk p t nx (ptv tp2) x.w x.st) 98)::(Hd0++((HL2++HQ3)++(HN++HT2)))) rfl rfl rfl rfl rfl rfl hla (fun _ _=>trivial) ?_
   rintro _ _ ⟨rfl,Hd1,hD1,rfl⟩
   refine W.k ?_
   refine W.cq (hsd nx (ptv tp2) oN inferInstance e) ?_
   by_cases he:e=0
   ·subst he
    rw [if_pos rfl]
    refine W.k ?_
    refine aQ.mk ⟨3,σ3,r0,nx,ptv tp2,Hd1⟩ ?_
    exact .inr (.inr (.inr (.inl ⟨rfl,⟨σ1,σ0,hg1,hg2,hz⟩,rfl,rfl,hD1⟩)))
   ·have hdo:=aJC (x:=x) hre hVV hg1 hg2 hz he
    rw [hdo,if_neg he]
    refine W.k ?_
    refine Fin.to ((tr,cl (trc d r0) 201)::(((sp,cl (fT d tr s bk p t nx (ptv tp2) x.w 8) 98)::(HN++HTr))++(Hd1++(Hs2++(Hk2++([(eb,cl (eD us l++ejunk) 136)]++HQ)))))) ?_
    exact F.f1 ⟨Hd1,_,Hs2,Hk2,β2,rfl,hD1,⟨nx,tp2,HN,HTr,rfl,hN,hTr⟩,hK2,hS2,rfl⟩
  ·have hw1:=aBH p c L2 σ
   rw [hg1] at hw1
   have hw2:=aAu ⟨(c.toNat:Int),fU lvN⟩ (σ1,r)
   rw [hg2] at hw2
   have hw3:=aD9 p E2 L2 σ2
   rw [hg3] at hw3
   dsimp only at hw1 hw2 hw3
   obtain⟨za,zl,zc,hzv,hzl⟩:=hL2.form
   rw [fI us3 L2 (by rw [hR3.1,aD])] at hzl
   obtain rfl:zl=L2.length:=by omega
   have hsc:=aFh (cp:=cp) (sp:=sp) (tr:=tr) (s:=s) (bk:=bk) (st:=x.st) (wt:=x.w) (c:=c) (a:=za) (n:=L2.length) (cap:=zc) (bv:=bv) (nv:=nx) (tv:=tv) (tp:=ptv tp2) (ev:=nx) (tt:=ptv tp2) (g:=⟨(c.toNat:Int),fU lvN⟩) h hD0 (by rw [hw3,hw2,hw1];exact h8) hL2l oB oN oT2 inferInstance oN inferInstance
   rw [← hzv] at hsc
   obtain⟨e,σ4,hz⟩:∃ e σ4,gB (Gm.leaves p) (1+L2.length) σ0=(e,σ4):=⟨_,_,rfl⟩
   rw [hz] at hsc
   dsimp only at hsc
   have hdo:=aJD (x:=x) hre hVV hg1 hg2 hg3 hz
   refine W.k ?_
   refine dV ((cp,cl (chC sp (c.toNat:Int) Lv bv nx tv (ptv tp2) ⟨(c.toNat:Int),fU lvN⟩) 227)::(sp,cl (fT d tr s bk p t nx (ptv tp2) x.w x.st) 98)::Hd0) rfl rfl rfl rfl rfl rfl hsc (fun _ _=>trivial) ?_
   rintro _ _ ⟨rfl,Hd1,hD1,rfl⟩
   refine W.k ?_
   refine W.cq (hsd nx (ptv tp2) oN inferInstance e) ?_
   by_cases he:e=0
   ·subst he
    rw [if_pos rfl] at hdo ⊢
    refine W.k ?_
    refine aQ.mk ⟨4,σ4,r0,nx,ptv tp2,Hd1⟩ ?_
    exact .inr (.inr (.inr (.inr ⟨rfl,hdo,rfl,rfl,hD1⟩)))
   ·rw [if_neg he] at hdo ⊢
    rw [hdo]
    refine W.k ?_
    refine Fin.to ((tr,cl (trc d r0) 201)::(((sp,cl (fT d tr s bk p t nx (ptv tp2) x.w 8) 98)::(HN++HTr))++(Hd1++(Hs2++(Hk2++([(eb,cl (eD us l++ejunk) 136)]++HQ)))))) ?_
    exact F.f1 ⟨Hd1,_,Hs2,Hk2,β2,rfl,hD1,⟨nx,tp2,HN,HTr,rfl,hN,hTr⟩,hK2,hS2,rfl⟩
  ·refine W.k ?_
   refine bT.mk ⟨4,σ0,r0,nx,ptv tp2,Hd0⟩ ?_
   exact⟨hdo,rfl,rfl,hD0⟩
 rintro⟨k,σ0,r0,ev0,tv0,Hd0⟩ ⟨hdo,rfl,rfl,hD0⟩
 dsimp only at hdo hD0 ⊢
 rw [hdo]
 refine W.k ?_
 refine Fin.to ((tr,cl (trc d r0) 201)::(((sp,cl (fT d tr s bk p t nx (ptv tp2) x.w x.st) 98)::(HN++HTr))++(Hd0++(Hs2++(Hk2++([(eb,cl (eD us l++ejunk) 136)]++HQ)))))) ?_
 exact F.f1 ⟨Hd0,_,Hs2,Hk2,β2,rfl,hD0,⟨_,tp2,HN,HTr,rfl,hN,hTr⟩,hK2,hS2,rfl⟩
end
theorem aOu(σ:Dv)(r r':Rg):(qO σ r r'=0∧oI σ r r'=r'∧r.c<r'.c)∨(qO σ r r'≠0∧oI σ r r'=r):=by
 unfold qO oI
 by_cases h1:σ.down=true
 ·rw [if_pos h1,if_pos h1];exact .inr ⟨by decide,rfl⟩
 ·rw [if_neg h1,if_neg h1]
  by_cases h2:r'.c≤r.c
  ·rw [if_pos h2,if_pos h2];exact .inr ⟨by decide,rfl⟩
  ·rw [if_neg h2,if_neg h2]
   by_cases h3:σ.dooE=0
   ·rw [if_pos h3];exact .inl ⟨h3,rfl,by omega⟩
   ·rw [if_neg h3];exact .inr ⟨h3,rfl⟩
theorem xQ(g:Rg)(y:Dv×Rg):((kB g y).1=0∧(kB g y).2.2=g∧y.2.c<g.c)∨((kB g y).1≠0∧(kB g y).2.2=y.2):=aOu y.1 y.2 g
theorem aDg(y:Dv×Rg):((gG y).1=0∧(gG y).2.2={ y.2 with c:=y.2.c+1 })∨((gG y).1≠0∧(gG y).2.2=y.2):=by
 rcases xQ { y.2 with c:=y.2.c+1 } y with ⟨h1,h2,-⟩|h
 ·exact .inl ⟨h1,h2⟩
 ·exact .inr h
theorem aNF(p:Nat)(c:UInt64)(l:List Ent)(σ:Dv)(r g:Rg):(((nV p c l).t.and (kB g)) (σ,r)).2.1.ws.length=σ.ws.length∧((((nV p c l).t.and (kB g)) (σ,r)).1=0∧(((nV p c l).t.and (kB g)) (σ,r)).2.2=g∧r.c<g.c∨(((nV p c l).t.and (kB g)) (σ,r)).1≠0∧(((nV p c l).t.and (kB g)) (σ,r)).2.2=r):=by
 have hw:=aBH p c l σ
 obtain⟨e,σ1,hz⟩:∃ e σ1,nV p c l σ=(e,σ1):=⟨_,_,rfl⟩
 rw [hz] at hw
 have ht:=aIW (r:=r) hz
 by_cases h0:e=0
 ·subst h0
  rw [TS.and_eq ht]
  refine⟨by rw [aAu];exact hw,?_⟩
  rcases xQ g (σ1,r) with h|h
  ·exact .inl h
  ·exact .inr h
 ·rw [TS.and_ne (by rw [ht];exact h0),ht]
  exact⟨hw,.inr ⟨h0,rfl⟩⟩
theorem aJE(p:Nat)(c:UInt64)(l:List Ent)(σ:Dv)(r:Rg)(x:So):∃ e σ' r' s',kO p c l (σ,r,x)=(e,σ',r',s')∧σ'.ws.length=σ.ws.length ∧
  ((r'=r∧s'={ x with st:=8 })∨(r'=⟨(c.toNat:Int),fU (jE x.lv (oH p (dL c x.es l) l))⟩∧r.c<(c.toNat:Int)∧∃ st,s'=⟨dL c x.es l,jE x.lv (oH p (dL c x.es l) l),x.w,st⟩)):=by
 generalize hes:dL c x.es l=es
 generalize hlv:jE x.lv (oH p es l)=lv
 have hk:=aNF p c l σ r ⟨(c.toNat:Int),fU lv⟩
 obtain⟨e,σ1,r2,ha⟩:∃ e σ1 r2,((nV p c l).t.and (kB ⟨(c.toNat:Int),fU lv⟩)) (σ,r)=(e,σ1,r2):=⟨_,_,_,rfl⟩
 rw [ha] at hk
 dsimp only at hk
 obtain⟨hw,⟨rfl,h2,h3⟩|⟨h1,h2⟩⟩:=hk
 ·obtain⟨e2,σ2,hb⟩:∃ e2 σ2,((uY p es l).and (gB (Gm.leaves p) (1+l.length))) σ1=(e2,σ2):=⟨_,_,rfl⟩
  have hw2:=((aD9 p es l).and (aBf (Gm.leaves p) (1+l.length))) σ1
  rw [hb] at hw2
  exact⟨_,_,_,_,xC hes hlv ha hb,hw2.trans hw,.inr ⟨h2,h3,_,rfl⟩⟩
 ·exact⟨_,_,_,_,aAb hes hlv ha h1,hw,.inl ⟨h2,rfl⟩⟩
theorem aNK{p t:Nat}{r:Rg}{x:So}{l:List Ent}(h:lQ p t r x l=0):x.w=true:=by
 unfold lQ at h
 split at h
 ·contradiction
 ·split at h
  ·cases h
  ·rename_i h2
   simpa using h2
theorem aNo{p t:Nat}{X:UInt64→Nat→List UInt8→List UInt8}{l:List Ent}{σ:Dv}{r:Rg}{x:So}(h:lQ p t r x l≠0∨l=[]):∃ e,cmS p t X l (σ,r,x)=(e,(σ,r,x)):=by
 unfold cmS
 dsimp only
 by_cases h0:lQ p t r x l≠0
 ·exact⟨_,if_pos h0⟩
 ·rw [if_neg h0,if_pos (h.resolve_left h0)]
  exact⟨_,rfl⟩
theorem aHe{p t:Nat}{X:UInt64→Nat→List UInt8→List UInt8}{l:List Ent}{σ:Dv}{r:Rg}{x:So}(h:lQ p t r x l=0)(hl:l≠[]):cmS p t X l (σ,r,x)=kO p (UInt64.ofNat (r.c+1).toNat) (dH X (UInt64.ofNat (r.c+1).toNat) l) (σ,r,x):=by
 unfold cmS
 dsimp only
 rw [if_neg (fun hh=>hh h),if_neg hl]
structure Inv(p t:Nat)(σ:Dv)(r:Rg)(o:Option So):Prop where
 len:σ.len=256*Gm.total p t
 r:r.Ok
 o:∀ x,o=some x→x.Ok p
theorem aAY{σ σ':Dv}(h:σ'.ws.length=σ.ws.length):σ'.len=σ.len:=by unfold Dv.len;rw [h]
theorem Inv.w8{p t:Nat}{σ:Dv}{r:Rg}{o:Option So}(h:Inv p t σ r o):σ.ws.length%8=0:=by
 have:=h.len
 unfold Dv.len at this
 omega
structure aCX(r:Rg)(s:Sr)(o:Option So):Prop where
 one:s.twice=none
 le:∀ y∈s.used,(y.1.1.toNat:Int)≤r.c+1
 lt:∀ x,o=some x→x.st=0→x.w=true→∀ y∈s.used,(y.1.1.toNat:Int)≤r.c
theorem Sr.at_none{s:Sr}{x:No}(h:∀ y∈s.used,y.1≠x):s.at x=none:=by
 unfold Sr.at
 rw [List.find?_eq_none.2 fun y hy=>by simpa using fun e=>h y hy e.symm]
 rfl
theorem Sr.hid_new{s:Sr}{x:No}{b:List UInt8}(h:∀ y∈s.used,y.1≠x):s.hid x b=⟨s.used++[(x,b)],s.twice⟩:=by
 unfold Sr.hid
 rw [Sr.at_none h]
theorem aCk(c:UInt64):∀ (l:List (Nat×List UInt8)) (s:Sr),(l.map Prod.fst).Nodup→(∀ x∈l,∀ y∈s.used,y.1≠(c,x.1)) →
  (l.foldl (fun s x=>s.hid (c,x.1) x.2) s).twice=s.twice∧∀ y∈(l.foldl (fun s x=>s.hid (c,x.1) x.2) s).used,y∈s.used∨y.1.1=c
 | [],s,_,_=>⟨rfl,fun y hy=>.inl hy⟩
 | x::l,s,hn,h=>by
  rw [dP,kJ] at hn
  have e:s.hid (c,x.1) x.2=⟨s.used++[((c,x.1),x.2)],s.twice⟩:=Sr.hid_new (h x (by simp))
  have ih:=aCk c l ⟨s.used++[((c,x.1),x.2)],s.twice⟩ hn.2 (fun z hz y hy=>by
   rcases bK.1 hy with hy|hy
   ·exact h z (by simp [hz]) y hy
   ·rw [bU] at hy
    subst hy
    intro e
    exact hn.1 (by rw [show x.1=z.1 from congrArg Prod.snd e];exact List.mem_map_of_mem hz))
  rw [dS,e]
  refine⟨ih.1,fun y hy=>?_⟩
  rcases ih.2 y hy with h1|h1
  ·rcases bK.1 h1 with h1|h1
   ·exact .inl h1
   ·rw [bU] at h1
    subst h1
    exact .inr rfl
  ·exact .inr h1
theorem aIs(c:UInt64)(l:List Ent)(s:Sr):aBx c l s=(l.map fun x=>(x.1.toNat,x.2)).foldl (fun s x=>s.hid (c,x.1) x.2) s:=by
 unfold aBx
 rw [List.foldl_map]
theorem aDZ(s:Sr)(e:UInt64)(n:Nat):kV s e n=((List.range n).map fun k=>(k,List.replicate 256 (0:UInt8))).foldl (fun s x=>s.hid (e,x.1) x.2) s:=by
 unfold kV
 rw [List.foldl_map]
theorem aCq{p:Nat}:∀ {l:List Ent} {a:Int},-1≤a→mR p a l=true→(l.map fun x=>x.1.toNat).Nodup∧∀ x∈l,a<x.1
 | [],_,_,_=>⟨oK,by simp⟩
 | x::l,a,ha,h=>by
  unfold mR at h
  rw [bM,decide_eq_true_iff] at h
  obtain⟨h1,h2⟩:=aCq (p:=p) (l:=l) (a:=x.1) oQ h.2
  refine⟨?_,fun y hy=>?_⟩
  ·rw [dP,kJ]
   refine⟨fun hm=>?_,h1⟩
   obtain⟨y,hy,e⟩:=bH.1 hm
   have:=h2 y hy
   omega
  ·rcases bZ.1 hy with rfl|hy
   ·exact h.1.1
   ·have:=h2 y hy
    omega
theorem Inv.commit{p t:Nat}{X:UInt64→Nat→List UInt8→List UInt8}(hX:∀ e k b,(X e k b).length=b.length)(h:Gm.Ok p t){σ:Dv}{r:Rg}{x:So}(hI:Inv p t σ r (some x)){l:List Ent} :
  ∃ e σ' r' x',cmS p t X l (σ,r,x)=(e,(σ',r',x'))∧Inv p t σ' r' (some x')∧∀ s,aCX r s (some x)→aCX r' (aFt p t r x l s) (some x'):=by
 have hx:=hI.o x rfl
 by_cases hno:lQ p t r x l≠0∨l=[]
 ·obtain⟨e,he⟩:=aNo (σ:=σ) (X:=X) hno
  refine⟨e,σ,r,x,he,hI,fun s hs=>?_⟩
  have:aFt p t r x l s=s:=by
   unfold aFt
   rcases hno with h0|h0
   ·rw [if_pos h0]
   ·by_cases h1:lQ p t r x l≠0
    ·rw [if_pos h1]
    ·rw [if_neg h1,if_pos h0]
  rw [this]
  exact hs
 ·have h0:lQ p t r x l=0:=Decidable.not_not.1 fun hh=>hno (.inl hh)
  have hl:l≠[]:=fun hh=>hno (.inr hh)
  obtain⟨hst,hrc,hm⟩:=aFC h0 hl
  have hw:=aNK h0
  have hc0:=hI.r.c0
  have hc1:=hI.r.c1
  have hcc:((UInt64.ofNat (r.c+1).toNat).toNat:Int)=r.c+1:=by rw [aW];omega
  have hhs:∀ s,aFt p t r x l s=aBx (UInt64.ofNat (r.c+1).toNat) l s:=fun s=>by unfold aFt;rw [if_neg (fun hh=>hh h0),if_neg hl]
  rw [aHe h0 hl]
  generalize UInt64.ofNat (r.c+1).toNat=c at *
  obtain⟨e,σ',r',s',he,hwl,hcase⟩:=aJE p c (dH X c l) σ r x
  refine⟨e,σ',r',s',he,?_,fun s hs=>?_⟩
  ·rcases hcase with ⟨rfl,rfl⟩|⟨rfl,-,st,rfl⟩
   ·exact⟨by rw [aAY hwl];exact hI.len,hI.r,fun y hy=>by cases hy;exact⟨hx.es,hx.lv,hx.d⟩⟩
   ·have hm2:gH p t (dH X c l)=true:=by rw [wX hX];exact hm
    refine⟨by rw [aAY hwl];exact hI.len,⟨Sha.sum_len _,by show 0≤(c.toNat:Int);omega,by show (c.toNat:Int)≤_;omega⟩,fun y hy=>?_⟩
    cases hy
    exact⟨by show (dL _ _ _).length=_;rw [lG];exact hx.es,by show (jE _ _).length=_;rw [qP];exact hx.lv,sY hx.d _ (aBD h _ hm2).1⟩
  ·rw [hhs,aIs]
   have hold:=hs.lt x rfl hst hw
   have hmL:mR p (-1) l=true:=by unfold gH at hm;rw [bM] at hm;exact hm.2
   have hnd:((l.map fun x=>(x.1.toNat,x.2)).map Prod.fst).Nodup:=by
    rw [gQ]
    exact (aCq oQ hmL).1
   obtain⟨h1,h2⟩:=aCk c _ s hnd (fun z hz y hy e=>by
    have:=hold y hy
    rw [show y.1.1=c from congrArg Prod.fst e] at this
    omega)
   refine⟨h1.trans hs.one,fun y hy=>?_,fun y hy hy0 hyw z hz=>?_⟩
   ·have h3:(y.1.1.toNat:Int)≤r.c+1:=by
     rcases h2 y hy with h3|h3
     ·have:=hold y h3;omega
     ·rw [h3];omega
    rcases hcase with ⟨rfl,-⟩|⟨rfl,-,-⟩
    ·exact h3
    ·show _≤(c.toNat:Int)+1
     omega
   ·have h3:(z.1.1.toNat:Int)≤r.c+1:=by
     rcases h2 z hz with h3|h3
     ·have:=hold z h3;omega
     ·rw [h3];omega
    rcases hcase with ⟨rfl,rfl⟩|⟨rfl,-,-⟩
    ·cases hy
     exact absurd (show (8:Int)=0 from hy0) dQ
    ·show _≤(c.toNat:Int)
     omega
theorem Inv.read{p t:Nat}{X:UInt64→Nat→List UInt8→List UInt8}{σ:Dv}{r:Rg}{x:So}(hI:Inv p t σ r (some x))(k:Int):Inv p t σ r (some (rdS p X k σ x).2.2)∧∀ s,aCX r s (some x)→aCX r s (some (rdS p X k σ x).2.2):=by
 have hx:=hI.o x rfl
 have h:(rdS p X k σ x).2.2=x∨∃ e,e≠0∧(rdS p X k σ x).2.2={ x with st:=e }:=by
  unfold rdS
  split
  ·exact .inl rfl
  ·split
   ·exact .inl rfl
   ·split
    ·exact .inr ⟨8,by decide,rfl⟩
    ·split
     ·exact .inr ⟨20,by decide,rfl⟩
     ·exact .inl rfl
 rcases h with h|⟨e,he,h⟩
 ·rw [h];exact⟨hI,fun s hs=>hs⟩
 ·rw [h]
  refine⟨⟨hI.len,hI.r,fun y hy=>by cases hy;exact⟨hx.es,hx.lv,hx.d⟩⟩,fun s hs=>⟨hs.one,hs.le,fun y hy hy0=>?_⟩⟩
  cases hy
  exact absurd hy0 he
theorem Inv.open{p t:Nat}{σ:Dv}{r:Rg}{o:Option So}(hI:Inv p t σ r o)(w:Bool) :
  Inv p t (gV p t w (σ,r)).2.1 (gV p t w (σ,r)).2.2 (iX p t w σ r)∧∀ s,aCX r s o→aCX (gV p t w (σ,r)).2.2 s (iX p t w σ r):=by
 have h:∃ e σ' r',gV p t w (σ,r)=(e,σ',r')∧σ'.ws.length=σ.ws.length∧(r'=r∧(e≠0∨w=false)∨r'={ r with c:=r.c+1 }∧r.c<18446744073709551615):=by
  by_cases h1:w=true∧r.c=18446744073709551615
  ·exact⟨21,σ,r,by unfold gV;rw [if_pos h1],rfl,.inl ⟨rfl,.inl dQ⟩⟩
  by_cases h2:σ.down=true
  ·exact⟨8,σ,r,by unfold gV;rw [if_neg h1,if_pos h2],rfl,.inl ⟨rfl,.inl dQ⟩⟩
  by_cases h3:(gI p t σ r).1=3
  ·exact⟨20,σ,r,by unfold gV;rw [if_neg h1,if_neg h2,if_pos h3],rfl,.inl ⟨rfl,.inl dQ⟩⟩
  have ho:=rJ h1 (by simpa using h2) h3
  have hw:=aGH p t w (gI p t σ r).2 (σ,r)
  rw [ho]
  generalize (gI p t σ r).2=B at *
  have hwt:(cQ p t B).t (σ,r)=((cQ p t B σ).1,(cQ p t B σ).2,r):=rfl
  obtain⟨e,σ',r',hz⟩:∃ e σ' r',qU p t w B (σ,r)=(e,σ',r'):=⟨_,_,_,rfl⟩
  rw [hz] at hw ⊢
  refine⟨e,σ',r',rfl,hw,?_⟩
  by_cases h0:(cQ p t B σ).1=0
  ·have e1:qU p t w B (σ,r)=(if w=true then gG else fun σ=>(0,σ)) ((cQ p t B σ).2,r):=by
    unfold qU
    rw [TS.and_eq (y:=((cQ p t B σ).2,r)) (by rw [hwt,h0])]
   rw [hz] at e1
   cases w with
   | false=>exact .inl ⟨congrArg (fun z=>z.2.2) e1,.inr rfl⟩
   | true=>
    rw [if_pos rfl] at e1
    have q1:=congrArg (fun z=>z.1) e1
    have q2:=congrArg (fun z=>z.2.2) e1
    dsimp only at q1 q2
    have hc1:=hI.r.c1
    have:r.c≠18446744073709551615:=fun e=>h1 ⟨rfl,e⟩
    rcases aDg ((cQ p t B σ).2,r) with ⟨e0,e2⟩|⟨e0,e2⟩
    ·exact .inr ⟨q2.trans e2,by omega⟩
    ·exact .inl ⟨q2.trans e2,.inl (by rw [q1];exact e0)⟩
  ·have e1:qU p t w B (σ,r)=((cQ p t B σ).1,(cQ p t B σ).2,r):=by
    unfold qU
    rw [TS.and_ne (by rw [hwt];exact h0),hwt]
   rw [hz] at e1
   have q1:=congrArg (fun z=>z.1) e1
   dsimp only at q1
   exact .inl ⟨congrArg (fun z=>z.2.2) e1,.inl (by rw [q1];exact h0)⟩
 have hO:∀ x,iX p t w σ r=some x→(gV p t w (σ,r)).1=0∧x.w=w∧x.es=nB p (gI p t σ r).2∧x.lv=eX (gI p t σ r).2:=fun x hx=>by
  unfold iX at hx
  split at hx
  ·rename_i h0
   cases hx
   exact⟨h0,rfl,rfl,rfl⟩
  ·cases hx
 have hB:((gI p t σ r).2).length=Gm.leaves p:=by
  have h2:=σ.blks_len 0 (Gm.leaves p)
  unfold gI
  generalize σ.blks 0 (Gm.leaves p)=l at *
  generalize σ.blks (Gm.leaves p) (1+t)=logs
  by_cases hf:lI p t r.root l=true
  ·rw [rU hf];exact h2
  ·cases hlr:vV p t r logs with
   | none=>rw [qF hf hlr];exact h2
   | some x=>
    rw [sS hf hlr]
    split
    ·show (rA _ _ _ _).length=_
     rw [xO];exact h2
    ·exact h2
 obtain⟨e,σ',r',ho,hw,hr⟩:=h
 rw [ho] at hO ⊢
 dsimp only at hO ⊢
 have hr':r'.Ok:=by
  rcases hr with ⟨rfl,-⟩|⟨rfl,hc⟩
  ·exact hI.r
  ·have:=hI.r.c0
   exact⟨hI.r.len,by show 0≤r.c+1;omega,by show r.c+1≤_;omega⟩
 have hle:r.c≤r'.c:=by
  rcases hr with ⟨rfl,-⟩|⟨rfl,hc⟩
  ·exact Int.le_refl _
  ·show r.c≤r.c+1;omega
 refine⟨⟨by rw [aAY hw];exact hI.len,hr',fun x hx=>?_⟩,fun s hs=>⟨hs.one,fun y hy=>?_,fun x hx h0 hxw y hy=>?_⟩⟩
 ·obtain⟨-,-,h2,h3⟩:=hO x hx
  exact⟨by rw [h2];unfold nB;simp,by rw [h3,jL];exact hB,by rw [h3];exact nP _⟩
 ·have:=hs.le y hy
  omega
 ·obtain⟨h1,h2,-,-⟩:=hO x hx
  rcases hr with ⟨-,h3|h3⟩|⟨rfl,-⟩
  ·exact absurd h1 h3
  ·rw [← h2,hxw] at h3;cases h3
  ·exact hs.le y hy
theorem Inv.format{p t:Nat}{X:UInt64→Nat→List UInt8→List UInt8}{σ:Dv}{r:Rg}{o:Option So}(hI:Inv p t σ r o) :
  Inv p t (lD p t X (σ,r)).2.1 (lD p t X (σ,r)).2.2 none∧∀ s,aCX r s o→aCX (lD p t X (σ,r)).2.2 (pC p σ r s) none:=by
 have hc0:=hI.r.c0
 by_cases h0:18446744073709551613<r.c
 ·have e1:lD p t X (σ,r)=(21,(σ,r)):=by unfold lD;rw [if_pos h0]
  rw [e1]
  refine⟨⟨hI.len,hI.r,fun _ h=>nomatch h⟩,fun s hs=>?_⟩
  unfold pC
  rw [if_pos h0]
  exact⟨hs.one,hs.le,fun _ h=>nomatch h⟩
 have e1:lD p t X (σ,r)=gG.and ((cQ p t (fG p t X (UInt64.ofNat (r.c+2).toNat))).t.and (aD6 (fG p t X (UInt64.ofNat (r.c+2).toNat)))) (σ,r):=by unfold lD;rw [if_neg h0]
 have hcc:((kP r).toNat:Int)=r.c+2:=by unfold kP;rw [aW];omega
 have hfs:∀ s,pC p σ r s=if (gG (σ,r)).1=0 then kV s (kP r) (Gm.sealed p) else s:=fun s=>by unfold pC;rw [if_neg h0]
 rw [e1]
 clear e1
 generalize fG p t X (UInt64.ofNat (r.c+2).toNat)=B
 generalize kP r=c at *
 have hbw:=zW (σ,r)
 have hbc:=aDg (σ,r)
 generalize hbb:gG (σ,r)=bb at *
 obtain⟨e,σ1,r1⟩:=bb
 dsimp only at hbw hbc hfs
 rcases hbc with ⟨rfl,hr1⟩|⟨he,hr1⟩
 ·rw [TS.and_eq hbb]
  have hr1c:r1.c=r.c+1:=by rw [hr1]
  have hr1k:r1.Ok:=by rw [hr1];exact⟨hI.r.len,by show 0≤r.c+1;omega,by show r.c+1≤_;omega⟩
  have hwt:(cQ p t B).t (σ1,r1)=((cQ p t B σ1).1,(cQ p t B σ1).2,r1):=rfl
  have hww:(cQ p t B σ1).2.ws.length=σ1.ws.length:=(((jD (fR 0 B)).and yV).and (aBf _ _)) σ1
  have key:(((cQ p t B).t.and (aD6 B)) (σ1,r1)).2.1.ws.length=σ1.ws.length∧(((cQ p t B).t.and (aD6 B)) (σ1,r1)).2.2.Ok∧r1.c≤(((cQ p t B).t.and (aD6 B)) (σ1,r1)).2.2.c:=by
   by_cases h1:(cQ p t B σ1).1=0
   ·rw [TS.and_eq (y:=((cQ p t B σ1).2,r1)) (by rw [hwt,h1])]
    show (kB ⟨r1.c+1,fQ B⟩ ((cQ p t B σ1).2,r1)).2.1.ws.length=_∧(kB ⟨r1.c+1,fQ B⟩ ((cQ p t B σ1).2,r1)).2.2.Ok∧r1.c≤(kB ⟨r1.c+1,fQ B⟩ ((cQ p t B σ1).2,r1)).2.2.c
    refine⟨by rw [aAu];exact hww,?_,?_⟩
    ·rcases xQ ⟨r1.c+1,fQ B⟩ ((cQ p t B σ1).2,r1) with ⟨-,h2,-⟩|⟨-,h2⟩
     ·rw [h2];exact⟨Sha.sum_len _,by show 0≤r1.c+1;omega,by show r1.c+1≤_;omega⟩
     ·rw [h2];exact hr1k
    ·rcases xQ ⟨r1.c+1,fQ B⟩ ((cQ p t B σ1).2,r1) with ⟨-,h2,h3⟩|⟨-,h2⟩
     ·rw [h2];show r1.c≤r1.c+1;omega
     ·rw [h2];exact Int.le_refl _
   ·rw [TS.and_ne (by rw [hwt];exact h1),hwt]
    exact⟨hww,hr1k,Int.le_refl _⟩
  generalize ((cQ p t B).t.and (aD6 B)) (σ1,r1)=FF at *
  obtain⟨k1,k2,k3⟩:=key
  refine⟨⟨by rw [aAY (k1.trans hbw)];exact hI.len,k2,fun _ h=>nomatch h⟩,fun s hs=>?_⟩
  rw [hfs,if_pos rfl,aDZ]
  obtain⟨h1,h2⟩:=aCk c ((List.range (Gm.sealed p)).map fun k=>(k,List.replicate 256 (0:UInt8))) s (by rw [gQ,show (List.range (Gm.sealed p)).map (Prod.fst∘fun k=>(k,List.replicate 256 (0:UInt8)))=List.range (Gm.sealed p) from List.map_id _];exact List.nodup_range) (fun z hz y hy e=>by
   have:=hs.le y hy
   rw [show y.1.1=c from congrArg Prod.fst e] at this
   omega)
  refine⟨h1.trans hs.one,fun y hy=>?_,fun _ h=>nomatch h⟩
  rcases h2 y hy with h3|h3
  ·have:=hs.le y h3;omega
  ·rw [h3];omega
 ·rw [TS.and_ne (by rw [hbb];exact he),hbb]
  refine⟨⟨by rw [aAY hbw];exact hI.len,by rw [hr1];exact hI.r,fun _ h=>nomatch h⟩,fun s hs=>?_⟩
  rw [hfs,if_neg he,hr1]
  exact⟨hs.one,hs.le,fun _ h=>nomatch h⟩
structure Clo(p t:Nat)(X:UInt64→Nat→List UInt8→List UInt8)(Q Q':Dv→Rg→Sr→Option So→Prop):Prop where
 no:∀ {σ r s o},Q σ r s o→Q' σ r s o
 cm:∀ {σ r s x} (l:List Ent),Inv p t σ r (some x)→Q σ r s (some x)→Q' (cmS p t X l (σ,r,x)).2.1 (cmS p t X l (σ,r,x)).2.2.1 (aFt p t r x l s) (some (cmS p t X l (σ,r,x)).2.2.2)
 rd:∀ {σ r s x} (k:Int),Inv p t σ r (some x)→Q σ r s (some x)→Q' σ r s (some (rdS p X k σ x).2.2)
 op:∀ {σ r s o} (w:Bool),Inv p t σ r o→Q σ r s o→Q' (gV p t w (σ,r)).2.1 (gV p t w (σ,r)).2.2 s (iX p t w σ r)
 fm:∀ {σ r s o},Inv p t σ r o→Q σ r s o→Q' (lD p t X (σ,r)).2.1 (lD p t X (σ,r)).2.2 (pC p σ r s) none
 cr:∀ {σ r s o} (q:List UInt8),Q σ r s o→Q' (σ.crash q).on r s o
 on:∀ {σ r s o},Q σ r s o→Q' σ.on r s o
 ar:∀ {σ r s o} (n:Int) (q:List UInt8),Q σ r s o→Q' (σ.arm n q) r s o
 ta:∀ {σ r s o} (a:Int) (b:List UInt8),Q σ r s o→Q' (σ.tam a b) r s o
theorem Inv.dev{p t:Nat}{σ σ':Dv}{r:Rg}{o:Option So}(hI:Inv p t σ r o)(h:σ'.ws.length=σ.ws.length):Inv p t σ' r o:=⟨by rw [aAY h];exact hI.len,hI.r,hI.o⟩
end Go.Proofs.YtnhnpjokpelkbaaGreat
