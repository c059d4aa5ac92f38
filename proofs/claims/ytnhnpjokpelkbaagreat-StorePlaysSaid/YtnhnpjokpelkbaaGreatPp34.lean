/- A store is read: the program's. -/
import Derived.Test.YtnhnpjokpelkbaaGreatPp30
import Derived.Test.YtnhnpjokpelkbaaGreatPp33
set_option linter.unusedVariables false
set_option linter.unusedSimpArgs false
set_option linter.unusedSectionVars false
set_option maxHeartbeats 1000000
namespace Go.Proofs.YtnhnpjokpelkbaaGreat
open Go Go.Proofs.Tryz
section
attribute [local irreducible] SW SL SQ SH SA SS Pu Fin bT aQ
abbrev fT(d tr s bk p t:Nat)(ev tv:Value)(w:Bool)(st:Int):List Value:=[ptv d,ptv tr,ptv s,ptv bk,.int .i64 (p:Int),.int .i64 (t:Int),ev,tv,.bool w,.int .i64 st]
theorem aHO{sp d tr s bk p t:Nat}{ev tv:Value}{wr:Bool}{st e:Int}(o0:One ev)(o1:One tv):Tri prog 35 [ptv sp,.int .i64 e] [(sp,cl (fT d tr s bk p t ev tv wr st) 98)] (fun _=>True) (fun v H=>v=.int .i64 e∧H=[(sp,cl (fT d tr s bk p t ev tv wr (if e=0 then st else 8)) 98)]):=by
 refine Tri.mk func35 rfl ntmps35 rfl fun w hw=>?_
 by_cases he:e=0
 ·rw [if_pos he]
  refine W.k ?_
  refine Fin.to [(sp,cl (fT d tr s bk p t ev tv wr st) 98)] ?_
  exact F.f1 ⟨rfl,rfl⟩
 ·rw [if_neg he]
  refine W.k ?_
  rw [show (fT d tr s bk p t ev tv wr st).set 9 (.int .i64 8)=fT d tr s bk p t ev tv wr 8 from rfl]
  refine Fin.to [(sp,cl (fT d tr s bk p t ev tv wr 8) 98)] ?_
  exact F.f1 ⟨rfl,rfl⟩
def rdK(p:Nat)(k:Int)(σ:Dv)(s:So)(β:Bk):Bk:=
 if s.st≠0 then β else if ¬ (0≤k∧k<(Gm.sealed p:Nat)) then β else if σ.down=true then β else β.add (fJ (Ks p k.toNat) (σ.blk (Ks p k.toNat)))
theorem aHP{sp d tr s bk tb p t c b n:Nat}{ws:List (List UInt8)}{sr:Sr}(h:Gm.Ok p t){σ:Dv}{x:So}{β:Bk}{Hd HS Hk Hs:Hp}(hx:x.Ok p)(hD:fD d σ Hd)(hlen:σ.len=256*Gm.total p t)(hS:qS sp d tr s bk p t x HS)(hK:eV bk tb β Hk)(hSe:lU s c b n ws sr Hs)(hKo:kS n ws)(k:Int) :
  Tri prog 9 [ptv sp,.int .i64 k] (HS++(Hd++(Hs++Hk))) (fun _=>True)
  (fun v H=>∃ v1 Hr HS' Hk',v=.tuple #[v1,.int .i64 (rdS p (dM (Aes.enc ws n)) k σ x).1]∧Sl 5 1 v1 (cbs (rdS p (dM (Aes.enc ws n)) k σ x).2.1) Hr∧qS sp d tr s bk p t (rdS p (dM (Aes.enc ws n)) k σ x).2.2 HS'∧eV bk tb (rdK p k σ x β) Hk'∧H=HS'++(Hd++(Hs++(Hk'++Hr)))):=by
 obtain⟨ev,tp,He,Ht,rfl,hE,hT⟩:=hS
 refine Tri.mk func9 rfl ntmps9 rfl fun w hw=>?_
 have oe:=hE.isOne
 have hst:=aF1 (sp:=sp) (F0:=fT d tr s bk p t ev (ptv tp) x.w x.st) (st:=x.st) rfl
 by_cases h0:x.st≠0
 ·have e1:rdS p (dM (Aes.enc ws n)) k σ x=(x.st,[],x):=by unfold rdS;rw [if_pos h0]
  have e2:rdK p k σ x β=β:=by unfold rdK;rw [if_pos h0]
  rw [e1,e2]
  dsimp only
  have h0':¬ x.st=0:=h0
  refine W.k ?_
  refine W.cw hst ?_
  refine Fin.to (((sp,cl (fT d tr s bk p t ev (ptv tp) x.w x.st) 98)::(He++Ht))++(Hd++(Hs++(Hk++[])))) ?_
  exact F.f2 ⟨_,[],_,Hk,rfl,Sl.nil _ _,⟨ev,tp,He,Ht,rfl,hE,hT⟩,hK,rfl⟩
 have h0':x.st=0:=Decidable.not_not.1 h0
 have hsa:=qH h k
 by_cases hk:¬ (0≤k∧k<(Gm.sealed p:Nat))
 ·have e1:rdS p (dM (Aes.enc ws n)) k σ x=(3,[],x):=by unfold rdS;rw [if_neg h0,if_pos hk]
  have e2:rdK p k σ x β=β:=by unfold rdK;rw [if_neg h0,if_pos hk]
  rw [e1,e2]
  dsimp only
  rw [show Gm.atK (Gm.sealed p) (1+Gm.epochs p) k = -1 by unfold Gm.atK;rw [if_neg hk]] at hsa
  refine W.k ?_
  refine W.cw hst ?_
  refine W.cw hsa ?_
  refine Fin.to (((sp,cl (fT d tr s bk p t ev (ptv tp) x.w x.st) 98)::(He++Ht))++(Hd++(Hs++(Hk++[])))) ?_
  exact F.f2 ⟨_,[],_,Hk,rfl,Sl.nil _ _,⟨ev,tp,He,Ht,rfl,hE,hT⟩,hK,rfl⟩
 have hk2:=Decidable.not_not.1 hk
 obtain⟨j,rfl⟩:∃ j:Nat,k=j:=⟨k.toNat,by omega⟩
 have hsl:=Gm.sealed_le h
 have hel:=Gm.epochs_le h
 have hLe:Gm.leaves p=1+Gm.epochs p+Gm.sealed p:=rfl
 have htot:Gm.total p t=Gm.leaves p+(1+t):=rfl
 have hKs:Ks p j=1+Gm.epochs p+j:=rfl
 rw [show Gm.atK (Gm.sealed p) (1+Gm.epochs p) (j:Int)=((Ks p j:Nat):Int) by unfold Gm.atK;rw [if_pos hk2,hKs];omega] at hsa
 have hKl:Ks p j<Gm.total p t:=oQ
 have hby:=tP (k:=Ks p j) (by have:=Gm.total_le2 h;omega)
 have hld:=aGE hD ((256*Ks p j:Nat):Int) 256
 have hr0:σ.rdy ((256*Ks p j:Nat):Int) 256=if σ.down=true then 8 else 0:=by
  unfold Dv.rdy
  split
  ·rfl
  ·rw [hlen,if_neg oQ]
 rw [hr0] at hld
 have hbk:(σ.blk (Ks p j))=σ.loadB ((256*Ks p j:Nat):Int) 256:=rfl
 have hsd:=fun e=>aHO (sp:=sp) (d:=d) (tr:=tr) (s:=s) (bk:=bk) (p:=p) (t:=t) (wr:=x.w) (st:=x.st) (e:=e) oe (show One (ptv tp) from inferInstance)
 by_cases hdn:σ.down=true
 ·have e1:rdS p (dM (Aes.enc ws n)) j σ x=(8,[],{ x with st:=8 }):=by unfold rdS;rw [if_neg h0,if_neg hk,if_pos hdn]
  have e2:rdK p j σ x β=β:=by unfold rdK;rw [if_neg h0,if_neg hk,if_pos hdn]
  rw [e1,e2]
  dsimp only
  rw [if_pos hdn] at hld
  have hsd8:=hsd 8
  rw [if_neg (show ¬ (8:Int)=0 by decide)] at hsd8
  refine W.k ?_
  refine W.cw hst ?_
  refine W.cw hsa ?_
  (refine SW.l [7] [0,1,2,3,4,5] ?_;refine bA 6 ?_)
  refine W.cq hby ?_
  (refine bC [] ?_;refine bO 7 ?_)
  refine aF hld ?_
  rintro _ _ ⟨sv,Hl,rfl,hsv,rfl⟩
  have hsv1:=hsv.isOne
  (refine SL.l [8,9,10,11,12,13] ?_)
  refine W.k ?_
  refine W.cw hsd8 ?_
  refine Fin.to (((sp,cl (fT d tr s bk p t ev (ptv tp) x.w 8) 98)::(He++Ht))++(Hd++(Hs++(Hk++[])))) ?_
  exact F.f2 ⟨_,[],_,Hk,rfl,Sl.nil _ _,⟨ev,tp,He,Ht,rfl,hE,hT⟩,hK,rfl⟩
 have hsd0:=hsd 0
 rw [if_pos rfl] at hsd0
 rw [if_neg hdn,← hbk] at hld
 have hdn2:σ.down=false:=by simpa using hdn
 have hb256:(σ.blk (Ks p j)).length=256:=Dv.blk_256 hD.1 hdn2 hlen hKl
 have hlf:=fun v=>aGC hK (Ks p j) v (σ.blk (Ks p j)) (by rw [hb256];decide)
 have hat:=aMt hT ((Ks p j:Nat):Int) (by rw [hx.lv];have:=Gm.leaves_le h;omega)
 have e2:rdK p j σ x β=β.add (fJ (Ks p j) (σ.blk (Ks p j))):=by unfold rdK;rw [if_neg h0,if_neg hk,if_neg hdn];rfl
 have e1:rdS p (dM (Aes.enc ws n)) j σ x=if Sha.sum (fJ (Ks p j) (σ.blk (Ks p j)))≠lW x.lv (Ks p j) then (20,[],{ x with st:=20 }) else (0,dM (Aes.enc ws n) (x.es.getD j 0) j (σ.blk (Ks p j)),x):=by unfold rdS;rw [if_neg h0,if_neg hk,if_neg hdn];rfl
 rw [e1,e2]
 clear e1 e2 hbk
 have hs32:(Sha.sum (fJ (Ks p j) (σ.blk (Ks p j)))).length=32:=Sha.sum_len _
 generalize σ.blk (Ks p j)=B at *
 generalize β.add (fJ (Ks p j) B)=β2 at *
 generalize Sha.sum (fJ (Ks p j) B)=S1 at *
 refine W.k ?_
 refine W.cw hst ?_
 refine W.cw hsa ?_
 (refine SW.l [7] [0,1,2,3,4,5] ?_;refine bA 6 ?_)
 refine W.cq hby ?_
 (refine bC [] ?_;refine bO 7 ?_)
 refine aF hld ?_
 rintro _ _ ⟨sv,Hl,rfl,hsv,rfl⟩
 have hsv1:=hsv.isOne
 (refine SL.l [8,9,10,11,12,13] ?_)
 refine W.k ?_
 refine W.cw hsd0 ?_
 (refine SW.l [13] [0,1,2,3,4,5,6,8,9,10,11,12] ?_;refine bA 7 ?_)
 refine aF (hlf sv) ?_ (hpre:=fun w2 hs=>Rd.own (Hc:=Hk) hsv hs inferInstance)
 rintro _ Hk2 ⟨rfl,hK2⟩
 have hlv32:(lW x.lv ((Ks p j:Nat):Int)).length=32:=xH hx.d _
 (refine bC [] ?_;refine bO 13 ?_)
 refine aF hat ?_
 rintro _ Hx ⟨rfl,hx2⟩
 have hx2:=hx2.symm
 subst hx2
 by_cases hne:S1=lW x.lv ((Ks p j:Nat):Int)
 ·rw [if_neg (fun hh=>hh hne)]
  (refine bC [] ?_;refine dZ 14 rfl (aAm rfl rfl rfl hs32 hne) ?_;refine SS.dn ?_)
  have hen:x.es.length=Gm.sealed p:=hx.es
  rcases hE with ⟨-,hz,-⟩|⟨be,elen,ecap,ejunk,rfl,hexl,hej,hec,rfl⟩
  ·have h9:=eR x.es
   rw [hz,List.length_nil] at h9
   omega
  rw [eR] at hexl
  obtain rfl:elen=x.es.length:=by omega
  have hlu:(uv x.es++ejunk)[j]?=some (eG (x.es.getD j 0)):=by rw [aL (by rw [eR];omega)];exact aDM oQ
  have hso:=fun v=>aK8 hSe hKo (x.es.getD j 0) j oQ v B hb256
  refine W.k ?_
  (refine SW.l [14] [0,1,2,3,4,5,6,7,8,9,10,11,12,13] ?_;refine bO 14 ?_)
  refine aF (hso sv) ?_ (hpre:=fun w2 hs=>Rd.own (Hc:=Hs) hsv hs inferInstance)
  rintro _ _ ⟨q,rfl,rfl⟩
  (refine SL.l [15,16,17,18,19] ?_)
  refine W.k ?_
  refine Fin.to (((sp,cl (fT d tr s bk p t (.slice (some ⟨be,0,none⟩) x.es.length ecap) (ptv tp) x.w x.st) 98)::([(be,cl (uv x.es++ejunk) 33)]++Ht))++(Hd++(Hs++(Hk2++[(q,cl (cbs (dM (Aes.enc ws n) (x.es.getD j 0) j B)) 5)])))) ?_
  exact F.f2 ⟨_,_,_,Hk2,rfl,Sl.own _ 1 q (len:=256) (by rw [aI];rw [mQ (fun y=>Aes.enc_len ..)];exact hb256),⟨_,tp,_,Ht,rfl,.inr ⟨be,x.es.length,ecap,ejunk,rfl,by rw [eR,Nat.mul_one],hej,hec,rfl⟩,hT⟩,hK2,rfl⟩
 ·rw [if_pos hne]
  (refine bC [] ?_;refine dZ 14 rfl (aEi rfl rfl rfl hs32 hlv32 hne) ?_;refine SS.dn ?_)
  refine W.k ?_
  rw [show (fT d tr s bk p t ev (ptv tp) x.w x.st).set 9 (.int .i64 20)=fT d tr s bk p t ev (ptv tp) x.w 20 from rfl]
  (refine SW.l [] [0,1,2,3,4,5,6] ?_)
  refine W.k ?_
  refine Fin.to (((sp,cl (fT d tr s bk p t ev (ptv tp) x.w 20) 98)::(He++Ht))++(Hd++(Hs++(Hk2++[])))) ?_
  exact F.f2 ⟨_,[],_,Hk2,rfl,Sl.nil _ _,⟨ev,tp,He,Ht,rfl,hE,hT⟩,hK2,rfl⟩
def epV(es:List UInt64)(k:Int):UInt64:=if 0≤k∧k<es.length then es.getD k.toNat 0 else 0
section
variable {sp d tr s bk tb p t:Nat}{x:So}{HS:Hp}
theorem aIT(hS:qS sp d tr s bk p t x HS):Tri prog 14 [ptv sp] HS (fun _=>True) (fun v H=>v=.int .i64 x.st∧H=HS):=by
 obtain⟨ev,tp,He,Ht,rfl,hE,hT⟩:=hS
 refine Tri.mk func14 rfl ntmps14 rfl fun w hw=>?_
 have oe:=hE.isOne
 (refine W.k ?_;repeat intro b_)
 refine Fin.to ((sp,cl (fT d tr s bk p t ev (ptv tp) x.w x.st) 98)::(He++Ht)) ?_
 exact F.f1 ⟨rfl,rfl⟩
theorem aOo(hS:qS sp d tr s bk p t x HS):Tri prog 18 [ptv sp] HS (fun _=>True) (fun v H=>v=.int .i64 (x.es.length:Int)∧H=HS):=by
 obtain⟨ev,tp,He,Ht,rfl,hE,hT⟩:=hS
 obtain⟨a,n,c,rfl,hn⟩:=hE.form
 rw [eR] at hn
 obtain rfl:n=x.es.length:=by omega
 refine Tri.mk func18 rfl ntmps18 rfl fun w hw=>?_
 (refine W.k ?_;repeat intro b_)
 refine Fin.to ((sp,cl (fT d tr s bk p t (.slice a x.es.length c) (ptv tp) x.w x.st) 98)::(He++Ht)) ?_
 exact F.f1 ⟨rfl,rfl⟩
theorem aKD(hS:qS sp d tr s bk p t x HS)(k:Int):Tri prog 16 [ptv sp,.int .i64 k] HS (fun _=>True) (fun v H=>v=eG (epV x.es k)∧H=HS):=by
 obtain⟨ev,tp,He,Ht,rfl,hE,hT⟩:=hS
 have oe:=hE.isOne
 refine Tri.mk func16 rfl ntmps16 rfl fun w hw=>?_
 unfold epV
 by_cases h0:k<0
 ·rw [if_neg oQ]
  (refine W.k ?_;repeat intro b_)
  refine Fin.to ((sp,cl (fT d tr s bk p t ev (ptv tp) x.w x.st) 98)::(He++Ht)) ?_
  exact F.f1 ⟨rfl,rfl⟩
 obtain⟨j,rfl⟩:∃ j:Nat,k=(j:Int):=⟨k.toNat,by omega⟩
 rcases hE with ⟨rfl,hz,rfl⟩|⟨be,elen,ecap,ejunk,rfl,hexl,hej,hec,rfl⟩
 ·have h9:=eR x.es
  rw [hz,List.length_nil] at h9
  rw [if_neg oQ]
  (refine W.k ?_;repeat intro b_)
  refine Fin.to ((sp,cl (fT d tr s bk p t (.slice none 0 0) (ptv tp) x.w x.st) 98)::([]++Ht)) ?_
  exact F.f1 ⟨rfl,rfl⟩
 rw [eR] at hexl
 obtain rfl:elen=x.es.length:=by omega
 by_cases h1:j<x.es.length
 ·rw [if_pos oQ,aP]
  have hlu:(uv x.es++ejunk)[j]?=some (eG (x.es.getD j 0)):=by rw [aL (by rw [eR];omega)];exact aDM oQ
  (refine W.k ?_;repeat intro b_)
  refine Fin.to ((sp,cl (fT d tr s bk p t (.slice (some ⟨be,0,none⟩) x.es.length ecap) (ptv tp) x.w x.st) 98)::([(be,cl (uv x.es++ejunk) 33)]++Ht)) ?_
  exact F.f1 ⟨rfl,rfl⟩
 ·rw [if_neg oQ]
  (refine W.k ?_;repeat intro b_)
  refine Fin.to ((sp,cl (fT d tr s bk p t (.slice (some ⟨be,0,none⟩) x.es.length ecap) (ptv tp) x.w x.st) 98)::([(be,cl (uv x.es++ejunk) 33)]++Ht)) ?_
  exact F.f1 ⟨rfl,rfl⟩
theorem aMe(hS:qS sp d tr s bk p t x HS)(hx:x.lv.length≤1024)(h32:D32 x.lv)(k:Int):Tri prog 19 [ptv sp,.int .i64 k] HS (fun _=>True) (fun v H=>v=dgV (lW x.lv k)∧H=HS):=by
 obtain⟨ev,tp,He,Ht,rfl,hE,hT⟩:=hS
 have oe:=hE.isOne
 have hat:=aMt hT k hx
 have hl32:=lV (xH h32 k)
 refine Tri.mk func19 rfl ntmps19 rfl fun w hw=>?_
 (refine W.k ?_;repeat intro b_)
 refine W.cw hat ?_;repeat intro b_
 refine F.cH ((sp,cl (fT d tr s bk p t ev (ptv tp) x.w x.st) 98)::(He++Ht)) (cbs (lW x.lv k)) ?_
 exact⟨rfl,rfl⟩
theorem aMf{β:Bk}{Hk:Hp}(hS:qS sp d tr s bk p t x HS)(hK:eV bk tb β Hk)(hx:x.lv.length≤1024):Tri prog 17 [ptv sp] (HS++Hk) (fun _=>True) (fun v H=>∃ β' Hk',v=dgV (fU x.lv)∧eV bk tb β' Hk'∧H=HS++Hk'):=by
 obtain⟨ev,tp,He,Ht,rfl,hE,hT⟩:=hS
 have oe:=hE.isOne
 have hrt:=aDS hT hK hx
 have hl32:(cbs (fU x.lv)).length=32:=lV (Sha.sum_len _)
 refine Tri.mk func17 rfl ntmps17 rfl fun w hw=>?_
 (refine W.k ?_;repeat intro b_)
 refine aF hrt ?_
 rintro _ _ ⟨Hk',rfl,rfl,hK'⟩
 (refine W.k ?_;repeat intro b_)
 refine F.cH (((sp,cl (fT d tr s bk p t ev (ptv tp) x.w x.st) 98)::(He++Ht))++Hk') (cbs (fU x.lv)) ?_
 exact⟨_,Hk',rfl,hK',rfl⟩
end
end
end Go.Proofs.YtnhnpjokpelkbaaGreat
