/- A store is read: the program's. -/
import Derived.Test.YtdfclocfackkmaaGreatPm30
import Derived.Test.YtdfclocfackkmaaGreatPm33
set_option linter.unusedVariables false
set_option linter.unusedSimpArgs false
set_option linter.unusedSectionVars false
set_option maxHeartbeats 1000000
namespace Go.Proofs.YtdfclocfackkmaaGreat
open Go Go.Proofs.Tryz
section
attribute [local irreducible] SW SL SQ SH SA SS Pu Fin bS aN
abbrev fP(d tr s bk p t:Nat)(ev tv:Value)(w:Bool)(st:Int):LV:=[ptv d,ptv tr,ptv s,ptv bk,.int .i64 (p:Int),.int .i64 (t:Int),ev,tv,.bool w,.int .i64 st]
theorem aIm{sp d tr s bk p t:Nat}{ev tv:Value}{wr:Bool}{st e:Int}(o0:One ev)(o1:One tv):Tri prog 103 [ptv sp,.int .i64 e] [(sp,cl (fP d tr s bk p t ev tv wr st) 231)] NT (fun v H=>v=.int .i64 e/\H=[(sp,cl (fP d tr s bk p t ev tv wr (if e=0 then st else 8)) 231)]):=by
 refine Tri.mt func103 ntmps103 fun w hw=>?_;by_cases he:e=0
 ·rw [if_pos he];refine W.k ?_;refine Fin.to [(sp,cl (fP d tr s bk p t ev tv wr st) 231)] ?_;exact F.f1 ⟨rfl,rfl⟩
 rw [if_neg he];refine W.k ?_;rw [show (fP d tr s bk p t ev tv wr st).set 9 (.int .i64 8)=fP d tr s bk p t ev tv wr 8 from rfl];refine Fin.to [(sp,cl (fP d tr s bk p t ev tv wr 8) 231)] ?_;exact F.f1 ⟨rfl,rfl⟩
def rdK(p:Nat)(k:Int)(C:Dv)(s:So)(D:Bk):Bk:=
 if s.st≠0 then D else if ¬ (0<=k/\k<(Gm.sealed p:Nat)) then D else if C.down=true then D else D.add (fV (Ks p k.toNat) (C.blk (Ks p k.toNat)))
theorem aMW{sp d tr s bk tb p t c b n:Nat}{ws:LL}{sr:Sr}(h:Gm.Ok p t){C:Dv}{x:So}{D:Bk}{Hd HS Hk Hs:Hp}(hx:x.Ok p)(hD:eX d C Hd)(hlen:C.len=256*Gm.total p t)(hS:rI sp d tr s bk p t x HS)(hK:eP bk tb D Hk)(hSe:lL s c b n ws sr Hs)(hKo:kA n ws)(k:Int):Tri prog 39 [ptv sp,.int .i64 k] (HS++(Hd++(Hs++Hk))) NT (fun v H=>∃ v1 Hr HS' Hk',v=.tuple #[v1,.int .i64 (rdS p (dY (Aes.enc ws n)) k C x).1]/\Sl 5 1 v1 (cbs (rdS p (dY (Aes.enc ws n)) k C x).2.1) Hr/\rI sp d tr s bk p t (rdS p (dY (Aes.enc ws n)) k C x).2.2 HS'/\eP bk tb (rdK p k C x D) Hk'/\H=HS'++(Hd++(Hs++(Hk'++Hr)))):=by
 obtain⟨ev,tp,He,Ht,rfl,hE,hT⟩:=hS;refine Tri.mt func39 ntmps39 fun w hw=>?_;have oe:=hE.isOne;have hst:=aGw (sp:=sp) (F0:=fP d tr s bk p t ev (ptv tp) x.w x.st) (st:=x.st) rfl;by_cases h0:x.st≠0
 ·have e1:rdS p (dY (Aes.enc ws n)) k C x=(x.st,[],x):=by unfold rdS;rw [if_pos h0]
  have e2:rdK p k C x D=D:=by unfold rdK;rw [if_pos h0]
  rw [e1,e2];dsimp only;have h0':¬ x.st=0:=h0;refine W.k ?_;refine W.cw hst ?_;refine Fin.to (((sp,cl (fP d tr s bk p t ev (ptv tp) x.w x.st) 231)::(He++Ht))++(Hd++(Hs++(Hk++[])))) ?_;exact F.f2 ⟨_,[],_,Hk,rfl,Sl.nil _ _,⟨ev,tp,He,Ht,rfl,hE,hT⟩,hK,rfl⟩
 have h0':x.st=0:=Decidable.not_not.1 h0;have hsa:=qD h k;by_cases hk:¬ (0<=k/\k<(Gm.sealed p:Nat))
 ·have e1:rdS p (dY (Aes.enc ws n)) k C x=(3,[],x):=by unfold rdS;rw [if_neg h0,if_pos hk]
  have e2:rdK p k C x D=D:=by unfold rdK;rw [if_neg h0,if_pos hk]
  rw [e1,e2];dsimp only;rw [show Gm.atK (Gm.sealed p) (1+Gm.epochs p) k = -1 by unfold Gm.atK;rw [if_neg hk]] at hsa;refine W.k ?_;refine W.cw hst ?_;refine W.cw hsa ?_;refine Fin.to (((sp,cl (fP d tr s bk p t ev (ptv tp) x.w x.st) 231)::(He++Ht))++(Hd++(Hs++(Hk++[])))) ?_;exact F.f2 ⟨_,[],_,Hk,rfl,Sl.nil _ _,⟨ev,tp,He,Ht,rfl,hE,hT⟩,hK,rfl⟩
 have hk2:=Decidable.not_not.1 hk;obtain⟨j,rfl⟩:∃ j:Nat,k=j:=⟨k.toNat,oQ⟩;have hsl:=Gm.sealed_le h;have hel:=Gm.epochs_le h;have hLe:Gm.leaves p=1+Gm.epochs p+Gm.sealed p:=rfl;have htot:Gm.total p t=Gm.leaves p+(1+t):=rfl;have hKs:Ks p j=1+Gm.epochs p+j:=rfl;rw [show Gm.atK (Gm.sealed p) (1+Gm.epochs p) (j:Int)=((Ks p j:Nat):Int) by unfold Gm.atK;rw [if_pos hk2,hKs];omega] at hsa;have hKl:Ks p j<Gm.total p t:=oQ;have hby:=tD (k:=Ks p j) (by have:=Gm.total_le2 h;omega);have hld:=aG9 hD ((256*Ks p j:Nat):Int) 256;have hr0:C.rdy ((256*Ks p j:Nat):Int) 256=if C.down=true then 8 else 0:=by
  unfold Dv.rdy;split
  ·rfl
  rw [hlen,if_neg oQ]
 rw [hr0] at hld;have hbk:(C.blk (Ks p j))=C.loadB ((256*Ks p j:Nat):Int) 256:=rfl;have hsd:=fun e=>aIm (sp:=sp) (d:=d) (tr:=tr) (s:=s) (bk:=bk) (p:=p) (t:=t) (wr:=x.w) (st:=x.st) (e:=e) oe (show One (ptv tp) from inferInstance);by_cases hdn:C.down=true
 ·have e1:rdS p (dY (Aes.enc ws n)) j C x=(8,[],{ x with st:=8 }):=by unfold rdS;rw [if_neg h0,if_neg hk,if_pos hdn]
  have e2:rdK p j C x D=D:=by unfold rdK;rw [if_neg h0,if_neg hk,if_pos hdn]
  rw [e1,e2];dsimp only;rw [if_pos hdn] at hld;have hsd8:=hsd 8;rw [if_neg (show ¬ (8:Int)=0 by decide)] at hsd8;refine W.k ?_;refine W.cw hst ?_;refine W.cw hsa ?_;(refine SW.l [7] [0,1,2,3,4,5] ?_;refine aX 6 ?_);refine W.cq hby ?_;(refine bB [] ?_;refine bL 7 ?_);refine aF hld ?_;rintro _ _ ⟨sv,Hl,rfl,hsv,rfl⟩;have hsv1:=hsv.isOne;(refine SL.l [8,9,10,11,12,13] ?_);refine W.k ?_;refine W.cw hsd8 ?_;refine Fin.to (((sp,cl (fP d tr s bk p t ev (ptv tp) x.w 8) 231)::(He++Ht))++(Hd++(Hs++(Hk++[])))) ?_;exact F.f2 ⟨_,[],_,Hk,rfl,Sl.nil _ _,⟨ev,tp,He,Ht,rfl,hE,hT⟩,hK,rfl⟩
 have hsd0:=hsd 0;rw [if_pos rfl] at hsd0;rw [if_neg hdn,<-hbk] at hld;have hdn2:C.down=false:=by simpa using hdn
 have hb256:(C.blk (Ks p j)).length=256:=Dv.blk_256 hD.1 hdn2 hlen hKl;have hlf:=fun v=>aG7 hK (Ks p j) v (C.blk (Ks p j)) (by rw [hb256];decide);have hat:=aNc hT ((Ks p j:Nat):Int) (by rw [hx.lv];have:=Gm.leaves_le h;omega);have e2:rdK p j C x D=D.add (fV (Ks p j) (C.blk (Ks p j))):=by unfold rdK;rw [if_neg h0,if_neg hk,if_neg hdn];rfl
 have e1:rdS p (dY (Aes.enc ws n)) j C x=if Sha.sum (fV (Ks p j) (C.blk (Ks p j)))≠mK x.lv (Ks p j) then (20,[],{ x with st:=20 }) else (0,dY (Aes.enc ws n) (x.es.getD j 0) j (C.blk (Ks p j)),x):=by unfold rdS;rw [if_neg h0,if_neg hk,if_neg hdn];rfl
 rw [e1,e2];clear e1 e2 hbk;have hs32:(Sha.sum (fV (Ks p j) (C.blk (Ks p j)))).length=32:=Sha.sum_len _;generalize C.blk (Ks p j)=B at *;generalize D.add (fV (Ks p j) B)=β2 at *;generalize Sha.sum (fV (Ks p j) B)=S1 at *;refine W.k ?_;refine W.cw hst ?_;refine W.cw hsa ?_;(refine SW.l [7] [0,1,2,3,4,5] ?_;refine aX 6 ?_);refine W.cq hby ?_;(refine bB [] ?_;refine bL 7 ?_);refine aF hld ?_;rintro _ _ ⟨sv,Hl,rfl,hsv,rfl⟩;have hsv1:=hsv.isOne;(refine SL.l [8,9,10,11,12,13] ?_);refine W.k ?_;refine W.cw hsd0 ?_;(refine SW.l [13] [0,1,2,3,4,5,6,8,9,10,11,12] ?_;refine aX 7 ?_);refine aF (hlf sv) ?_ (hpre:=fun w2 hs=>Rd.own (Hc:=Hk) hsv hs inferInstance);rintro _ Hk2 ⟨rfl,hK2⟩;have hlv32:(mK x.lv ((Ks p j:Nat):Int)).length=32:=xG hx.d _;(refine bB [] ?_;refine bL 13 ?_);refine aF hat ?_;rintro _ Hx ⟨rfl,hx2⟩;have hx2:=hx2.symm;subst hx2;by_cases hne:S1=mK x.lv ((Ks p j:Nat):Int)
 ·rw [if_neg (fun hh=>hh hne)];(refine bB [] ?_;refine dS 14 rfl (aAr rfl rfl rfl hs32 hne) ?_;refine SS.dn ?_);have hen:x.es.length=Gm.sealed p:=hx.es;rcases hE with ⟨-,hz,-⟩|⟨be,elen,ecap,ejunk,rfl,hexl,hej,hec,rfl⟩
  ·have h9:=eN x.es;rw [hz,List.length_nil] at h9;omega
  rw [eN] at hexl;obtain rfl:elen=x.es.length:=by omega
  have hlu:(uv x.es++ejunk)[j]?=some (dZ (x.es.getD j 0)):=by rw [aJ (by rw [eN];omega)];exact aD2 oQ
  have hso:=fun v=>aLM hSe hKo (x.es.getD j 0) j oQ v B hb256;refine W.k ?_;(refine SW.l [14] [0,1,2,3,4,5,6,7,8,9,10,11,12,13] ?_;refine bL 14 ?_);refine aF (hso sv) ?_ (hpre:=fun w2 hs=>Rd.own (Hc:=Hs) hsv hs inferInstance);rintro _ _ ⟨q,rfl,rfl⟩;(refine SL.l [15,16,17,18,19] ?_);refine W.k ?_;refine Fin.to (((sp,cl (fP d tr s bk p t (.slice (some ⟨be,0,none⟩) x.es.length ecap) (ptv tp) x.w x.st) 231)::([(be,cl (uv x.es++ejunk) 23)]++Ht))++(Hd++(Hs++(Hk2++[(q,cl (cbs (dY (Aes.enc ws n) (x.es.getD j 0) j B)) 5)])))) ?_;exact F.f2 ⟨_,_,_,Hk2,rfl,Sl.own _ 1 q (len:=256) (by rw [aI];rw [mJ (fun y=>Aes.enc_len ..)];exact hb256),⟨_,tp,_,Ht,rfl,.inr ⟨be,x.es.length,ecap,ejunk,rfl,by rw [eN,Nat.mul_one],hej,hec,rfl⟩,hT⟩,hK2,rfl⟩
 rw [if_pos hne];(refine bB [] ?_;refine dS 14 rfl (aEJ rfl rfl rfl hs32 hlv32 hne) ?_;refine SS.dn ?_);refine W.k ?_;rw [show (fP d tr s bk p t ev (ptv tp) x.w x.st).set 9 (.int .i64 20)=fP d tr s bk p t ev (ptv tp) x.w 20 from rfl];(refine SW.l [] [0,1,2,3,4,5,6] ?_);refine W.k ?_;refine Fin.to (((sp,cl (fP d tr s bk p t ev (ptv tp) x.w 20) 231)::(He++Ht))++(Hd++(Hs++(Hk2++[])))) ?_;exact F.f2 ⟨_,[],_,Hk2,rfl,Sl.nil _ _,⟨ev,tp,He,Ht,rfl,hE,hT⟩,hK2,rfl⟩
def epV(es:List UInt64)(k:Int):UInt64:=if 0<=k/\k<es.length then es.getD k.toNat 0 else 0
section
variable {sp d tr s bk tb p t:Nat}{x:So}{HS:Hp}
theorem aJu(hS:rI sp d tr s bk p t x HS):Tri prog 52 [ptv sp] HS NT (fun v H=>v=.int .i64 x.st/\H=HS):=by obtain⟨ev,tp,He,Ht,rfl,hE,hT⟩:=hS;refine Tri.mt func52 ntmps52 fun w hw=>?_;have oe:=hE.isOne;(refine W.k ?_;repeat intro b_);refine Fin.to ((sp,cl (fP d tr s bk p t ev (ptv tp) x.w x.st) 231)::(He++Ht)) ?_;exact F.f1 ⟨rfl,rfl⟩
theorem aO8(hS:rI sp d tr s bk p t x HS):Tri prog 57 [ptv sp] HS NT (fun v H=>v=.int .i64 (x.es.length:Int)/\H=HS):=by
 obtain⟨ev,tp,He,Ht,rfl,hE,hT⟩:=hS;obtain⟨a,n,c,rfl,hn⟩:=hE.form;rw [eN] at hn;obtain rfl:n=x.es.length:=by omega
 refine Tri.mt func57 ntmps57 fun w hw=>?_;(refine W.k ?_;repeat intro b_);refine Fin.to ((sp,cl (fP d tr s bk p t (.slice a x.es.length c) (ptv tp) x.w x.st) 231)::(He++Ht)) ?_;exact F.f1 ⟨rfl,rfl⟩
theorem aLe(hS:rI sp d tr s bk p t x HS)(k:Int):Tri prog 56 [ptv sp,.int .i64 k] HS NT (fun v H=>v=dZ (epV x.es k)/\H=HS):=by
 obtain⟨ev,tp,He,Ht,rfl,hE,hT⟩:=hS;have oe:=hE.isOne;refine Tri.mt func56 ntmps56 fun w hw=>?_;unfold epV;by_cases h0:k<0
 ·rw [if_neg oQ];(refine W.k ?_;repeat intro b_);refine Fin.to ((sp,cl (fP d tr s bk p t ev (ptv tp) x.w x.st) 231)::(He++Ht)) ?_;exact F.f1 ⟨rfl,rfl⟩
 obtain⟨j,rfl⟩:∃ j:Nat,k=(j:Int):=⟨k.toNat,oQ⟩;rcases hE with ⟨rfl,hz,rfl⟩|⟨be,elen,ecap,ejunk,rfl,hexl,hej,hec,rfl⟩
 ·have h9:=eN x.es;rw [hz,List.length_nil] at h9;rw [if_neg oQ];(refine W.k ?_;repeat intro b_);refine Fin.to ((sp,cl (fP d tr s bk p t (.slice none 0 0) (ptv tp) x.w x.st) 231)::([]++Ht)) ?_;exact F.f1 ⟨rfl,rfl⟩
 rw [eN] at hexl;obtain rfl:elen=x.es.length:=by omega
 by_cases h1:j<x.es.length
 ·rw [if_pos oQ,aS];have hlu:(uv x.es++ejunk)[j]?=some (dZ (x.es.getD j 0)):=by rw [aJ (by rw [eN];omega)];exact aD2 oQ
  (refine W.k ?_;repeat intro b_);refine Fin.to ((sp,cl (fP d tr s bk p t (.slice (some ⟨be,0,none⟩) x.es.length ecap) (ptv tp) x.w x.st) 231)::([(be,cl (uv x.es++ejunk) 23)]++Ht)) ?_;exact F.f1 ⟨rfl,rfl⟩
 rw [if_neg oQ];(refine W.k ?_;repeat intro b_);refine Fin.to ((sp,cl (fP d tr s bk p t (.slice (some ⟨be,0,none⟩) x.es.length ecap) (ptv tp) x.w x.st) 231)::([(be,cl (uv x.es++ejunk) 23)]++Ht)) ?_;exact F.f1 ⟨rfl,rfl⟩
theorem aMV(hS:rI sp d tr s bk p t x HS)(hx:x.lv.length<=1024)(h32:D32 x.lv)(k:Int):Tri prog 55 [ptv sp,.int .i64 k] HS NT (fun v H=>v=dgV (mK x.lv k)/\H=HS):=by
 obtain⟨ev,tp,He,Ht,rfl,hE,hT⟩:=hS;have oe:=hE.isOne;have hat:=aNc hT k hx;have hl32:=lN (xG h32 k);refine Tri.mt func55 ntmps55 fun w hw=>?_;(refine W.k ?_;repeat intro b_);refine W.cw hat ?_;repeat intro b_
 refine F.cH ((sp,cl (fP d tr s bk p t ev (ptv tp) x.w x.st) 231)::(He++Ht)) (cbs (mK x.lv k)) ?_;exact⟨rfl,rfl⟩
theorem aMX{D:Bk}{Hk:Hp}(hS:rI sp d tr s bk p t x HS)(hK:eP bk tb D Hk)(hx:x.lv.length<=1024):Tri prog 53 [ptv sp] (HS++Hk) NT (fun v H=>∃ β' Hk',v=dgV (fN x.lv)/\eP bk tb β' Hk'/\H=HS++Hk'):=by obtain⟨ev,tp,He,Ht,rfl,hE,hT⟩:=hS;have oe:=hE.isOne;have hrt:=aD8 hT hK hx;have hl32:(cbs (fN x.lv)).length=32:=lN (Sha.sum_len _);refine Tri.mt func53 ntmps53 fun w hw=>?_;(refine W.k ?_;repeat intro b_);refine aF hrt ?_;rintro _ _ ⟨Hk',rfl,rfl,hK'⟩;(refine W.k ?_;repeat intro b_);refine F.cH (((sp,cl (fP d tr s bk p t ev (ptv tp) x.w x.st) 231)::(He++Ht))++Hk') (cbs (fN x.lv)) ?_;exact⟨_,Hk',rfl,hK',rfl⟩
end
end
end Go.Proofs.YtdfclocfackkmaaGreat
