/- A store is read: the program's. -/
import Derived.Test.YtnigolgkkjidiaaGreatPm36
import Derived.Test.YtnigolgkkjidiaaGreatPm28
import Derived.Test.YtnigolgkkjidiaaGreatPm33
import Derived.Test.YtnigolgkkjidiaaGreatPm10
import Derived.Test.YtnigolgkkjidiaaGreatPm8
import Derived.Test.YtnigolgkkjidiaaGreatPm38
set_option linter.unusedVariables false
set_option linter.unusedSimpArgs false
set_option linter.unusedSectionVars false
set_option maxHeartbeats 1000000
namespace Go.Proofs.YtnigolgkkjidiaaGreat
open Go
attribute [local irreducible] SW SL SQ SH SA SS Pu Fin CutF HandF
abbrev stoC(d tr s bk p t:Nat)(ev tv:Value)(w:Bool)(st:Int):List Value:=[ptv d,ptv tr,ptv s,ptv bk,.int .i64 (p:Int),.int .i64 (t:Int),ev,tv,.bool w,.int .i64 st]
theorem sDown_p{sp d tr s bk p t:Nat}{ev tv:Value}{wr:Bool}{st e:Int}(o0:One ev)(o1:One tv):Tri Tryz.prog 71 [ptv sp,.int .i64 e] [(sp,cl (stoC d tr s bk p t ev tv wr st) 169)] (fun _=>True) (fun v H=>v=.int .i64 e∧H=[(sp,cl (stoC d tr s bk p t ev tv wr (if e=0 then st else 8)) 169)]):=by
 refine Tri.mk Tryz.func71 rfl Tryz.ntmps71 rfl fun w hw=>?_
 by_cases he:e=0
 ·rw [if_pos he]
  repeat' (first|(refine W.go ?_;try intro b_)|fail)
  refine Fin.to [(sp,cl (stoC d tr s bk p t ev tv wr st) 169)] ?_
  exact F.f1 ⟨rfl,rfl⟩
 ·rw [if_neg he]
  repeat' (first|(refine W.go ?_;try intro b_)|fail)
  rw [show (stoC d tr s bk p t ev tv wr st).set 9 (.int .i64 8)=stoC d tr s bk p t ev tv wr 8 from rfl]
  refine Fin.to [(sp,cl (stoC d tr s bk p t ev tv wr 8) 169)] ?_
  exact F.f1 ⟨rfl,rfl⟩
def rdK(p:Nat)(k:Int)(σ:Dv)(s:So)(β:Bk):Bk:=
 if s.st≠0 then β else if ¬ (0≤k∧k<(Gm.sealed p:Nat)) then β else if σ.down=true then β else β.add (leafT (Ks p k.toNat) (σ.blk (Ks p k.toNat)))
theorem sRead_p{sp d tr s bk tb p t c b n:Nat}{ws:List (List UInt8)}{sr:Sr}(h:Gm.Ok p t){σ:Dv}{x:So}{β:Bk}{Hd HS Hk Hs:Hp}(hx:x.Ok p)(hD:DevP d σ Hd)(hlen:σ.len=256*Gm.total p t)(hS:StoreP sp d tr s bk p t x HS)(hK:BookP bk tb β Hk)(hSe:SealP s c b n ws sr Hs)(hKo:KeyOk n ws)(k:Int) :
  Tri Tryz.prog 25 [ptv sp,.int .i64 k] (HS++(Hd++(Hs++Hk))) (fun _=>True)
  (fun v H=>∃ v1 Hr HS' Hk',v=.tuple #[v1,.int .i64 (rdS p (ctrX (Aes.enc ws n)) k σ x).1]∧Sl 5 1 v1 (cbs (rdS p (ctrX (Aes.enc ws n)) k σ x).2.1) Hr∧StoreP sp d tr s bk p t (rdS p (ctrX (Aes.enc ws n)) k σ x).2.2 HS'∧BookP bk tb (rdK p k σ x β) Hk'∧H=HS'++(Hd++(Hs++(Hk'++Hr)))):=by
 obtain⟨ev,tp,He,Ht,rfl,hE,hT⟩:=hS
 refine Tri.mk Tryz.func25 rfl Tryz.ntmps25 rfl fun w hw=>?_
 have oe:=hE.isOne
 have hst:=sState_p (sp:=sp) (F0:=stoC d tr s bk p t ev (ptv tp) x.w x.st) (st:=x.st) rfl
 by_cases h0:x.st≠0
 ·have e1:rdS p (ctrX (Aes.enc ws n)) k σ x=(x.st,[],x):=by unfold rdS;rw [if_pos h0]
  have e2:rdK p k σ x β=β:=by unfold rdK;rw [if_pos h0]
  rw [e1,e2]
  dsimp only
  have h0':¬ x.st=0:=h0
  repeat' (first|(refine W.go ?_;try intro b_)|fail)
  refine W.call hst ?_
  rintro _ _ ⟨rfl,rfl⟩
  repeat' (first|(refine W.go ?_;try intro b_)|fail)
  refine Fin.to (((sp,cl (stoC d tr s bk p t ev (ptv tp) x.w x.st) 169)::(He++Ht))++(Hd++(Hs++(Hk++[])))) ?_
  exact F.f2 ⟨_,[],_,Hk,rfl,Sl.nil _ _,⟨ev,tp,He,Ht,rfl,hE,hT⟩,hK,rfl⟩
 have h0':x.st=0:=Decidable.not_not.1 h0
 have hsa:=gsealedAt_p h k
 by_cases hk:¬ (0≤k∧k<(Gm.sealed p:Nat))
 ·have e1:rdS p (ctrX (Aes.enc ws n)) k σ x=(3,[],x):=by unfold rdS;rw [if_neg h0,if_pos hk]
  have e2:rdK p k σ x β=β:=by unfold rdK;rw [if_neg h0,if_pos hk]
  rw [e1,e2]
  dsimp only
  rw [show Gm.atK (Gm.sealed p) (1+Gm.epochs p) k = -1 by unfold Gm.atK;rw [if_neg hk]] at hsa
  repeat' (first|(refine W.go ?_;try intro b_)|fail)
  refine W.call hst ?_
  rintro _ _ ⟨rfl,rfl⟩
  repeat' (first|(refine W.go ?_;try intro b_)|fail)
  refine W.call hsa ?_
  rintro _ _ ⟨rfl,rfl⟩
  repeat' (first|(refine W.go ?_;try intro b_)|fail)
  refine Fin.to (((sp,cl (stoC d tr s bk p t ev (ptv tp) x.w x.st) 169)::(He++Ht))++(Hd++(Hs++(Hk++[])))) ?_
  exact F.f2 ⟨_,[],_,Hk,rfl,Sl.nil _ _,⟨ev,tp,He,Ht,rfl,hE,hT⟩,hK,rfl⟩
 have hk2:=Decidable.not_not.1 hk
 obtain⟨j,rfl⟩:∃ j:Nat,k=j:=⟨k.toNat,by omega⟩
 have hsl:=Gm.sealed_le h
 have hel:=Gm.epochs_le h
 have hLe:Gm.leaves p=1+Gm.epochs p+Gm.sealed p:=rfl
 have htot:Gm.total p t=Gm.leaves p+(1+t):=rfl
 have hKs:Ks p j=1+Gm.epochs p+j:=rfl
 rw [show Gm.atK (Gm.sealed p) (1+Gm.epochs p) (j:Int)=((Ks p j:Nat):Int) by unfold Gm.atK;rw [if_pos hk2,hKs];omega] at hsa
 have hKl:Ks p j<Gm.total p t:=by omega
 have hby:=gbytes_p (k:=Ks p j) (by have:=Gm.total_le2 h;omega)
 have hld:=load_p hD ((256*Ks p j:Nat):Int) 256
 have hr0:σ.rdy ((256*Ks p j:Nat):Int) 256=if σ.down=true then 8 else 0:=by
  unfold Dv.rdy
  split
  ·rfl
  ·rw [hlen,if_neg (by omega)]
 rw [hr0] at hld
 have hbk:(σ.blk (Ks p j))=σ.loadB ((256*Ks p j:Nat):Int) 256:=rfl
 have hsd:=fun e=>sDown_p (sp:=sp) (d:=d) (tr:=tr) (s:=s) (bk:=bk) (p:=p) (t:=t) (wr:=x.w) (st:=x.st) (e:=e) oe (show One (ptv tp) from inferInstance)
 by_cases hdn:σ.down=true
 ·have e1:rdS p (ctrX (Aes.enc ws n)) j σ x=(8,[],{ x with st:=8 }):=by unfold rdS;rw [if_neg h0,if_neg hk,if_pos hdn]
  have e2:rdK p j σ x β=β:=by unfold rdK;rw [if_neg h0,if_neg hk,if_pos hdn]
  rw [e1,e2]
  dsimp only
  rw [if_pos hdn] at hld
  have hsd8:=hsd 8
  rw [if_neg (show ¬ (8:Int)=0 by decide)] at hsd8
  repeat' (first|(refine W.go ?_;try intro b_)|fail)
  refine W.call hst ?_
  rintro _ _ ⟨rfl,rfl⟩
  repeat' (first|(refine W.go ?_;try intro b_)|fail)
  refine W.call hsa ?_
  rintro _ _ ⟨rfl,rfl⟩
  repeat' (first|(refine W.go ?_;try intro b_)|fail)
  (refine SW.rg [7] [0,1,2,3,4,5] ?_;(repeat' (first|refine SG.g ?_|fail));refine SS.effK 6 ?_ rfl (by kernel_rfl))
  refine W.call hby ?_
  rintro _ _ ⟨rfl,rfl⟩
  (refine SL.nilG [] ?_;refine SS.effB 7 ?_ rfl (by kernel_rfl))
  refine W.call hld ?_
  rintro _ _ ⟨sv,Hl,rfl,hsv,rfl⟩
  have hsv1:=hsv.isOne
  (refine SL.nilG [8,9,10,11,12,13] ?_;(repeat' (first|refine SG.g ?_|fail)))
  repeat' (first|(refine W.go ?_;try intro b_)|fail)
  refine W.call hsd8 ?_
  rintro _ _ ⟨rfl,rfl⟩
  repeat' (first|(refine W.go ?_;try intro b_)|fail)
  refine Fin.to (((sp,cl (stoC d tr s bk p t ev (ptv tp) x.w 8) 169)::(He++Ht))++(Hd++(Hs++(Hk++[])))) ?_
  exact F.f2 ⟨_,[],_,Hk,rfl,Sl.nil _ _,⟨ev,tp,He,Ht,rfl,hE,hT⟩,hK,rfl⟩
 have hsd0:=hsd 0
 rw [if_pos rfl] at hsd0
 rw [if_neg hdn,← hbk] at hld
 have hdn2:σ.down=false:=by simpa using hdn
 have hb256:(σ.blk (Ks p j)).length=256:=Dv.blk_256 hD.1 hdn2 hlen hKl
 have hlf:=fun v=>leaf_p hK (Ks p j) v (σ.blk (Ks p j)) (by rw [hb256];decide)
 have hat:=AtT_p hT ((Ks p j:Nat):Int) (by rw [hx.lv];have:=Gm.leaves_le h;omega)
 have e2:rdK p j σ x β=β.add (leafT (Ks p j) (σ.blk (Ks p j))):=by unfold rdK;rw [if_neg h0,if_neg hk,if_neg hdn];rfl
 have e1:rdS p (ctrX (Aes.enc ws n)) j σ x=if Sha.sum (leafT (Ks p j) (σ.blk (Ks p j)))≠leafV x.lv (Ks p j) then (20,[],{ x with st:=20 }) else (0,ctrX (Aes.enc ws n) (x.es.getD j 0) j (σ.blk (Ks p j)),x):=by unfold rdS;rw [if_neg h0,if_neg hk,if_neg hdn];rfl
 rw [e1,e2]
 clear e1 e2 hbk
 have hs32:(Sha.sum (leafT (Ks p j) (σ.blk (Ks p j)))).length=32:=Sha.sum_len _
 generalize σ.blk (Ks p j)=B at *
 generalize β.add (leafT (Ks p j) B)=β2 at *
 generalize Sha.sum (leafT (Ks p j) B)=S1 at *
 repeat' (first|(refine W.go ?_;try intro b_)|fail)
 refine W.call hst ?_
 rintro _ _ ⟨rfl,rfl⟩
 repeat' (first|(refine W.go ?_;try intro b_)|fail)
 refine W.call hsa ?_
 rintro _ _ ⟨rfl,rfl⟩
 repeat' (first|(refine W.go ?_;try intro b_)|fail)
 (refine SW.rg [7] [0,1,2,3,4,5] ?_;(repeat' (first|refine SG.g ?_|fail));refine SS.effK 6 ?_ rfl (by kernel_rfl))
 refine W.call hby ?_
 rintro _ _ ⟨rfl,rfl⟩
 (refine SL.nilG [] ?_;refine SS.effB 7 ?_ rfl (by kernel_rfl))
 refine W.call hld ?_
 rintro _ _ ⟨sv,Hl,rfl,hsv,rfl⟩
 have hsv1:=hsv.isOne
 (refine SL.nilG [8,9,10,11,12,13] ?_;(repeat' (first|refine SG.g ?_|fail)))
 repeat' (first|(refine W.go ?_;try intro b_)|fail)
 refine W.call hsd0 ?_
 rintro _ _ ⟨rfl,rfl⟩
 repeat' (first|(refine W.go ?_;try intro b_)|fail)
 (refine SW.rg [13] [0,1,2,3,4,5,6,8,9,10,11,12] ?_;(repeat' (first|refine SG.g ?_|fail));refine SS.effK 7 ?_ rfl (by kernel_rfl))
 refine W.call (hlf sv) ?_ (hpre:=fun w2 hs=>Rd.own (Hc:=Hk) hsv hs inferInstance)
 rintro _ Hk2 ⟨rfl,hK2⟩
 have hlv32:(leafV x.lv ((Ks p j:Nat):Int)).length=32:=leafV_len hx.d _
 (refine SL.nilG [] ?_;refine SS.effB 13 ?_ rfl (by kernel_rfl))
 refine W.call hat ?_
 rintro _ Hx ⟨rfl,hx2⟩
 have hx2:=hx2.symm
 subst hx2
 by_cases hne:S1=leafV x.lv ((Ks p j:Nat):Int)
 ·rw [if_neg (fun hh=>hh hne)]
  (refine SL.nilG [] ?_;refine SS.tw 14 rfl (p_neA_f rfl rfl rfl hs32 hne) ?_;refine SS.done ?_ (by kernel_rfl))
  have hen:x.es.length=Gm.sealed p:=hx.es
  rcases hE with ⟨-,hz,-⟩|⟨be,elen,ecap,ejunk,rfl,hexl,hej,hec,rfl⟩
  ·have h9:=uv_len x.es
   rw [hz,List.length_nil] at h9
   omega
  rw [uv_len] at hexl
  obtain rfl:elen=x.es.length:=by omega
  have hlu:(uv x.es++ejunk)[j]?=some (u64v (x.es.getD j 0)):=by rw [List.getElem?_append_left (by rw [uv_len];omega)];exact uv_at (by omega)
  have hso:=fun v=>SOpen_p hSe hKo (x.es.getD j 0) j (by omega) v B hb256
  repeat' (first|(refine W.go ?_;try intro b_)|fail)
  (refine SW.rg [14] [0,1,2,3,4,5,6,7,8,9,10,11,12,13] ?_;(repeat' (first|refine SG.g ?_|fail));refine SS.effB 14 ?_ rfl (by kernel_rfl))
  refine W.call (hso sv) ?_ (hpre:=fun w2 hs=>Rd.own (Hc:=Hs) hsv hs inferInstance)
  rintro _ _ ⟨q,rfl,rfl⟩
  (refine SL.nilG [15,16,17,18,19] ?_;(repeat' (first|refine SG.g ?_|fail)))
  repeat' (first|(refine W.go ?_;try intro b_)|fail)
  refine Fin.to (((sp,cl (stoC d tr s bk p t (.slice (some ⟨be,0,none⟩) x.es.length ecap) (ptv tp) x.w x.st) 169)::([(be,cl (uv x.es++ejunk) 28)]++Ht))++(Hd++(Hs++(Hk2++[(q,cl (cbs (ctrX (Aes.enc ws n) (x.es.getD j 0) j B)) 5)])))) ?_
  exact F.f2 ⟨_,_,_,Hk2,rfl,Sl.own _ 1 q (len:=256) (by rw [cbs_len];rw [ctrX_len (fun y=>Aes.enc_len ..)];exact hb256),⟨_,tp,_,Ht,rfl,.inr ⟨be,x.es.length,ecap,ejunk,rfl,by rw [uv_len,Nat.mul_one],hej,hec,rfl⟩,hT⟩,hK2,rfl⟩
 ·rw [if_pos hne]
  (refine SL.nilG [] ?_;refine SS.tw 14 rfl (p_neA_t rfl rfl rfl hs32 hlv32 hne) ?_;refine SS.done ?_ (by kernel_rfl))
  repeat' (first|(refine W.go ?_;try intro b_)|fail)
  rw [show (stoC d tr s bk p t ev (ptv tp) x.w x.st).set 9 (.int .i64 20)=stoC d tr s bk p t ev (ptv tp) x.w 20 from rfl]
  (refine SW.rg [] [0,1,2,3,4,5,6] ?_;(repeat' (first|refine SG.g ?_|fail)))
  repeat' (first|(refine W.go ?_;try intro b_)|fail)
  refine Fin.to (((sp,cl (stoC d tr s bk p t ev (ptv tp) x.w 20) 169)::(He++Ht))++(Hd++(Hs++(Hk2++[])))) ?_
  exact F.f2 ⟨_,[],_,Hk2,rfl,Sl.nil _ _,⟨ev,tp,He,Ht,rfl,hE,hT⟩,hK2,rfl⟩
theorem bGet_p{b sp d tr s bk tb p t c0 bb n:Nat}{ws:List (List UInt8)}{sr:Sr}{most:Int}{l:Bl}{H:Hp}(hB:BatP b sp most l H)(h:Gm.Ok p t){σ:Dv}{x:So}{β:Bk}{Hd HS Hk Hs:Hp}(hx:x.Ok p)(hD:DevP d σ Hd)(hlen:σ.len=256*Gm.total p t)(hS:StoreP sp d tr s bk p t x HS)(hK:BookP bk tb β Hk)(hSe:SealP s c0 bb n ws sr Hs)(hKo:KeyOk n ws){k:Int}{z:List UInt8}(hz:rdS p (ctrX (Aes.enc ws n)) k σ x=(0,z,x)) :
  Tri Tryz.prog 24 [ptv b,.int .i64 k] (H++(HS++(Hd++(Hs++Hk)))) (fun _=>True)
  (fun v H'=>∃ v1 Hr HS' Hk' β',v=.tuple #[v1,.int .i64 0]∧Sl 5 1 v1 (cbs ((l.at k).getD z)) Hr∧StoreP sp d tr s bk p t x HS'∧BookP bk tb β' Hk'∧H'=H++(HS'++(Hd++(Hs++(Hk'++Hr))))):=by
 have hR:=sRead_p h hx hD hlen hS hK hSe hKo k
 rw [hz] at hR
 obtain⟨m,c,es,Ht,rfl,rfl,hr⟩:=hB
 refine Tri.mk Tryz.func24 rfl Tryz.ntmps24 rfl fun w hw=>?_
 rw [at_plB]
 cases hq:atI es k with
 | some y=>
  have hmem:=List.mem_of_find?_eq_some hq
  obtain⟨hv,hl⟩:=hr y hmem
  have hv1:=hv.one
  repeat' (first|(refine W.go ?_;try intro b_)|fail)
  refine W.lkI ?_
  rw [hq]
  dsimp only [Option.map_some,Option.getD_some,Option.isSome_some]
  repeat' (first|(refine W.go ?_;try intro b_)|fail)
  refine W.call (Clone_p y.v y.bs (by omega)) ?_ (hpre:=fun w2 hs=>hv.rd (Hc:=[]) hs)
  intro v1 H1 h1
  have h11:=h1.isOne
  repeat' (first|(refine W.go ?_;try intro b_)|fail)
  refine Fin.to (((b,cl (batC sp m most) 163)::(m,moI es c)::Ht)++(HS++(Hd++(Hs++(Hk++H1))))) ?_
  exact F.f2 ⟨v1,H1,HS,Hk,β,rfl,h1,hS,hK,rfl⟩
 | none=>
  repeat' (first|(refine W.go ?_;try intro b_)|fail)
  refine W.lkI ?_
  rw [hq]
  dsimp only [Option.map_none,Option.getD_none,Option.isSome_none]
  repeat' (first|(refine W.go ?_;try intro b_)|fail)
  refine SL.callv (HS++(Hd++(Hs++Hk))) rfl rfl rfl rfl rfl rfl hR (fun _ _=>trivial) ?_
  rintro _ _ ⟨v1,Hr,HS',Hk',rfl,h1,hS',hK',rfl⟩
  have h11:=h1.isOne
  repeat' (first|(refine W.go ?_;try intro b_)|fail)
  refine Fin.to (((b,cl (batC sp m most) 163)::(m,moI es c)::Ht)++(HS'++(Hd++(Hs++(Hk'++Hr))))) ?_
  exact F.f2 ⟨v1,Hr,HS',Hk',_,rfl,h1,hS',hK',rfl⟩
def BegP(k:List UInt8)(pp b:Nat)(most:Int)(l:Bl)(H:Hp):Prop:=
 ∃ (i:Pid) (sp:Nat) (rv:Value) (σ:Dv) (x:So) (sr:Sr) (β:Bk) (Hd Hs Hk HS HB:Hp),DevP i.d σ Hd∧SealP i.s i.c i.b 10 (Aes.sched k) sr Hs∧BookP i.bk i.tb β Hk∧StoreP sp i.d i.tr i.s i.bk 3 4 x HS∧BatP b sp most l HB ∧
  x.Ok 3∧x.st=0∧σ.len=256*Gm.total 3 4∧(∀ j:Nat,j<5→rdS 3 (ctrX (Aes.enc (Aes.sched k) 10)) (j:Int) σ x=(0,List.replicate 256 0,x)) ∧
  H=(pp,cl (pairC i 3 4 (ptv sp) rv) 43)::(Hd++(Hs++(Hk++(HS++HB))))
end Go.Proofs.YtnigolgkkjidiaaGreat
