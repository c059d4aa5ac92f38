/- An act of which nothing is too long: any act. -/
import Derived.Test.YtdfclocfackkmaaGreatPm31
set_option linter.unusedVariables false
set_option linter.unusedSimpArgs false
set_option linter.unusedSectionVars false
set_option maxHeartbeats 4000000
namespace Go.Proofs.YtdfclocfackkmaaGreat
open Go Go.Proofs.Tryz
section
attribute [local irreducible] SW SL SQ SH SA SS Pu Fin bS aN
theorem aQv(m:Int)(q:Nat)(hq:q<1000):∃ r:Nat,r<=q/\UAr .and .i64 m (q:Int) (r:Int):=by
 have hq2:(BitVec.ofInt 64 (q:Int)).toNat=q:=by rw [iN];omega
 have hle:(BitVec.ofInt 64 m &&& BitVec.ofInt 64 (q:Int)).toNat<=q:=by rw [sQ,hq2];exact Nat.and_le_right
 refine⟨(BitVec.ofInt 64 m &&& BitVec.ofInt 64 (q:Int)).toNat,hle,⟨fun P w t=>?_⟩⟩;have hw:IntKind.i64.wrap (((BitVec.ofInt 64 m &&& BitVec.ofInt 64 (q:Int)).toNat:Nat):Int)=(((BitVec.ofInt 64 m &&& BitVec.ofInt 64 (q:Int)).toNat:Nat):Int):=w64 oQ;simp only [binOp,Op.intBits,ne_eq,not_true_eq_false,if_false,Sem.run_pure];exact congrArg (fun z=>Result.ok (Value.int .i64 z) w) hw
theorem aDp.rowQ{w:World}{v:Value}{us:LV}{l:List Ent}(h:aDp w v us l):∃ (a:Option Addr) (cap:Nat),v=.slice a l.length cap/\l.length<=cap /\ ∀ (i:Nat) (x:Ent),l[i]?=some x->∃ (u:Value) (b o:Nat) (lv:LV) (T:TypeId) (fz:Nat×Nat),us[i]?=some u/\Rd [] w 1 u (cbs x.2)/\a=some ⟨b,o,none⟩/\w.heap[b]?=some (.cells lv.toArray T fz)/\b∉([]:List Nat)/\(lv.drop (o+i*2)).take 2=[.int .i64 x.1,u]:=by
 obtain⟨h1,h2,h3⟩:=h;unfold eH at h1;obtain⟨a,ca,rfl,hcap,hg⟩:=h1.rows dQ (nH us l);have hzl:(List.zipWith (fun u (x:Ent)=>[Value.int .i64 x.1,u]) us l).length=l.length:=by rw [fZ,h2,iS]
 rw [hzl] at hcap |-;refine⟨a,ca,rfl,hcap,fun i x hx=>?_⟩;obtain⟨u,hu,hru⟩:=h3 i x hx;obtain⟨b,o,lv,T,fz,ha,hb,hk,hv⟩:=hg i [.int .i64 x.1,u] (by rw [eV,hu,hx]);exact⟨u,b,o,lv,T,fz,hu,hru,ha,hb,hk,hv⟩
theorem aCh(K:Int)(a:Option Addr)(n c:Nat):bV (fun i=>some (i*2,2)) (zs [.int .i64 0,.slice none 0 0] 1) [(0,.agg [.int .i64 K,.slice a n c].toArray)]=some [.int .i64 K,.slice a n c]:=rfl
def ctV(n:Nat):Value->Value
 | .slice a len cap=>.slice a (min n len) cap
 | v=>v
theorem aJ7{K:List Nat}{w:World}{v:Value}{bs:LB}(h:Rd K w 1 v (cbs bs))(n:Nat):Rd K w 1 (ctV n v) (cbs (bs.take n)):=by obtain⟨a,len,cap,rfl,-⟩:=h.get;exact Rd.pre n h
structure zM(full:Bool)(HQ:Hp)(us:LV)(l:List Ent)(us':LV)(l':List Ent):Prop where
 ul:us'.length=l'.length
 n:l'.length=min 26 l.length
 ent:∀ (i:Nat) (x':Ent),l'[i]?=some x'->∃ u',us'[i]?=some u'/\One u'/\x'.2.length<=260/\((RdH HQ u' x'.2/\x'.2.length=256)\/∃ u x,us[i]?=some u/\l[i]?=some x/\u'=ctV 260 u/\x'=(x.1,x.2.take 260))
theorem zM.nil(full:Bool)(us:LV)(l:List Ent)(HQ:Hp):zM full HQ us (l.take 0) [] []:=⟨rfl,by simp,by simp⟩
theorem zM.snoc{full:Bool}{HQ:Hp}{us:LV}{l:List Ent}{k:Nat}{us2:LV}{l2:List Ent}(h:zM full HQ us (l.take k) us2 l2)(hk:k<26){z:Ent}(hz:l[k]?=some z){u':Value}{x':Ent}{H1:Hp}(ho:One u')(hn:x'.2.length<=260) (hc:(RdH H1 u' x'.2/\x'.2.length=256)\/∃ u x,us[k]?=some u/\l[k]?=some x/\u'=ctV 260 u/\x'=(x.1,x.2.take 260)):zM full (HQ++H1) us (l.take (k+1)) (us2++[u']) (l2++[x']):=by
 have hkl:k<l.length:=(aD.1 hz).1;have hl2:l2.length=k:=by have:=h.n;rw [aH] at this;omega
 have hu2:us2.length=k:=by have:=h.ul;omega
 refine⟨by rw [aB,aB,h.ul];rfl,by rw [aB,aH,hl2];simp;omega,fun i y hy=>?_⟩;by_cases hi:i<k
 ·rw [aJ oQ] at hy;obtain⟨u,h1,h2,h3,h4⟩:=h.ent i y hy;refine⟨u,by rw [aJ oQ];exact h1,h2,h3,h4.imp (fun h5=>⟨h5.1.mono fun z hz=>aO _ hz,h5.2⟩) fun⟨a,b,e1,e2,e3,e4⟩=>⟨a,b,e1,?_,e3,e4⟩⟩;rw [bD,if_pos oQ];rw [bD,if_pos hi] at e2;exact e2
 have hik:i=k:=by have:=(aD.1 hy).1;rw [aB] at this;simp at this;omega
 subst hik;rw [aV oQ,hl2,dO] at hy;simp only [jF,cR] at hy;subst hy;refine⟨u',by rw [aV oQ,hu2,dO];rfl,ho,hn,hc.imp (fun h5=>⟨h5.1.mono fun z hz=>aM _ hz,h5.2⟩) fun⟨a,b,e1,e2,e3,e4⟩=>⟨a,b,e1,?_,e3,e4⟩⟩;rw [bD,if_pos oQ];exact e2
theorem zM.all{full:Bool}{HQ:Hp}{us:LV}{l:List Ent}{k:Nat}{us2:LV}{l2:List Ent}(h:zM full HQ us (l.take k) us2 l2)(hk:k=26\/k=l.length):zM full HQ us l us2 l2:=⟨h.ul,by have:=h.n;rw [aH] at this;omega,fun i y hy=>by
 obtain⟨u,h1,h2,h3,h4⟩:=h.ent i y hy
 refine⟨u,h1,h2,h3,h4.imp id fun⟨a,b,e1,e2,e3,e4⟩=>⟨a,b,e1,?_,e3,e4⟩⟩
 rw [bD] at e2
 split at e2
 ·exact e2
 ·cases e2⟩
theorem aDo(o:lU)(us:LV)(l:List Ent)(hl:l.length<=maxLen):Tri prog 21 [.agg o.c.toArray] [] (fun w=>aDp w o.lv us l/\(∃ b,Rd [] w 1 o.bv (cbs b))/\(∃ q,Rd [] w 1 o.pv (cbs q))) (fun v H=>∃ (lv':Value) (r:Nat) (us':LV) (l':List Ent) (HO HQ:Hp),v=.agg (lU.c ⟨o.kind,lv',o.full,o.k,(r:Int),o.at',ctV 300 o.bv,o.wr,ctV 12 o.pv⟩).toArray/\r<=127/\Sl 166 2 lv' (eH us' l') HO/\zM o.full HQ us l us' l'/\H=HO++HQ):=by
 obtain⟨kind,lv,full,kk,n,at',bv,wr,pv⟩:=o;dsimp only [lU.c];refine Tri.mt func21 ntmps21 fun w hw=>?_;obtain⟨hE,⟨b,hb⟩,⟨q,hq⟩⟩:=hw;obtain⟨a,ca,rfl,hcap,hg⟩:=hE.rowQ;obtain⟨bva,bvl,bvc,rfl,hbl,hbc,-⟩:=hb.get;obtain⟨pva,pvl,pvc,rfl,hql,hqc,-⟩:=hq.get;obtain⟨r,hr,hU⟩:=aQv n 127 dQ;haveI n1:eB (260:Int) 260:=⟨rfl⟩;haveI n2:eB (300:Int) 300:=⟨rfl⟩;haveI n3:eB (12:Int) 12:=⟨rfl⟩;have hml:l.length<=9223372036854775807:=cZ hl dQ;have ec:∀ (m:Nat) (a:Option Addr) (n c:Nat),ctV m (.slice a n c)=.slice a (min m n) c:=fun _ _ _ _=>rfl;rw [ec,ec];refine W.j fun _ b_=>?_;rename_i b1;refine bP [1,2] [] (fun y:Value×LV×List Ent×Hp×Hp=>[(3,y.1)]) (fun y=>y.2.2.2.1++y.2.2.2.2) (fun y=>Sl 166 2 y.1 (eH y.2.1 y.2.2.1) y.2.2.2.1/\zM full y.2.2.2.2 us l y.2.1 y.2.2.1) ?_ ?_
 ·refine W.k ?_;refine bE [1,2,7,8] (fun y:Nat×Value×LV×List Ent×Hp×Hp=>[(3,y.2.1),(9,.int .i64 (y.1:Int))]) (fun y=>y.2.2.2.2.1++y.2.2.2.2.2) (fun y=>l.length-y.1) (fun y=>y.1<=l.length/\y.1<=26/\Sl 166 2 y.2.1 (eH y.2.2.1 y.2.2.2.1) y.2.2.2.2.1/\zM full y.2.2.2.2.2 us (l.take y.1) y.2.2.1 y.2.2.2.1) (0,.slice none 0 0,[],[],[],[]) ⟨Nat.zero_le _,Nat.zero_le _,Sl.nil _ _,zM.nil _ _ _ _⟩ ?_;rintro⟨k,ov,us2,l2,HO,HQ⟩ ⟨hk,hk26,hO,hC⟩;dsimp only at hk hk26 hO hC |-;have oO:=hO.isOne;have hl2:l2.length=k:=by have:=hC.n;rw [aH] at this;omega
  have hul2:us2.length=l2.length:=hC.ul;have hecl:=fL us2 l2 hul2;by_cases hkn:k<l.length
  ·have hx0:=aA hkn;obtain⟨u,pb,po,plv,T,fz,huk,hru,rfl,hb2,hbk,hv⟩:=hg k _ hx0;generalize l[k]=z at *;have huo:=hru.isOne;obtain⟨ua,ul,uc,rfl,hul3,huc,-⟩:=hru.get;rw [aI,Nat.mul_one] at hul3;by_cases h26:k<26
   ·have hsn:=fun (u':Value) (x':Ent) (H1:Hp) ho hn hc=>hC.snoc h26 hx0 (u':=u') (x':=x') (H1:=H1) ho hn hc;by_cases h260:260<ul
    ·have hR2:=Rd.pre 260 hru;rw [show min 260 ul=260 by omega] at hR2;have hcv:ctV 260 (.slice ua ul uc)=.slice ua 260 uc:=by rw [ec,show min 260 ul=260 by omega]
     obtain⟨b0,o0,-,-,-,-,rfl,-⟩:=hru.lastAt oQ;cases full with
     | true=>
      have hfu:=aJF (.slice (some ⟨b0,o0,none⟩) 260 uc) (z.2.take 260)
      refine W.k fun b_=>?_
      refine aF hfu ?_ (hpre:=fun w2 hs=>hR2.ro (Hc:=[]) hs)
      rintro v1 H1 ⟨ds,hds,h1⟩
      have h11:=h1.isOne
      have hRd:=RdH.of h1
      obtain⟨a1,n1,c1,rfl,-⟩:=h1.form
      have hbe:=aCh z.1 a1 n1 c1
      refine W.k fun b_=>?_
      refine W.ap (ys:=[.int .i64 z.1,.slice a1 n1 c1]) (mm:=1) hO (fun w2 hs=>(Sl.own 166 2 b_ (len:=1) (xs:=[.int .i64 z.1,.slice a1 n1 c1]) rfl).srcAt hs inferInstance) (fun ov2 HO2 hO2=>?_) (hys:=rfl) (hbytes:=by rw [hecl];simp;omega)
      have oO2:=hO2.isOne
      have hLs:=kL hul2 (.slice a1 n1 c1) (z.1,ds)
      dsimp only at hLs
      rw [<-hLs] at hO2
      refine W.k ?_
      refine aN.mk (k+1,ov2,us2++[.slice a1 n1 c1],l2++[(z.1,ds)],HO2,HQ++H1) ?_
      exact⟨hkn,h26,hO2,hsn _ _ _ inferInstance (by dsimp only;omega) (.inl ⟨hRd,hds⟩)⟩
     | false=>
      have hbe:=aCh z.1 (some ⟨b0,o0,none⟩) 260 uc
      refine W.k fun _ b_=>?_
      refine W.ap (ys:=[.int .i64 z.1,.slice (some ⟨b0,o0,none⟩) 260 uc]) (mm:=1) hO (fun w2 hs=>(Sl.own 166 2 b_ (len:=1) (xs:=[.int .i64 z.1,.slice (some ⟨b0,o0,none⟩) 260 uc]) rfl).srcAt hs inferInstance) (fun ov2 HO2 hO2=>?_) (hys:=rfl) (hbytes:=by rw [hecl];simp;omega)
      have oO2:=hO2.isOne
      have hLs:=kL hul2 (.slice (some ⟨b0,o0,none⟩) 260 uc) (z.1,z.2.take 260)
      dsimp only at hLs
      rw [<-hLs] at hO2
      refine W.k ?_
      refine aN.mk (k+1,ov2,us2++[.slice (some ⟨b0,o0,none⟩) 260 uc],l2++[(z.1,z.2.take 260)],HO2,HQ++[]) ?_
      exact⟨hkn,h26,hO2,hsn _ _ _ inferInstance (by dsimp only;rw [aH];omega) (.inr ⟨_,_,huk,hx0,hcv.symm,rfl⟩)⟩
    have htk:z.2.take 260=z.2:=aK oQ;have hcv:ctV 260 (.slice ua ul uc)=.slice ua ul uc:=by rw [ec,show min 260 ul=ul by omega]
    cases full with
    | true=>
     have hfu:=aJF (.slice ua ul uc) z.2
     refine W.k fun b_=>?_
     refine aF hfu ?_ (hpre:=fun w2 hs=>hru.ro (Hc:=[]) hs)
     rintro v1 H1 ⟨ds,hds,h1⟩
     have h11:=h1.isOne
     have hRd:=RdH.of h1
     obtain⟨a1,n1,c1,rfl,-⟩:=h1.form
     have hbe:=aCh z.1 a1 n1 c1
     refine W.k fun b_=>?_
     refine W.ap (ys:=[.int .i64 z.1,.slice a1 n1 c1]) (mm:=1) hO (fun w2 hs=>(Sl.own 166 2 b_ (len:=1) (xs:=[.int .i64 z.1,.slice a1 n1 c1]) rfl).srcAt hs inferInstance) (fun ov2 HO2 hO2=>?_) (hys:=rfl) (hbytes:=by rw [hecl];simp;omega)
     have oO2:=hO2.isOne
     have hLs:=kL hul2 (.slice a1 n1 c1) (z.1,ds)
     dsimp only at hLs
     rw [<-hLs] at hO2
     refine W.k ?_
     refine aN.mk (k+1,ov2,us2++[.slice a1 n1 c1],l2++[(z.1,ds)],HO2,HQ++H1) ?_
     exact⟨hkn,h26,hO2,hsn _ _ _ inferInstance (by dsimp only;omega) (.inl ⟨hRd,hds⟩)⟩
    | false=>
     have hbe:=aCh z.1 ua ul uc
     refine W.k fun _ b_=>?_
     refine W.ap (ys:=[.int .i64 z.1,.slice ua ul uc]) (mm:=1) hO (fun w2 hs=>(Sl.own 166 2 b_ (len:=1) (xs:=[.int .i64 z.1,.slice ua ul uc]) rfl).srcAt hs inferInstance) (fun ov2 HO2 hO2=>?_) (hys:=rfl) (hbytes:=by rw [hecl];simp;omega)
     have oO2:=hO2.isOne
     have hLs:=kL hul2 (.slice ua ul uc) (z.1,z.2)
     dsimp only at hLs
     rw [<-hLs] at hO2
     refine W.k ?_
     refine aN.mk (k+1,ov2,us2++[.slice ua ul uc],l2++[(z.1,z.2)],HO2,HQ++[]) ?_
     exact⟨hkn,h26,hO2,hsn _ _ _ inferInstance (by dsimp only;omega) (.inr ⟨_,_,huk,hx0,hcv.symm,by rw [htk]⟩)⟩
   refine W.k fun b_=>?_;refine bS.mk (ov,us2,l2,HO,HQ) ?_;exact⟨hO,hC.all (.inl oQ)⟩
  refine W.k ?_;refine bS.mk (ov,us2,l2,HO,HQ) ?_;exact⟨hO,hC.all (.inr oQ)⟩
 rintro⟨ov,us2,l2,HO,HQ⟩ ⟨hO,hC⟩;dsimp only at hO hC |-;have oO:=hO.isOne;clear hg hE;by_cases hB:300<bvl
 ·obtain⟨b0,o0,-,-,-,-,rfl,-⟩:=hb.lastAt oQ;rw [show min 300 bvl=300 by omega];by_cases hP:12<pvl
  ·obtain⟨b2,o2,-,-,-,-,rfl,-⟩:=hq.lastAt oQ;rw [show min 12 pvl=12 by omega];refine W.k ?_;refine F.cH (HO++HQ) (lU.c ⟨kind,ov,full,kk,(r:Int),at',.slice (some ⟨b0,o0,none⟩) 300 bvc,wr,.slice (some ⟨b2,o2,none⟩) 12 pvc⟩) ?_;exact⟨ov,r,us2,l2,HO,HQ,rfl,hr,hO,hC,rfl⟩
  rw [show min 12 pvl=pvl by omega];refine W.k ?_;refine F.cH (HO++HQ) (lU.c ⟨kind,ov,full,kk,(r:Int),at',.slice (some ⟨b0,o0,none⟩) 300 bvc,wr,.slice pva pvl pvc⟩) ?_;exact⟨ov,r,us2,l2,HO,HQ,rfl,hr,hO,hC,rfl⟩
 rw [show min 300 bvl=bvl by omega];by_cases hP:12<pvl
 ·obtain⟨b2,o2,-,-,-,-,rfl,-⟩:=hq.lastAt oQ;rw [show min 12 pvl=12 by omega];refine W.k ?_;refine F.cH (HO++HQ) (lU.c ⟨kind,ov,full,kk,(r:Int),at',.slice bva bvl bvc,wr,.slice (some ⟨b2,o2,none⟩) 12 pvc⟩) ?_;exact⟨ov,r,us2,l2,HO,HQ,rfl,hr,hO,hC,rfl⟩
 rw [show min 12 pvl=pvl by omega];refine W.k ?_;refine F.cH (HO++HQ) (lU.c ⟨kind,ov,full,kk,(r:Int),at',.slice bva bvl bvc,wr,.slice pva pvl pvc⟩) ?_;exact⟨ov,r,us2,l2,HO,HQ,rfl,hr,hO,hC,rfl⟩
def xW:LV->LL->Hp->Prop
 | [],[],H=>H=[]
 | u::us,b::bs,H=>∃ H1 H2,H=H1++H2/\Sl 5 1 u (cbs b) H1/\xW us bs H2
 | _,_,_=>False
theorem xW.snoc:∀ {us:LV} {bss:LL} {H:Hp} {u:Value} {b:LB} {H1:Hp},xW us bss H->Sl 5 1 u (cbs b) H1->xW (us++[u]) (bss++[b]) (H++H1)
 | [],[],_,u,b,H1,h,h1=>by subst h;exact⟨H1,[],by simp,h1,rfl⟩
 | _::us,_::bss,_,u,b,H1,⟨Ha,Hb,e,h2,h3⟩,h1=>by subst e;exact⟨Ha,Hb++H1,by rw [aT],h2,h3.snoc h1⟩
theorem xW.rb:∀ {us:LV} {bss:LL} {H:Hp},xW us bss H->RB H us bss
 | [],[],_,_=>RB.nil _
 | u::us,b::bss,_,⟨Ha,Hb,e,h2,h3⟩=>by
  subst e;have ih:=(xW.rb h3).mono (H':=Ha++Hb) fun y hy=>aM _ hy;refine⟨by simp [ih.1],fun i c hi=>?_⟩;cases i with
  | zero=>
   simp only [jF,cR] at hi |-
   subst hi
   exact⟨u,rfl,(RdH.of h2).mono fun y hy=>aO _ hy⟩
  | succ i=>simpa using ih.2 i c (by simpa using hi)
theorem xW.drop:∀ {us:LV} {bss:LL} {H:Hp} {k:Nat} {u:Value},xW (us.drop k) (bss.drop k) H->us[k]?=some u->∃ b H1 H2,H=H1++H2/\bss[k]?=some b/\Sl 5 1 u (cbs b) H1/\xW (us.drop (k+1)) (bss.drop (k+1)) H2:=by
 intro us bss H k u h hu;have hk:=(aD.1 hu).1;rw [bK hk,show us[k]=u from (aD.1 hu).2] at h;by_cases hb:k<bss.length
 ·rw [bK hb] at h;obtain⟨H1,H2,e,h1,h2⟩:=h;exact⟨_,H1,H2,e,aA hb,h1,h2⟩
 rw [show bss.drop k=[] from cQ oQ] at h;simp [xW] at h
theorem aGV(v:Value)(us:LV)(l:List Ent)(hn:l.length<=1000)(h2:∀ x∈l,x.2.length<=1000000):Tri prog 36 [v] [] (fun w=>aDp w v us l) (fun r H=>∃ us' HE HQ,Sl 112 2 r (eH us' l) HE/\xW us' (l.map Prod.snd) HQ/\H=HE++HQ):=by
 refine Tri.mt func36 ntmps36 fun w hw=>?_;obtain⟨a,ca,rfl,hcap,hg⟩:=hw.rowQ;refine W.j ?_;refine bP [] [] (fun y:Value×LV×Hp×Hp=>[(3,y.1)]) (fun y=>y.2.2.1++y.2.2.2) (fun y=>Sl 112 2 y.1 (eH y.2.1 l) y.2.2.1/\xW y.2.1 (l.map Prod.snd) y.2.2.2) ?_ ?_
 ·refine W.k ?_;refine bE [6,7] (fun y:Nat×Value×LV×Hp×Hp=>[(3,y.2.1),(8,.int .i64 (y.1:Int))]) (fun y=>y.2.2.2.1++y.2.2.2.2) (fun y=>l.length-y.1) (fun y=>y.1<=l.length/\Sl 112 2 y.2.1 (eH y.2.2.1 (l.take y.1)) y.2.2.2.1/\xW y.2.2.1 ((l.take y.1).map Prod.snd) y.2.2.2.2) (0,.slice none 0 0,[],[],[]) ⟨Nat.zero_le _,Sl.nil _ _,rfl⟩ ?_;rintro⟨k,ov,us2,HO,HQ2⟩ ⟨hk,hO,hR2⟩;dsimp only at hk hO hR2 |-;have oO:=hO.isOne;by_cases hkn:k<l.length
  ·have hx0:=aA hkn;have hx3:=h2 _ (dG hkn);obtain⟨u,pb,po,plv,T,fz,huk,hru,rfl,hb2,hbk,hv⟩:=hg k _ hx0;have htk:l.take (k+1)=l.take k++[l[k]]:=by rw [aY,hx0];rfl
   have htkl:(l.take k).length=k:=by rw [aH];omega
   have hul2:us2.length=(l.take k).length:=by rw [hR2.rb.1,aC]
   have hecl:=fL us2 _ hul2;have huo:=hru.isOne;have hLs:=fun v=>kL hul2 v l[k];rw [<-htk] at hLs;generalize l[k]=z at *;refine W.k fun b_=>?_;generalize b_=eb2;(refine SW.l [8,9] [0,1,2,4,5] ?_;refine aX 3 ?_);refine aNi fun b0=>?_;(refine bB [] ?_;refine aX 6 ?_);have h0:Sl 5 1 (.slice (some ⟨b0,0,none⟩) 0 0) [] [(b0,cl ([]:LV) 5)]:=Sl.mk (xs:=[]) (junk:=[]) (len:=0) (cap:=0) rfl rfl (Nat.le_refl _);refine W.ap h0 (ys:=cbs z.2) (mm:=z.2.length) (fun w2 hs=>by obtain⟨m,h1,h2⟩:=(hru.ro (Hc:=[]) hs).src;rw [aI,Nat.mul_one] at h2;rw [h2];exact h1) (fun v1 H1 h1=>?_) (hys:=by rw [aI,Nat.mul_one]) (hbytes:=by rw [aI];simp;omega);have h11:=h1.isOne;rw [List.nil_append] at h1;have h1s:=h1;obtain⟨a1,n1,c1,rfl,-⟩:=h1.form;(refine SL.l [7] ?_;refine bL 8 ?_);refine iQ (fun b7=>?_) (hr:=aCh ..);(refine bB [] ?_;refine bL 9 ?_);refine W.ap (ys:=[.int .i64 z.1,.slice a1 n1 c1]) (mm:=1) hO (fun w2 hs=>(Sl.own 112 2 b7 (len:=1) (xs:=[.int .i64 z.1,.slice a1 n1 c1]) rfl).srcAt hs inferInstance) (fun ov2 HO2 hO2=>?_) (hys:=rfl) (hbytes:=by rw [hecl,htkl];simp;omega);have oO2:=hO2.isOne;rw [<-hLs] at hO2;have hR3:xW (us2++[.slice a1 n1 c1]) ((l.take (k+1)).map Prod.snd) (HQ2++H1):=by rw [htk,aZ];exact hR2.snoc h1s
   (refine SL.l [10,11] ?_);refine W.k ?_;refine aN.mk (k+1,ov2,us2++[.slice a1 n1 c1],HO2,HQ2++H1) ?_;exact⟨hkn,hO2,hR3⟩
  have hkl:k=l.length:=oQ;rw [hkl,bO] at hO hR2;subst hkl;refine W.k ?_;refine bS.mk (ov,us2,HO,HQ2) ?_;exact⟨hO,hR2⟩
 rintro⟨ov,us2,HO,HQ2⟩ ⟨hO,hR2⟩;dsimp only at hO hR2 |-;have oO:=hO.isOne;refine W.k ?_;refine Fin.to (HO++HQ2) ?_;exact F.f1 ⟨us2,HO,HQ2,hO,hR2,rfl⟩
end
def rV(K:List Nat)(w:World)(v:Value)(us:LV)(l:List Ent):Prop:=Rd K w 2 v (eH us l)/\us.length=l.length/\∀ (i:Nat) (x:Ent),l[i]?=some x->∃ u,us[i]?=some u/\Rd K w 1 u (cbs x.2)
theorem rV.ro{K:List Nat}{w0 w:World}{H Hc r:Hp}{v:Value}{us:LV}{l:List Ent}(h:rV K w0 v us l)(hs:St K w0 H w) [hp:eY H Hc r]:rV (Hc.map Prod.fst) w v us l:=
 ⟨h.1.ro hs,h.2.1,fun i x hx=>let ⟨u,h1,h2⟩:=h.2.2 i x hx;⟨u,h1,h2.ro hs⟩⟩
theorem rV.le{K:List Nat}{w:World}{v:Value}{us:LV}{l:List Ent}(h:rV K w v us l):LE us l:=⟨h.2.1,fun i x hx=>by
 obtain⟨u,h1,h2⟩:=h.2.2 i x hx
 obtain⟨a,n,c,rfl,hn,-⟩:=h2.get
 rw [aI,Nat.mul_one] at hn
 subst hn
 exact⟨a,c,h1⟩⟩
theorem rV.oc{K:List Nat}{w:World}{v:Value}{us:LV}{l:List Ent}(h:rV K w v us l):OC us:=⟨fun u hu=>by
 obtain⟨i,hi⟩:=cW.1 hu
 have hk:=(aD.1 hi).1
 obtain⟨u',h1,h2⟩:=h.2.2 i _ (aA (show i<l.length by have:=h.2.1;omega))
 rw [hi] at h1
 cases h1
 exact h2.isOne.ok⟩
theorem eY.swap{H Hc A B r:Hp}(hp:eY H (Hc++(A++B)) r):eY H (Hc++A) (B++r)/\eY H (Hc++B) (A++r):=by have h:=hp.perm;refine⟨⟨by simpa [aT] using h⟩,⟨h.trans ?_⟩⟩;rw [aT,aT,aT];exact List.Perm.append_left Hc (List.perm_append_comm_assoc ..)
theorem zM.ents{K:List Nat}{w0 w:World}{full:Bool}{HO HQ H r:Hp}{us us':LV}{l l':List Ent}{v ov:Value}(Hc:Hp)(h:zM full HQ us l us' l')(hE:rV K w0 v us l)(hO:Sl 166 2 ov (eH us' l') HO)(hs:St K w0 H w) [hp:eY H (Hc++(HO++HQ)) r]:rV (Hc.map Prod.fst) w ov us' l':=by
 obtain⟨h1,h2⟩:=hp.swap;have h3:eY H Hc ((HO++HQ)++r):=⟨by have:=hp.perm;rwa [aT] at this⟩;refine⟨Rd.own hO hs h1,h.ul,fun i x' hx'=>?_⟩;obtain⟨u',hu',-,-,hc⟩:=h.ent i x' hx';refine⟨u',hu',?_⟩;rcases hc with ⟨hc,-⟩|⟨u,x,e1,e2,rfl,rfl⟩
 ·exact hc.rd (hp:=h2) hs
 obtain⟨u2,e3,e4⟩:=hE.2.2 i x e2;rw [e1] at e3;cases e3;exact (aJ7 e4 260).ro (hp:=h3) hs
end Go.Proofs.YtdfclocfackkmaaGreat
