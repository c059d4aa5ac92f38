/- An act of which nothing is too long: any act. -/
import Derived.Test.YtnhnpjokpelkbaaGreatPp31
set_option linter.unusedVariables false
set_option linter.unusedSimpArgs false
set_option linter.unusedSectionVars false
set_option maxHeartbeats 4000000
namespace Go.Proofs.YtnhnpjokpelkbaaGreat
open Go Go.Proofs.Tryz
section
attribute [local irreducible] SW SL SQ SH SA SS Pu Fin bT aQ
theorem aPI(m:Int)(q:Nat)(hq:q<1000):∃ r:Nat,r≤q∧UAr .and .i64 m (q:Int) (r:Int):=by
 have hq2:(BitVec.ofInt 64 (q:Int)).toNat=q:=by rw [iU];omega
 have hle:(BitVec.ofInt 64 m &&& BitVec.ofInt 64 (q:Int)).toNat≤q:=by rw [tF,hq2];exact Nat.and_le_right
 refine⟨(BitVec.ofInt 64 m &&& BitVec.ofInt 64 (q:Int)).toNat,hle,⟨fun P w t=>?_⟩⟩
 have hw:IntKind.i64.wrap (((BitVec.ofInt 64 m &&& BitVec.ofInt 64 (q:Int)).toNat:Nat):Int)=(((BitVec.ofInt 64 m &&& BitVec.ofInt 64 (q:Int)).toNat:Nat):Int):=w64 oQ
 simp only [binOp,Op.intBits,ne_eq,not_true_eq_false,if_false,Sem.run_pure]
 exact congrArg (fun z=>Result.ok (Value.int .i64 z) w) hw
theorem aC8.rowQ{w:World}{v:Value}{us:List Value}{l:List Ent}(h:aC8 w v us l):∃ (a:Option Addr) (cap:Nat),v=.slice a l.length cap∧l.length≤cap ∧
  ∀ (i:Nat) (x:Ent),l[i]?=some x→∃ (u:Value) (b o:Nat) (lv:List Value) (T:TypeId) (fz:Nat×Nat),us[i]?=some u∧Rd [] w 1 u (cbs x.2)∧a=some ⟨b,o,none⟩∧w.heap[b]?=some (.cells lv.toArray T fz)∧b∉([]:List Nat)∧(lv.drop (o+i*2)).take 2=[.int .i64 x.1,u]:=by
 obtain⟨h1,h2,h3⟩:=h
 unfold eD at h1
 obtain⟨a,ca,rfl,hcap,hg⟩:=h1.rows dQ (mW us l)
 have hzl:(List.zipWith (fun u (x:Ent)=>[Value.int .i64 x.1,u]) us l).length=l.length:=by rw [fL,h2,iN]
 rw [hzl] at hcap ⊢
 refine⟨a,ca,rfl,hcap,fun i x hx=>?_⟩
 obtain⟨u,hu,hru⟩:=h3 i x hx
 obtain⟨b,o,lv,T,fz,ha,hb,hk,hv⟩:=hg i [.int .i64 x.1,u] (by rw [eK,hu,hx])
 exact⟨u,b,o,lv,T,fz,hu,hru,ha,hb,hk,hv⟩
theorem aB2(K:Int)(a:Option Addr)(n c:Nat):bX (fun i=>some (i*2,2)) (zs [.int .i64 0,.slice none 0 0] 1) [(0,.agg [.int .i64 K,.slice a n c].toArray)]=some [.int .i64 K,.slice a n c]:=rfl
def ctV(n:Nat):Value→Value
 | .slice a len cap=>.slice a (min n len) cap
 | v=>v
theorem aJx{K:List Nat}{w:World}{v:Value}{bs:List UInt8}(h:Rd K w 1 v (cbs bs))(n:Nat):Rd K w 1 (ctV n v) (cbs (bs.take n)):=by
 obtain⟨a,len,cap,rfl,-⟩:=h.get
 exact Rd.pre n h
structure zK(full:Bool)(HQ:Hp)(us:List Value)(l:List Ent)(us':List Value)(l':List Ent):Prop where
 ul:us'.length=l'.length
 n:l'.length=min 26 l.length
 ent:∀ (i:Nat) (x':Ent),l'[i]?=some x'→∃ u',us'[i]?=some u'∧One u'∧x'.2.length≤260∧((RdH HQ u' x'.2∧x'.2.length=256)∨∃ u x,us[i]?=some u∧l[i]?=some x∧u'=ctV 260 u∧x'=(x.1,x.2.take 260))
theorem zK.nil(full:Bool)(us:List Value)(l:List Ent)(HQ:Hp):zK full HQ us (l.take 0) [] []:=⟨rfl,by simp,by simp⟩
theorem zK.snoc{full:Bool}{HQ:Hp}{us:List Value}{l:List Ent}{k:Nat}{us2:List Value}{l2:List Ent}(h:zK full HQ us (l.take k) us2 l2)(hk:k<26){z:Ent}(hz:l[k]?=some z){u':Value}{x':Ent}{H1:Hp}(ho:One u')(hn:x'.2.length≤260)
  (hc:(RdH H1 u' x'.2∧x'.2.length=256)∨∃ u x,us[k]?=some u∧l[k]?=some x∧u'=ctV 260 u∧x'=(x.1,x.2.take 260)):zK full (HQ++H1) us (l.take (k+1)) (us2++[u']) (l2++[x']):=by
 have hkl:k<l.length:=(aE.1 hz).1
 have hl2:l2.length=k:=by have:=h.n;rw [aG] at this;omega
 have hu2:us2.length=k:=by have:=h.ul;omega
 refine⟨by rw [aB,aB,h.ul];rfl,by rw [aB,aG,hl2];simp;omega,fun i y hy=>?_⟩
 by_cases hi:i<k
 ·rw [aL oQ] at hy
  obtain⟨u,h1,h2,h3,h4⟩:=h.ent i y hy
  refine⟨u,by rw [aL oQ];exact h1,h2,h3,h4.imp (fun h5=>⟨h5.1.mono fun z hz=>aO _ hz,h5.2⟩) fun⟨a,b,e1,e2,e3,e4⟩=>⟨a,b,e1,?_,e3,e4⟩⟩
  rw [bE,if_pos oQ]
  rw [bE,if_pos hi] at e2
  exact e2
 ·have hik:i=k:=by
   have:=(aE.1 hy).1
   rw [aB] at this
   simp at this
   omega
  subst hik
  rw [aY oQ,hl2,dW] at hy
  simp only [jJ,cV] at hy
  subst hy
  refine⟨u',by rw [aY oQ,hu2,dW];rfl,ho,hn,hc.imp (fun h5=>⟨h5.1.mono fun z hz=>aN _ hz,h5.2⟩) fun⟨a,b,e1,e2,e3,e4⟩=>⟨a,b,e1,?_,e3,e4⟩⟩
  rw [bE,if_pos oQ]
  exact e2
theorem zK.all{full:Bool}{HQ:Hp}{us:List Value}{l:List Ent}{k:Nat}{us2:List Value}{l2:List Ent}(h:zK full HQ us (l.take k) us2 l2)(hk:k=26∨k=l.length):zK full HQ us l us2 l2:=⟨h.ul,by have:=h.n;rw [aG] at this;omega,fun i y hy=>by
 obtain⟨u,h1,h2,h3,h4⟩:=h.ent i y hy
 refine⟨u,h1,h2,h3,h4.imp id fun⟨a,b,e1,e2,e3,e4⟩=>⟨a,b,e1,?_,e3,e4⟩⟩
 rw [bE] at e2
 split at e2
 ·exact e2
 ·cases e2⟩
theorem aG2(o:oG)(us:List Value)(l:List Ent)(hl:l.length≤maxLen) :
  Tri prog 22 [.agg o.c.toArray] [] (fun w=>aC8 w o.lv us l∧(∃ b,Rd [] w 1 o.bv (cbs b))∧(∃ q,Rd [] w 1 o.pv (cbs q)))
  (fun v H=>∃ (lv':Value) (r:Nat) (us':List Value) (l':List Ent) (HO HQ:Hp),v=.agg (oG.c ⟨o.kind,lv',o.full,o.k,(r:Int),o.at',ctV 300 o.bv,o.wr,ctV 12 o.pv⟩).toArray∧r≤127∧Sl 72 2 lv' (eD us' l') HO∧zK o.full HQ us l us' l'∧H=HO++HQ):=by
 obtain⟨kind,lv,full,kk,n,at',bv,wr,pv⟩:=o
 dsimp only [oG.c]
 refine Tri.mk func22 rfl ntmps22 rfl fun w hw=>?_
 obtain⟨hE,⟨b,hb⟩,⟨q,hq⟩⟩:=hw
 obtain⟨a,ca,rfl,hcap,hg⟩:=hE.rowQ
 obtain⟨bva,bvl,bvc,rfl,hbl,hbc,-⟩:=hb.get
 obtain⟨pva,pvl,pvc,rfl,hql,hqc,-⟩:=hq.get
 obtain⟨r,hr,hU⟩:=aPI n 127 dQ
 haveI n1:eI (260:Int) 260:=⟨rfl⟩
 haveI n2:eI (300:Int) 300:=⟨rfl⟩
 haveI n3:eI (12:Int) 12:=⟨rfl⟩
 have hml:l.length≤9223372036854775807:=fN hl dQ
 have ec:∀ (m:Nat) (a:Option Addr) (n c:Nat),ctV m (.slice a n c)=.slice a (min m n) c:=fun _ _ _ _=>rfl
 rw [ec,ec]
 refine W.j fun _ b_=>?_
 rename_i b1
 refine bQ [1,2] [] (fun y:Value×List Value×List Ent×Hp×Hp=>[(3,y.1)]) (fun y=>y.2.2.2.1++y.2.2.2.2) (fun y=>Sl 72 2 y.1 (eD y.2.1 y.2.2.1) y.2.2.2.1∧zK full y.2.2.2.2 us l y.2.1 y.2.2.1) ?_ ?_
 ·refine W.k ?_
  refine bF [1,2,7,8] (fun y:Nat×Value×List Value×List Ent×Hp×Hp=>[(3,y.2.1),(9,.int .i64 (y.1:Int))]) (fun y=>y.2.2.2.2.1++y.2.2.2.2.2) (fun y=>l.length-y.1) (fun y=>y.1≤l.length∧y.1≤26∧Sl 72 2 y.2.1 (eD y.2.2.1 y.2.2.2.1) y.2.2.2.2.1∧zK full y.2.2.2.2.2 us (l.take y.1) y.2.2.1 y.2.2.2.1) (0,.slice none 0 0,[],[],[],[]) ⟨Nat.zero_le _,Nat.zero_le _,Sl.nil _ _,zK.nil _ _ _ _⟩ ?_
  rintro⟨k,ov,us2,l2,HO,HQ⟩ ⟨hk,hk26,hO,hC⟩
  dsimp only at hk hk26 hO hC ⊢
  have oO:=hO.isOne
  have hl2:l2.length=k:=by have:=hC.n;rw [aG] at this;omega
  have hul2:us2.length=l2.length:=hC.ul
  have hecl:=fI us2 l2 hul2
  by_cases hkn:k<l.length
  ·have hx0:=aA hkn
   obtain⟨u,pb,po,plv,T,fz,huk,hru,rfl,hb2,hbk,hv⟩:=hg k _ hx0
   generalize l[k]=z at *
   have huo:=hru.isOne
   obtain⟨ua,ul,uc,rfl,hul3,huc,-⟩:=hru.get
   rw [aI,Nat.mul_one] at hul3
   by_cases h26:k<26
   ·have hsn:=fun (u':Value) (x':Ent) (H1:Hp) ho hn hc=>hC.snoc h26 hx0 (u':=u') (x':=x') (H1:=H1) ho hn hc
    by_cases h260:260<ul
    ·have hR2:=Rd.pre 260 hru
     rw [show min 260 ul=260 by omega] at hR2
     have hcv:ctV 260 (.slice ua ul uc)=.slice ua 260 uc:=by rw [ec,show min 260 ul=260 by omega]
     obtain⟨b0,o0,-,-,-,-,rfl,-⟩:=hru.lastAt oQ
     cases full with
     | true=>
      have hfu:=aI5 (.slice (some ⟨b0,o0,none⟩) 260 uc) (z.2.take 260)
      refine W.k fun b_=>?_
      refine aF hfu ?_ (hpre:=fun w2 hs=>hR2.ro (Hc:=[]) hs)
      rintro v1 H1 ⟨ds,hds,h1⟩
      have h11:=h1.isOne
      have hRd:=RdH.of h1
      obtain⟨a1,n1,c1,rfl,-⟩:=h1.form
      have hbe:=aB2 z.1 a1 n1 c1
      refine W.k fun b_=>?_
      refine W.ap (ys:=[.int .i64 z.1,.slice a1 n1 c1]) (mm:=1) hO (fun w2 hs=>(Sl.own 72 2 b_ (len:=1) (xs:=[.int .i64 z.1,.slice a1 n1 c1]) rfl).srcAt hs inferInstance) (fun ov2 HO2 hO2=>?_) (hys:=rfl) (hbytes:=by rw [hecl];simp;omega)
      have oO2:=hO2.isOne
      have hLs:=kA hul2 (.slice a1 n1 c1) (z.1,ds)
      dsimp only at hLs
      rw [← hLs] at hO2
      refine W.k ?_
      refine aQ.mk (k+1,ov2,us2++[.slice a1 n1 c1],l2++[(z.1,ds)],HO2,HQ++H1) ?_
      exact⟨hkn,h26,hO2,hsn _ _ _ inferInstance (by dsimp only;omega) (.inl ⟨hRd,hds⟩)⟩
     | false=>
      have hbe:=aB2 z.1 (some ⟨b0,o0,none⟩) 260 uc
      refine W.k fun _ b_=>?_
      refine W.ap (ys:=[.int .i64 z.1,.slice (some ⟨b0,o0,none⟩) 260 uc]) (mm:=1) hO (fun w2 hs=>(Sl.own 72 2 b_ (len:=1) (xs:=[.int .i64 z.1,.slice (some ⟨b0,o0,none⟩) 260 uc]) rfl).srcAt hs inferInstance) (fun ov2 HO2 hO2=>?_) (hys:=rfl) (hbytes:=by rw [hecl];simp;omega)
      have oO2:=hO2.isOne
      have hLs:=kA hul2 (.slice (some ⟨b0,o0,none⟩) 260 uc) (z.1,z.2.take 260)
      dsimp only at hLs
      rw [← hLs] at hO2
      refine W.k ?_
      refine aQ.mk (k+1,ov2,us2++[.slice (some ⟨b0,o0,none⟩) 260 uc],l2++[(z.1,z.2.take 260)],HO2,HQ++[]) ?_
      exact⟨hkn,h26,hO2,hsn _ _ _ inferInstance (by dsimp only;rw [aG];omega) (.inr ⟨_,_,huk,hx0,hcv.symm,rfl⟩)⟩
    ·have htk:z.2.take 260=z.2:=aK oQ
     have hcv:ctV 260 (.slice ua ul uc)=.slice ua ul uc:=by rw [ec,show min 260 ul=ul by omega]
     cases full with
     | true=>
      have hfu:=aI5 (.slice ua ul uc) z.2
      refine W.k fun b_=>?_
      refine aF hfu ?_ (hpre:=fun w2 hs=>hru.ro (Hc:=[]) hs)
      rintro v1 H1 ⟨ds,hds,h1⟩
      have h11:=h1.isOne
      have hRd:=RdH.of h1
      obtain⟨a1,n1,c1,rfl,-⟩:=h1.form
      have hbe:=aB2 z.1 a1 n1 c1
      refine W.k fun b_=>?_
      refine W.ap (ys:=[.int .i64 z.1,.slice a1 n1 c1]) (mm:=1) hO (fun w2 hs=>(Sl.own 72 2 b_ (len:=1) (xs:=[.int .i64 z.1,.slice a1 n1 c1]) rfl).srcAt hs inferInstance) (fun ov2 HO2 hO2=>?_) (hys:=rfl) (hbytes:=by rw [hecl];simp;omega)
      have oO2:=hO2.isOne
      have hLs:=kA hul2 (.slice a1 n1 c1) (z.1,ds)
      dsimp only at hLs
      rw [← hLs] at hO2
      refine W.k ?_
      refine aQ.mk (k+1,ov2,us2++[.slice a1 n1 c1],l2++[(z.1,ds)],HO2,HQ++H1) ?_
      exact⟨hkn,h26,hO2,hsn _ _ _ inferInstance (by dsimp only;omega) (.inl ⟨hRd,hds⟩)⟩
     | false=>
      have hbe:=aB2 z.1 ua ul uc
      refine W.k fun _ b_=>?_
      refine W.ap (ys:=[.int .i64 z.1,.slice ua ul uc]) (mm:=1) hO (fun w2 hs=>(Sl.own 72 2 b_ (len:=1) (xs:=[.int .i64 z.1,.slice ua ul uc]) rfl).srcAt hs inferInstance) (fun ov2 HO2 hO2=>?_) (hys:=rfl) (hbytes:=by rw [hecl];simp;omega)
      have oO2:=hO2.isOne
      have hLs:=kA hul2 (.slice ua ul uc) (z.1,z.2)
      dsimp only at hLs
      rw [← hLs] at hO2
      refine W.k ?_
      refine aQ.mk (k+1,ov2,us2++[.slice ua ul uc],l2++[(z.1,z.2)],HO2,HQ++[]) ?_
      exact⟨hkn,h26,hO2,hsn _ _ _ inferInstance (by dsimp only;omega) (.inr ⟨_,_,huk,hx0,hcv.symm,by rw [htk]⟩)⟩
   ·refine W.k fun b_=>?_
    refine bT.mk (ov,us2,l2,HO,HQ) ?_
    exact⟨hO,hC.all (.inl oQ)⟩
  ·refine W.k ?_
   refine bT.mk (ov,us2,l2,HO,HQ) ?_
   exact⟨hO,hC.all (.inr oQ)⟩
 rintro⟨ov,us2,l2,HO,HQ⟩ ⟨hO,hC⟩
 dsimp only at hO hC ⊢
 have oO:=hO.isOne
 clear hg hE
 by_cases hB:300<bvl
 ·obtain⟨b0,o0,-,-,-,-,rfl,-⟩:=hb.lastAt oQ
  rw [show min 300 bvl=300 by omega]
  by_cases hP:12<pvl
  ·obtain⟨b2,o2,-,-,-,-,rfl,-⟩:=hq.lastAt oQ
   rw [show min 12 pvl=12 by omega]
   refine W.k ?_
   refine F.cH (HO++HQ) (oG.c ⟨kind,ov,full,kk,(r:Int),at',.slice (some ⟨b0,o0,none⟩) 300 bvc,wr,.slice (some ⟨b2,o2,none⟩) 12 pvc⟩) ?_
   exact⟨ov,r,us2,l2,HO,HQ,rfl,hr,hO,hC,rfl⟩
  ·rw [show min 12 pvl=pvl by omega]
   refine W.k ?_
   refine F.cH (HO++HQ) (oG.c ⟨kind,ov,full,kk,(r:Int),at',.slice (some ⟨b0,o0,none⟩) 300 bvc,wr,.slice pva pvl pvc⟩) ?_
   exact⟨ov,r,us2,l2,HO,HQ,rfl,hr,hO,hC,rfl⟩
 ·rw [show min 300 bvl=bvl by omega]
  by_cases hP:12<pvl
  ·obtain⟨b2,o2,-,-,-,-,rfl,-⟩:=hq.lastAt oQ
   rw [show min 12 pvl=12 by omega]
   refine W.k ?_
   refine F.cH (HO++HQ) (oG.c ⟨kind,ov,full,kk,(r:Int),at',.slice bva bvl bvc,wr,.slice (some ⟨b2,o2,none⟩) 12 pvc⟩) ?_
   exact⟨ov,r,us2,l2,HO,HQ,rfl,hr,hO,hC,rfl⟩
  ·rw [show min 12 pvl=pvl by omega]
   refine W.k ?_
   refine F.cH (HO++HQ) (oG.c ⟨kind,ov,full,kk,(r:Int),at',.slice bva bvl bvc,wr,.slice pva pvl pvc⟩) ?_
   exact⟨ov,r,us2,l2,HO,HQ,rfl,hr,hO,hC,rfl⟩
def xW:List Value→List (List UInt8)→Hp→Prop
 | [],[],H=>H=[]
 | u::us,b::bs,H=>∃ H1 H2,H=H1++H2∧Sl 5 1 u (cbs b) H1∧xW us bs H2
 | _,_,_=>False
theorem xW.snoc:∀ {us:List Value} {bss:List (List UInt8)} {H:Hp} {u:Value} {b:List UInt8} {H1:Hp},xW us bss H→Sl 5 1 u (cbs b) H1→xW (us++[u]) (bss++[b]) (H++H1)
 | [],[],_,u,b,H1,h,h1=>by
  subst h
  exact⟨H1,[],by simp,h1,rfl⟩
 | _::us,_::bss,_,u,b,H1,⟨Ha,Hb,e,h2,h3⟩,h1=>by
  subst e
  exact⟨Ha,Hb++H1,by rw [aM],h2,h3.snoc h1⟩
theorem xW.rb:∀ {us:List Value} {bss:List (List UInt8)} {H:Hp},xW us bss H→RB H us bss
 | [],[],_,_=>RB.nil _
 | u::us,b::bss,_,⟨Ha,Hb,e,h2,h3⟩=>by
  subst e
  have ih:=(xW.rb h3).mono (H':=Ha++Hb) fun y hy=>aN _ hy
  refine⟨by simp [ih.1],fun i c hi=>?_⟩
  cases i with
  | zero=>
   simp only [jJ,cV] at hi ⊢
   subst hi
   exact⟨u,rfl,(RdH.of h2).mono fun y hy=>aO _ hy⟩
  | succ i=>simpa using ih.2 i c (by simpa using hi)
theorem xW.drop:∀ {us:List Value} {bss:List (List UInt8)} {H:Hp} {k:Nat} {u:Value},xW (us.drop k) (bss.drop k) H→us[k]?=some u→∃ b H1 H2,H=H1++H2∧bss[k]?=some b∧Sl 5 1 u (cbs b) H1∧xW (us.drop (k+1)) (bss.drop (k+1)) H2:=by
 intro us bss H k u h hu
 have hk:=(aE.1 hu).1
 rw [bL hk,show us[k]=u from (aE.1 hu).2] at h
 by_cases hb:k<bss.length
 ·rw [bL hb] at h
  obtain⟨H1,H2,e,h1,h2⟩:=h
  exact⟨_,H1,H2,e,aA hb,h1,h2⟩
 ·rw [show bss.drop k=[] from cP oQ] at h
  simp [xW] at h
theorem aGq(v:Value)(us:List Value)(l:List Ent)(hn:l.length≤1000)(h2:∀ x∈l,x.2.length≤1000000) :
  Tri prog 23 [v] [] (fun w=>aC8 w v us l)
  (fun r H=>∃ us' HE HQ,Sl 136 2 r (eD us' l) HE∧xW us' (l.map Prod.snd) HQ∧H=HE++HQ):=by
 refine Tri.mk func23 rfl ntmps23 rfl fun w hw=>?_
 obtain⟨a,ca,rfl,hcap,hg⟩:=hw.rowQ
 refine W.j ?_
 refine bQ [] [] (fun y:Value×List Value×Hp×Hp=>[(3,y.1)]) (fun y=>y.2.2.1++y.2.2.2) (fun y=>Sl 136 2 y.1 (eD y.2.1 l) y.2.2.1∧xW y.2.1 (l.map Prod.snd) y.2.2.2) ?_ ?_
 ·refine W.k ?_
  refine bF [6,7] (fun y:Nat×Value×List Value×Hp×Hp=>[(3,y.2.1),(8,.int .i64 (y.1:Int))]) (fun y=>y.2.2.2.1++y.2.2.2.2) (fun y=>l.length-y.1) (fun y=>y.1≤l.length∧Sl 136 2 y.2.1 (eD y.2.2.1 (l.take y.1)) y.2.2.2.1∧xW y.2.2.1 ((l.take y.1).map Prod.snd) y.2.2.2.2) (0,.slice none 0 0,[],[],[]) ⟨Nat.zero_le _,Sl.nil _ _,rfl⟩ ?_
  rintro⟨k,ov,us2,HO,HQ2⟩ ⟨hk,hO,hR2⟩
  dsimp only at hk hO hR2 ⊢
  have oO:=hO.isOne
  by_cases hkn:k<l.length
  ·have hx0:=aA hkn
   have hx3:=h2 _ (cE hkn)
   obtain⟨u,pb,po,plv,T,fz,huk,hru,rfl,hb2,hbk,hv⟩:=hg k _ hx0
   have htk:l.take (k+1)=l.take k++[l[k]]:=by rw [aZ,hx0];rfl
   have htkl:(l.take k).length=k:=by rw [aG];omega
   have hul2:us2.length=(l.take k).length:=by rw [hR2.rb.1,aD]
   have hecl:=fI us2 _ hul2
   have huo:=hru.isOne
   have hLs:=fun v=>kA hul2 v l[k]
   rw [← htk] at hLs
   generalize l[k]=z at *
   refine W.k fun b_=>?_
   generalize b_=eb2
   (refine SW.l [8,9] [0,1,2,4,5] ?_;refine bA 3 ?_)
   refine aJi fun b0=>?_
   (refine bC [] ?_;refine bA 6 ?_)
   have h0:Sl 5 1 (.slice (some ⟨b0,0,none⟩) 0 0) [] [(b0,cl ([]:List Value) 5)]:=Sl.mk (xs:=[]) (junk:=[]) (len:=0) (cap:=0) rfl rfl (Nat.le_refl _)
   refine W.ap h0 (ys:=cbs z.2) (mm:=z.2.length) (fun w2 hs=>by
    obtain⟨m,h1,h2⟩:=(hru.ro (Hc:=[]) hs).src
    rw [aI,Nat.mul_one] at h2
    rw [h2];exact h1) (fun v1 H1 h1=>?_) (hys:=by rw [aI,Nat.mul_one]) (hbytes:=by rw [aI];simp;omega)
   have h11:=h1.isOne
   rw [List.nil_append] at h1
   have h1s:=h1
   obtain⟨a1,n1,c1,rfl,-⟩:=h1.form
   (refine SL.l [7] ?_;refine bO 8 ?_)
   refine iS (fun b7=>?_) (hr:=aB2 ..)
   (refine bC [] ?_;refine bO 9 ?_)
   refine W.ap (ys:=[.int .i64 z.1,.slice a1 n1 c1]) (mm:=1) hO (fun w2 hs=>(Sl.own 136 2 b7 (len:=1) (xs:=[.int .i64 z.1,.slice a1 n1 c1]) rfl).srcAt hs inferInstance) (fun ov2 HO2 hO2=>?_) (hys:=rfl) (hbytes:=by rw [hecl,htkl];simp;omega)
   have oO2:=hO2.isOne
   rw [← hLs] at hO2
   have hR3:xW (us2++[.slice a1 n1 c1]) ((l.take (k+1)).map Prod.snd) (HQ2++H1):=by
    rw [htk,aV]
    exact hR2.snoc h1s
   (refine SL.l [10,11] ?_)
   refine W.k ?_
   refine aQ.mk (k+1,ov2,us2++[.slice a1 n1 c1],HO2,HQ2++H1) ?_
   exact⟨hkn,hO2,hR3⟩
  ·have hkl:k=l.length:=oQ
   rw [hkl,bN] at hO hR2
   subst hkl
   refine W.k ?_
   refine bT.mk (ov,us2,HO,HQ2) ?_
   exact⟨hO,hR2⟩
 rintro⟨ov,us2,HO,HQ2⟩ ⟨hO,hR2⟩
 dsimp only at hO hR2 ⊢
 have oO:=hO.isOne
 refine W.k ?_
 refine Fin.to (HO++HQ2) ?_
 exact F.f1 ⟨us2,HO,HQ2,hO,hR2,rfl⟩
end
def sJ(K:List Nat)(w:World)(v:Value)(us:List Value)(l:List Ent):Prop:=Rd K w 2 v (eD us l)∧us.length=l.length∧∀ (i:Nat) (x:Ent),l[i]?=some x→∃ u,us[i]?=some u∧Rd K w 1 u (cbs x.2)
theorem sJ.ro{K:List Nat}{w0 w:World}{H Hc r:Hp}{v:Value}{us:List Value}{l:List Ent}(h:sJ K w0 v us l)(hs:St K w0 H w) [hp:fA H Hc r]:sJ (Hc.map Prod.fst) w v us l:=
 ⟨h.1.ro hs,h.2.1,fun i x hx=>let ⟨u,h1,h2⟩:=h.2.2 i x hx;⟨u,h1,h2.ro hs⟩⟩
theorem sJ.le{K:List Nat}{w:World}{v:Value}{us:List Value}{l:List Ent}(h:sJ K w v us l):LE us l:=⟨h.2.1,fun i x hx=>by
 obtain⟨u,h1,h2⟩:=h.2.2 i x hx
 obtain⟨a,n,c,rfl,hn,-⟩:=h2.get
 rw [aI,Nat.mul_one] at hn
 subst hn
 exact⟨a,c,h1⟩⟩
theorem sJ.oc{K:List Nat}{w:World}{v:Value}{us:List Value}{l:List Ent}(h:sJ K w v us l):OC us:=⟨fun u hu=>by
 obtain⟨i,hi⟩:=cC.1 hu
 have hk:=(aE.1 hi).1
 obtain⟨u',h1,h2⟩:=h.2.2 i _ (aA (show i<l.length by have:=h.2.1;omega))
 rw [hi] at h1
 cases h1
 exact h2.isOne.ok⟩
theorem fA.swap{H Hc A B r:Hp}(hp:fA H (Hc++(A++B)) r):fA H (Hc++A) (B++r)∧fA H (Hc++B) (A++r):=by
 have h:=hp.perm
 refine⟨⟨by simpa [aM] using h⟩,⟨h.trans ?_⟩⟩
 rw [aM,aM,aM]
 exact List.Perm.append_left Hc (List.perm_append_comm_assoc ..)
theorem zK.ents{K:List Nat}{w0 w:World}{full:Bool}{HO HQ H r:Hp}{us us':List Value}{l l':List Ent}{v ov:Value}(Hc:Hp)(h:zK full HQ us l us' l')(hE:sJ K w0 v us l)(hO:Sl 72 2 ov (eD us' l') HO)(hs:St K w0 H w) [hp:fA H (Hc++(HO++HQ)) r]:sJ (Hc.map Prod.fst) w ov us' l':=by
 obtain⟨h1,h2⟩:=hp.swap
 have h3:fA H Hc ((HO++HQ)++r):=⟨by have:=hp.perm;rwa [aM] at this⟩
 refine⟨Rd.own hO hs h1,h.ul,fun i x' hx'=>?_⟩
 obtain⟨u',hu',-,-,hc⟩:=h.ent i x' hx'
 refine⟨u',hu',?_⟩
 rcases hc with ⟨hc,-⟩|⟨u,x,e1,e2,rfl,rfl⟩
 ·exact hc.rd (hp:=h2) hs
 ·obtain⟨u2,e3,e4⟩:=hE.2.2 i x e2
  rw [e1] at e3
  cases e3
  exact (aJx e4 260).ro (hp:=h3) hs
end Go.Proofs.YtnhnpjokpelkbaaGreat
