/- A new store is made: the document's. -/
import Derived.Test.YtnhnpjokpelkbaaGreatPp29
set_option linter.unusedVariables false
set_option linter.unusedSimpArgs false
set_option linter.unusedSectionVars false
set_option maxHeartbeats 8000000
namespace Go.Proofs.YtnhnpjokpelkbaaGreat
open Go Go.Proofs.Tryz
section
attribute [local irreducible] SW SL SQ SH SA SS Pu Fin bT aQ
theorem jS.mono{rs rc n:Nat}{ws:List (List UInt8)}{N M:Nat}{H:Hp}(h:jS rs rc n ws N H)(hm:N≤M):jS rs rc n ws M H:=by
 obtain⟨lv,tw,te,tb,tp,L,Hc,HL,Ht,rfl,hC,hL,hN,htp,hall⟩:=h
 exact⟨lv,tw,te,tb,tp,L,Hc,HL,Ht,rfl,hC,hL,by omega,htp,hall⟩
theorem aEw{d tr s p t:Nat}(h:Gm.Ok p t){σ:Dv}{Hd:Hp}(hD:iA d σ Hd)(hlen:σ.len=256*Gm.total p t) :
  Tri prog 186 [qV d tr s p t] Hd (fun _=>True) (fun v H=>v=.bool true∧H=Hd):=by
 obtain⟨hO,bl,bn,bp,bm,vp,va,Hq,Ha,h1,h2,rfl⟩:=hD
 have hof:One vp:=h1.one
 have hoa:One va:=h2.one
 refine Tri.mk func186 rfl ntmps186 rfl fun w hw=>?_
 have hm:=aEq h
 have hall:=aAv h
 have htl:=Gm.total_le2 h
 have hpl:=pV (Gm.all p t)
 rw [Gm.all_len] at hpl
 rw [hlen]
 generalize Gm.all p t=l at *
 generalize Gm.total p t=m at *
 refine W.k fun b_=>?_
 (refine SW.l [2] [0,1] ?_;refine bO 2 ?_)
 refine W.cq hm ?_
 (refine SL.l [3,4,5,6,7,8,9,10,11] ?_;(first|refine dB 12 rfl ?_;refine SG.l [13,14,15,16,17,18] ?_|refine bA 12 ?_))
 refine aF hall ?_
 rintro v1 H1 ⟨Hs,hS,rfl⟩
 obtain⟨a,len,cap,rfl,hl1⟩:=hS.form
 have hl2:len=m:=oQ
 subst hl2
 (refine SL.l [13,14,15,16,17,18] ?_)
 refine W.k ?_
 refine Fin.to ((d,cl [.slice (some ⟨bl,0,none⟩) (256*len) (256*len),.slice (some ⟨bn,0,none⟩) (256*len) (256*len),.slice (some ⟨bp,0,none⟩) σ.ws.length σ.ws.length,.slice (some ⟨bm,0,none⟩) σ.ws.length σ.ws.length,.bool σ.down,.int .i64 σ.fuse,vp,va] 214) ::
   (bl,cl (rl σ.ws) 5)::(bn,cl (rn σ.ws) 5)::(bp,cl (rp σ.ws) 4)::(bm,cl (rm σ.ws) 4)::(Hq++Ha)) ?_
 exact F.f1 ⟨rfl,rfl⟩
theorem aDC(d:Nat){r:Rg}(h:r.Ok):(rtc d r)[0]?=some (.int .u64 r.c)∧((rtc d r).drop 1).take 32=cbs r.root∧(cbs r.root).length=32:=by
 refine⟨rfl,?_,by rw [aI,h.len]⟩
 have hl:=h.len
 show ((r.root.map bv++[_]).take 32)=_
 rw [bW (by simp [hl]),aK (by simp [hl])]
 rfl
theorem aHI{d tr s p t:Nat}{σ:Dv}{r:Rg}{Hd:Hp}(hD:iA d σ Hd)(hr:r.Ok)(hlt:r.c<18446744073709551615) :
  Tri prog 187 [qV d tr s p t] ((tr,cl (rtc d r) 120)::Hd) (fun _=>True)
  (fun v H=>v=.int .i64 (gG (σ,r)).1∧∃ Hd',iA d (gG (σ,r)).2.1 Hd'∧H=(tr,cl (rtc d (gG (σ,r)).2.2) 120)::Hd'):=by
 refine Tri.mk func187 rfl ntmps187 rfl fun w hw=>?_
 have hc0:=hr.c0
 have hr2:({ r with c:=r.c+1 }:Rg).Ok:=⟨hr.len,by show 0≤r.c+1;omega,by show r.c+1≤_;omega⟩
 have hst:=aGP tr d r { r with c:=r.c+1 } hr hr2 hD
 obtain⟨f1,f2,f3⟩:=aDC d hr
 haveI i1:U64 r.c (UInt64.ofNat r.c.toNat):=⟨by rw [aW];omega⟩
 have e1:(((UInt64.ofNat r.c.toNat+1).toNat:Nat):Int)=r.c+1:=by
  rw [gT,aW,show (1:UInt64).toNat=1 from rfl];omega
 have hbd:bX (fun i=>[(0,1),(1,32)][i]?) ([.int .u64 0]++List.replicate 32 (.int .u8 0)) [(0,.int .u64 (((UInt64.ofNat r.c.toNat+1).toNat:Nat):Int)),(1,dgV r.root)]=some (rgc { r with c:=r.c+1 }):=by rw [e1];exact aB4 _ hr.len
 have eb:gG (σ,r)=(qO σ r { r with c:=r.c+1 },sE σ r { r with c:=r.c+1 },oI σ r { r with c:=r.c+1 }):=rfl
 rw [eb]
 generalize ({ r with c:=r.c+1 }:Rg)=r2 at *
 refine W.k fun b_=>?_
 (refine SW.l [16] [0,1,2,3,4,5,6,7,8,9,10,11,12,13,14,15] ?_;refine bO 16 ?_)
 refine aF hst ?_
 rintro _ _ ⟨rfl,H2,rfl,hD2⟩
 (refine SL.l [17,18] ?_)
 refine W.k ?_
 refine Fin.to ((tr,cl (rtc d (oI σ r r2)) 120)::H2) ?_
 exact F.f1 ⟨rfl,H2,hD2,rfl⟩
theorem xR{Ht:Hp}(v:Value)(vs:List Value)(bss:List (List UInt8))(hR:RB Ht vs bss)(hn:bss.length≤1000)(hb:∀ b∈bss,b.length=256):Tri prog 195 [v] Ht (fun w=>Rd (Ht.map Prod.fst) w 1 v vs)
  (fun r H=>∃ Hs,Sl 54 32 r (cbs (eX bss).flatten) Hs∧H=Hs++Ht):=by
 refine Tri.mk func195 rfl ntmps195 rfl fun w hw=>?_
 obtain⟨a,la,ca,rfl,hl1,hc1,hr1⟩:=hw.get
 have hvl:=hR.1
 rw [Nat.mul_one,hvl] at hl1
 subst hl1
 have hY:One (Value.slice a bss.length ca):=⟨rfl⟩
 refine W.j ?_
 refine bQ [] [] (fun x:Value×Hp=>[(3,x.1)]) (fun x=>x.2) (fun x=>Sl 54 32 x.1 (cbs (eX bss).flatten) x.2) ?_ ?_
 ·refine W.k ?_
  refine bF [6,7] (fun x:Nat×Value×Hp=>[(3,x.2.1),(8,.int .i64 (x.1:Int))]) (fun x=>Ht++x.2.2) (fun x=>bss.length-x.1) (fun x=>x.1≤bss.length∧Sl 54 32 x.2.1 (cbs (eX (bss.take x.1)).flatten) x.2.2) (0,.slice none 0 0,[]) ⟨Nat.zero_le _,by rw [cT];exact Sl.nil _ _⟩ ?_
  rintro⟨k,v2,Hl2⟩ ⟨hk,hS2⟩
  dsimp only at hk hS2 ⊢
  have hS21:=hS2.isOne
  by_cases hkn:k<bss.length
  ·obtain⟨bb,o,l,T,fz,rfl,hb1,hkK,hy⟩:=hr1 oQ
   obtain⟨u,hu1,hu2⟩:=hR.2 k _ (aA hkn)
   have hlu:l[o+k]?=some u:=by
    have h2:((l.drop o).take (bss.length*1))[k]?=vs[k]?:=by rw [hy]
    rw [bE,if_pos oQ,bI,hu1] at h2
    exact h2
   have hbl:=hb _ (cE hkn)
   have htl:(bss.take k).length=k:=by rw [aG];omega
   have hts:bss.take (k+1)=bss.take k++[bss[k]]:=by rw [aZ,aA hkn];rfl
   have hss:eX (bss.take (k+1))=eX (bss.take k)++[Sha.sum (fJ k bss[k])]:=by rw [hts,aCS,htl]
   have hfl:=dI (L:=eX (bss.take k)) (nP _)
   rw [jL,htl] at hfl
   have huo:=hu2.one
   have hlf:=aBN k u bss[k] oQ
   have h32:(Sha.sum (fJ k bss[k])).length=32:=Sha.sum_len _
   generalize Sha.sum (fJ k bss[k])=y at *
   have hb2:=b1d h32
   have hc:=lV h32
   refine W.k ?_
   refine W.cw hlf ?_ (hpre:=fun w2 hs=>hu2.rd (Hc:=[]) hs);intro b_
   refine W.ap (ys:=cbs y) (mm:=1) hS2 (fun w2 hs=>(Sl.own 54 32 b_ (xs:=cbs y) hc).srcAt hs inferInstance) (fun v3 H3 h3=>?_) (hys:=hc) (hbytes:=by rw [hc,aI,hfl];omega)
   have h31:=h3.isOne
   rw [show cbs (eX (bss.take k)).flatten++cbs y=cbs (eX (bss.take k)++[y]).flatten by simp,← hss] at h3
   refine W.k ?_
   refine aQ.mk (k+1,v3,H3) ?_
   exact⟨hkn,h3⟩
  ·have hk2:k=bss.length:=oQ
   rw [hk2,bN] at hS2
   subst hk2
   refine W.k ?_
   refine bT.mk (v2,Hl2) ?_
   exact hS2
 rintro⟨v2,Hl2⟩ hS2
 dsimp only at hS2 ⊢
 have hS21:=hS2.isOne
 refine W.k ?_
 refine Fin.to (Hl2++Ht) ?_
 exact F.f1 ⟨Hl2,hS2,rfl⟩
theorem aII{d tr sp p t c n N:Nat}{ws:List (List UInt8)}{σ:Dv}{r:Rg}{Hd Hs:Hp}(h:Gm.Ok p t)(hD:iA d σ Hd)(hlen:σ.len=256*Gm.total p t)(hr:r.Ok)(hS:jS sp c n ws N Hs)(hK:kS n ws)(hN:N≤1000000) :
  Tri prog 128 [qV d tr sp p t] ((tr,cl (rtc d r) 120)::(Hd++Hs)) (fun _=>True)
  (fun v H=>v=.int .i64 (lD p t (dM (Rg.enc ws n)) (σ,r)).1∧∃ Hd' Hs',iA d (lD p t (dM (Rg.enc ws n)) (σ,r)).2.1 Hd'∧jS sp c n ws (N+200) Hs' ∧
   H=(tr,cl (rtc d (lD p t (dM (Rg.enc ws n)) (σ,r)).2.2) 120)::(Hd'++Hs')):=by
 refine Tri.mk func128 rfl ntmps128 rfl fun w hw=>?_
 have hmy:=aEw (tr:=tr) (s:=sp) h hD hlen
 obtain⟨f1,f2,f3⟩:=aDC d hr
 have h8:σ.ws.length%8=0:=by unfold Dv.len at hlen;omega
 have h0:=hr.c0
 have h1:=hr.c1
 have hse:=sD h
 have hsl:=Gm.sealed_le h
 have ht:=h.2.2.2
 refine W.k fun b_=>?_
 refine aF hmy ?_
 rintro _ Hd ⟨rfl,rfl⟩
 by_cases hc:r.c≤18446744073709551613
 ·have hbp:=aHI (tr:=tr) (s:=sp) (p:=p) (t:=t) hD hr oQ
  have hbmE:∀ y,gG (σ,r)=(0,y)→lD p t (dM (Rg.enc ws n)) (σ,r)=(((cQ p t (fG p t (dM (Rg.enc ws n)) (kP r))).t.and (aD6 (fG p t (dM (Rg.enc ws n)) (kP r)))) y):=fun y hy=>by
   unfold lD
   rw [if_neg (by show ¬ _<r.c;omega),TS.and_eq hy]
   rfl
  have hbmN:(gG (σ,r)).1≠0→lD p t (dM (Rg.enc ws n)) (σ,r)=gG (σ,r):=fun hne=>by
   unfold lD
   rw [if_neg (by show ¬ _<r.c;omega),TS.and_ne hne]
  have hwl:=zW (σ,r)
  have hcc:=fun y (hy:gG (σ,r)=(0,y))=>aJq hy
  generalize lD p t (dM (Rg.enc ws n)) (σ,r)=FF at *
  generalize gG (σ,r)=bmp at *
  obtain⟨eb,σ1,r1⟩:=bmp
  dsimp only at hbp hbmN hwl
  refine W.k ?_
  refine aF hbp ?_
  rintro _ _ ⟨rfl,Hd1,hD1,rfl⟩
  by_cases he:eb=0
  ·subst he
   have hF:=hbmE _ rfl
   obtain⟨hrc,hrr⟩:=hcc _ rfl
   dsimp only at hrc hrr
   clear hbmE hbmN hcc
   haveI i1:U64 r.c (UInt64.ofNat r.c.toNat):=⟨by rw [aW];omega⟩
   haveI i2:U64 2 2:=⟨rfl⟩
   have heE:=aHk h0 hc
   rw [show UInt64.ofNat (r.c+2).toNat=kP r from rfl] at heE
   refine W.j ?_
   generalize b_=b1 at *
   have hbln:fG p t (dM (Rg.enc ws n)) (kP r)=(iE p t::(List.range (Gm.epochs p)).map fun k=>epB k (List.replicate (Gm.sealed p) (kP r)))++(List.range (Gm.sealed p)).map fun k=>dM (Rg.enc ws n) (kP r) k (List.replicate 256 0):=rfl
   have hbl:=nT p t (dM (Rg.enc ws n)) (kP r)
   have hb256:=pN (p:=p) (t:=t) (E:=Rg.enc ws n) (fun x=>Rg.enc_len ..) (kP r)
   refine bQ [1,3] [] (fun x:Value×Hp=>[(5,x.1)]) (fun x=>x.2) (fun x=>Sl 33 1 x.1 (uv (List.replicate (Gm.sealed p) (kP r))) x.2) ?_ ?_
   ·refine W.k ?_
    refine bF [1,3] (fun x:Nat×Value×Hp=>[(5,x.2.1),(6,.int .i64 (x.1:Int))]) (fun x=>x.2.2) (fun x=>Gm.sealed p-x.1) (fun x=>x.1≤Gm.sealed p∧Sl 33 1 x.2.1 (uv (List.replicate x.1 (kP r))) x.2.2) (0,.slice none 0 0,[]) ⟨Nat.zero_le _,Sl.nil _ _⟩ ?_
    rintro⟨j,v2,H2⟩ ⟨hj,h2⟩
    dsimp only at hj h2 ⊢
    have h21:=h2.isOne
    have hb37:bX (fun i=>some (i*1,1)) (zs [.int .u64 0] 1) [(0,.int .u64 (((UInt64.ofNat r.c.toNat+2).toNat:Nat):Int))]=some (uv [kP r]):=by rw [heE];rfl
    by_cases hjm:j<Gm.sealed p
    ·refine W.k ?_
     refine W.cw hse ?_;intro b_
     refine W.ap h2 (ys:=uv [kP r]) (mm:=1) (fun w2 hs=>(Sl.own 33 1 b_ (xs:=uv [kP r]) rfl).srcAt hs inferInstance) (fun v3 H3 h3=>?_) (hys:=rfl) (hbytes:=by rw [eR,aS];simp;omega)
     have h31:=h3.isOne
     rw [← aV,← pZ] at h3
     refine W.k ?_
     refine aQ.mk (j+1,v3,H3) ?_
     exact⟨hjm,h3⟩
    ·have:j=Gm.sealed p:=oQ
     subst this
     refine W.k ?_
     refine W.cw hse ?_
     refine bT.mk (v2,H2) ?_
     exact h2
   rintro⟨v2,H2⟩ h2
   dsimp only at h2 ⊢
   have h21:=h2.isOne
   refine W.j ?_
   (refine SW.l [] [0,1,4,5,6] ?_;refine bA 2 ?_)
   refine aF (aFQ h) ?_
   intro v3 H3 h3
   have h31:=h3.isOne
   obtain⟨a3,l3,c3,rfl,-⟩:=h3.form
   have hb42:bX (fun i=>some (i*1,1)) (zs [.slice none 0 0] 1) [(0,.slice a3 l3 c3)]=some [.slice a3 l3 c3]:=rfl
   have hbks:=aIG h v2 (List.replicate (Gm.sealed p) (kP r))
   refine eB ?_
   refine jA 3 7 ?_ ?_ rfl rfl
   case' refine_1=>
    refine iS (fun b2=>?_) (hr:=hb42)
    refine eB ?_
    refine bA 7 ?_
    refine aF hbks ?_ (hpre:=fun w2 hs=>Rd.own (Hc:=[]) h2 hs inferInstance)
    rintro v4 _ ⟨vs,Hv,Ht,hS4,hR4,rfl⟩
    have h41:=hS4.isOne
    obtain⟨a4,l4,c4,rfl,hl4⟩:=hS4.form
    refine eB ?_
   case' refine_2=>
    refine aF hbks ?_ (hpre:=fun w2 hs=>Rd.own (Hc:=[]) h2 hs inferInstance)
    rintro v4 _ ⟨vs,Hv,Ht,hS4,hR4,rfl⟩
    have h41:=hS4.isOne
    obtain⟨a4,l4,c4,rfl,hl4⟩:=hS4.form
    refine eB ?_
    refine bA 3 ?_
    refine iS (fun b2=>?_) (hr:=hb42)
    refine eB ?_
   all_goals
    have hel:=Gm.epochs_le h
    have hvl:vs.length=Gm.epochs p:=by rw [hR4.1];simp
    have hoc4:=hR4.oc
    have hE2:Sl 23 1 (.slice (some ⟨b2,0,none⟩) 1 1) [.slice a3 l3 c3] [(b2,cl [.slice a3 l3 c3] 23)]:=Sl.own _ 1 b2 (len:=1) rfl
    have hR5:RB (H3++Ht) ([.slice a3 l3 c3]++vs) (iE p t::(List.range (Gm.epochs p)).map fun k=>epB k (List.replicate (Gm.sealed p) (kP r))):=⟨by simp [hR4.1],fun i bs hi=>by
     cases i with
     | zero=>
      cases hi
      exact⟨_,rfl,(RdH.of h3).mono fun x hx=>aO _ hx⟩
     | succ i=>
      obtain⟨u,hu1,hu2⟩:=hR4.2 i bs hi
      exact⟨u,hu1,hu2.mono fun x hx=>aN _ hx⟩⟩
    refine bA 8 ?_
    refine W.ap hE2 (ys:=vs) (mm:=l4) (fun w2 hs=>hS4.srcAt hs inferInstance) (fun v5 H5 h5=>?_) (hys:=hl4) (hbytes:=by rw [hvl];simp;omega)
    have h51:=h5.isOne
    (refine SL.l [9,10] ?_)
    refine W.j ?_
    rw [hbln] at hF hbl hb256
    clear hbln hR4 hS4 hoc4 hb42 hbks hl4
    have hAl:(iE p t::(List.range (Gm.epochs p)).map fun k=>epB k (List.replicate (Gm.sealed p) (kP r))).length≤1000:=by simp;omega
    generalize (iE p t::(List.range (Gm.epochs p)).map fun k=>epB k (List.replicate (Gm.sealed p) (kP r)))=A at *
    refine bQ [1,3] (H5++((H3++Ht)++Hs)) (fun x:Value×List Value×Hp×Hp×Hp=>[(7,x.1)]) (fun x=>x.2.2.2.2++(x.2.2.1++x.2.2.2.1)) (fun x=>Sl 23 1 x.1 x.2.1 x.2.2.1∧RB x.2.2.2.1 x.2.1 (A++(List.range (Gm.sealed p)).map fun k=>dM (Rg.enc ws n) (kP r) k (List.replicate 256 0))∧jS sp c n ws (N+Gm.sealed p) x.2.2.2.2) ?_ ?_
    ·refine W.k ?_
     refine bF [1,3] (fun x:Nat×Value×List Value×Hp×Hp×Hp=>[(7,x.2.1),(8,.int .i64 (x.1:Int))]) (fun x=>x.2.2.2.2.2++(x.2.2.2.1++x.2.2.2.2.1)) (fun x=>Gm.sealed p-x.1) (fun x=>x.1≤Gm.sealed p∧Sl 23 1 x.2.1 x.2.2.1 x.2.2.2.1∧RB x.2.2.2.2.1 x.2.2.1 (A++(List.range x.1).map fun k=>dM (Rg.enc ws n) (kP r) k (List.replicate 256 0))∧jS sp c n ws (N+x.1) x.2.2.2.2.2) (0,v5,[.slice a3 l3 c3]++vs,H5,H3++Ht,Hs) ⟨Nat.zero_le _,h5,by rw [List.range_zero,mX,aH];exact hR5,hS⟩ ?_
     rintro⟨j,v6,vs6,H6,Ht6,Hs6⟩ ⟨hj,hS6,hR6,hS7⟩
     dsimp only at hj hS6 hR6 hS7 ⊢
     have h61:=hS6.isOne
     have hvl6:vs6.length=A.length+j:=by rw [hR6.1,aB,aD,dY]
     by_cases hjm:j<Gm.sealed p
     ·have hxl:=mQ (E:=Rg.enc ws n) (fun x=>Rg.enc_len ..) (kP r) j (List.replicate 256 0)
      rw [aS] at hxl
      have hsl7:=fun b6=>aHG hS7 hK oQ (kP r) j oQ (.slice (some ⟨b6,0,none⟩) 256 256) (List.replicate 256 0) (by rw [aS];decide)
      have hrs:A++(List.range (j+1)).map (fun k=>dM (Rg.enc ws n) (kP r) k (List.replicate 256 0))=(A++(List.range j).map fun k=>dM (Rg.enc ws n) (kP r) k (List.replicate 256 0))++[dM (Rg.enc ws n) (kP r) j (List.replicate 256 0)]:=by rw [bV,aV,aM];rfl
      have hnl:(List.replicate 256 (0:UInt8)).length=256:=aS
      have hnn:List.replicate 256 (Value.int .u8 0)=cbs (List.replicate 256 0):=aBK 256
      generalize dM (Rg.enc ws n) (kP r) j (List.replicate 256 0)=y at *
      refine W.k ?_
      refine W.cw hse ?_
      (refine SW.l [7,8,9] [0,1,2,3,4,5] ?_;refine bA 6 ?_)
      refine W.ma (fun b6=>?_)
      rw [lH,hnn]
      (refine bC [] ?_;refine bO 7 ?_)
      refine eJ (hsl7 b6) (by rw [← heE]) ?_ (hpre:=fun w2 hs=>Rd.my (Hc:=Hs6) (T:=5) b6 _ hs hnl)
      rintro v8 _ ⟨H8,Hs8,h8,rfl,hS8⟩
      have h81:=h8.isOne
      obtain⟨a8,l8,c8,rfl,-⟩:=h8.form
      have hb63:bX (fun i=>some (i*1,1)) (zs [.slice none 0 0] 1) [(0,.slice a8 l8 c8)]=some [.slice a8 l8 c8]:=rfl
      (refine bC [] ?_;refine bO 8 ?_)
      refine iS (fun b9=>?_) (hr:=hb63)
      (refine bC [] ?_;refine bO 9 ?_)
      refine W.ap hS6 (ys:=[.slice a8 l8 c8]) (mm:=1) (fun w2 hs=>(Sl.own 23 1 b9 (xs:=[.slice a8 l8 c8]) rfl).srcAt hs inferInstance) (fun v9 H9 h9=>?_) (hys:=rfl) (hbytes:=by rw [hvl6];simp;omega)
      have h91:=h9.isOne
      (refine SL.l [10,11] ?_)
      refine W.k ?_
      refine aQ.mk (j+1,v9,vs6++[.slice a8 l8 c8],H9,H8++Ht6,Hs8) ?_
      refine⟨hjm,h9,?_,hS8⟩
      show RB _ _ (A++(List.range (j+1)).map fun k=>dM (Rg.enc ws n) (kP r) k (List.replicate 256 0))
      rw [hrs]
      exact (hR6.mono fun x hx=>aN _ hx).snoc ((RdH.of h8).mono fun x hx=>aO _ hx)
     ·have:j=Gm.sealed p:=oQ
      subst this
      refine W.k ?_
      refine W.cw hse ?_
      refine bT.mk (v6,vs6,H6,Ht6,Hs6) ?_
      exact⟨hS6,hR6,hS7⟩
    rintro⟨v6,vs6,H6,Ht6,Hs6⟩ ⟨hS6,hR6,hS7⟩
    dsimp only at hS6 hR6 hS7 ⊢
    have h61:=hS6.isOne
    generalize (A++(List.range (Gm.sealed p)).map fun k=>dM (Rg.enc ws n) (kP r) k (List.replicate 256 0))=B at *
    clear hAl hR5 h5 h51 hE2
    obtain⟨a6,l6,c6,rfl,hl6⟩:=hS6.form
    rw [Nat.mul_one,hR6.1] at hl6
    subst hl6
    have hll:=Gm.leaves_le h
    have hl1:1≤Gm.leaves p:=by unfold Gm.leaves;omega
    have hwt:∀ x,(cQ p t B).t (x,r1)=((cQ p t B x).1,(cQ p t B x).2,r1):=fun _=>rfl
    refine W.j ?_
    refine bQ [1,3,7] Hd1 (fun _:Dv×Hp=>[]) (fun x=>x.2) (fun x=>iA d x.1 x.2∧putL (fR 0 B) σ1=(0,x.1)) ?_ ?_
    ·rcases hS6 with ⟨hz,hz2,-⟩|⟨bb,len,cap,junk,hz,hxl,hj,hlc2,rfl⟩
     ·simp only [Value.slice.injEq] at hz
      obtain⟨-,hz,-⟩:=hz
      omega
     simp only [Value.slice.injEq] at hz
     obtain⟨rfl,rfl,rfl⟩:=hz
     refine W.k ?_
     refine bF [1,3,7,65,66] (fun x:Nat×Dv×Hp=>[(67,.int .i64 (x.1:Int))]) (fun x=>x.2.2) (fun x=>B.length-x.1) (fun x=>x.1≤B.length∧iA d x.2.1 x.2.2∧putL (fR 0 (B.take x.1)) σ1=(0,x.2.1)) (0,σ1,Hd1) ⟨Nat.zero_le _,hD1,by rw [cT];rfl⟩ ?_
     rintro⟨k,σ2,Hd2⟩ ⟨hk,hD2,hp⟩
     dsimp only at hk hD2 hp ⊢
     by_cases hkB:k<B.length
     ·have hbk:=aA hkB
      obtain⟨u,hu1,hu2⟩:=hR6.2 k _ hbk
      have hv:(vs6++junk)[k]?=some u:=by rw [aL (by rw [hR6.1];exact hkB)];exact hu1
      have huo:=hu2.one
      have hbl2:=hb256 _ (cE hkB)
      have hwl2:σ2.ws.length=σ1.ws.length:=by have:=jD (fR 0 (B.take k)) σ1;rw [hp] at this;exact this
      have hpt:=aBd (tr:=tr) (s:=sp) (p:=p) (t:=t) hD2 (by rw [hwl2,hwl];exact h8) k oQ u B[k] oQ
      have htl:(B.take k).length=k:=by rw [aG];omega
      have hs1:putL (fR 0 (B.take (k+1))) σ1=if (fH k B[k] σ2).1=0 then (0,(fH k B[k] σ2).2) else fH k B[k] σ2:=by
       rw [aZ,hbk,dJ,xS,qK,htl,fX]
       show DS.and _ ((fH k B[k]).and fun σ=>(0,σ)) σ1=_
       unfold DS.and
       rw [hp]
       simp
      have hs2:(fH k B[k] σ2).1≠0→putL (fR 0 B) σ1=fH k B[k] σ2:=fun hne=>by
       have e:fR 0 B=fR 0 (B.take (k+1))++fR (0+(B.take (k+1)).length) (B.drop (k+1)):=by rw [← aCG,dG]
       rw [e,qK]
       unfold DS.and
       rw [hs1,if_neg hne,if_neg hne]
      generalize B[k]=bk at *
      refine W.k ?_
      refine aF hpt ?_ (hpre:=fun w2 hs=>hu2.rd (Hc:=Hd2) hs)
      rintro _ Hd3 ⟨rfl,hD3⟩
      by_cases hz0:(fH k bk σ2).1=0
      ·rw [if_pos hz0] at hs1
       refine W.k ?_
       refine aQ.mk (k+1,(fH k bk σ2).2,Hd3) ?_
       exact⟨hkB,hD3,hs1⟩
      ·have he:=hs2 hz0
       have ewS:cQ p t B σ1=fH k bk σ2:=by
        have e1:iW B σ1=fH k bk σ2:=by rw [← he];exact DS.and_ne (by rw [he];exact hz0)
        rw [← e1];exact DS.and_ne (by rw [e1];exact hz0)
       have eF:FF=((fH k bk σ2).1,(fH k bk σ2).2,r1):=by
        rw [hF,TS.and_ne (by rw [hwt,ewS];exact hz0),hwt,ewS]
       rw [eF]
       refine W.k ?_
       refine Fin.to ((tr,cl (rtc d r1) 120)::(Hd3++Hs6)) ?_
       exact F.f1 ⟨rfl,Hd3,Hs6,hD3,hS7.mono oQ,rfl⟩
     ·have hkn:k=B.length:=oQ
      rw [hkn,bN] at hp
      subst hkn
      refine W.k ?_
      refine bT.mk (σ2,Hd2) ?_
      exact⟨hD2,hp⟩
    rintro⟨σ2,Hd2⟩ ⟨hD2,hp⟩
    dsimp only at hD2 hp ⊢
    have hwl2:σ2.ws.length=σ1.ws.length:=by have:=jD (fR 0 B) σ1;rw [hp] at this;exact this
    have e1:iW B σ1=feS σ2:=DS.and_eq hp
    have hfe:=wP hD2
    have hfwl:σ2.fence.ws.length=σ2.ws.length:=wF σ2
    by_cases hz0:(feS σ2).1=0
    ·have ef0:σ2.actR 0 0=0:=hz0
     have e2:cQ p t B σ1=gB (Gm.leaves p) (1+t) σ2.fence:=by
      unfold cQ
      rw [DS.and_eq (y:=σ2.fence) (by rw [e1];exact aBq hz0)]
     rw [ef0] at hfe
     refine W.k ?_
     refine aF hfe ?_
     rintro _ Hd3 ⟨rfl,hD3⟩
     have hsc:=aCI (tr:=tr) (s:=sp) h hD3 (by rw [hfwl,hwl2,hwl];exact h8) (1+t) oQ
     rw [show ((1+t:Nat):Int)=1+(t:Int) by omega] at hsc
     generalize hsq:gB (Gm.leaves p) (1+t) σ2.fence=SQ2 at *
     obtain⟨es,σ3⟩:=SQ2
     dsimp only at hsc
     refine W.k ?_
     refine aF hsc ?_
     rintro _ Hd4 ⟨rfl,hD4⟩
     by_cases hz1:es=0
     ·subst hz1
      have eF:FF=aD6 B (σ3,r1):=by rw [hF,TS.and_eq (y:=(σ3,r1)) (by rw [hwt,e2])]
      have hr1:r1.Ok:=⟨by rw [hrr];exact hr.1,by rw [hrc];omega,by rw [hrc];omega⟩
      have hr2:({ c:=r1.c+1,root:=fQ B }:Rg).Ok:=⟨Sha.sum_len _,by show 0≤r1.c+1;omega,by show r1.c+1≤_;omega⟩
      have hst:=aGP tr d r1 { c:=r1.c+1,root:=fQ B } hr1 hr2 hD4
      have hlv:=xR (.slice a6 B.length c6) vs6 B hR6 oQ hb256
      have hrt:=fun v=>aBO (eX B) (nP _) v (by rw [jL];omega)
      have eb:aD6 B (σ3,r1)=(qO σ3 r1 { c:=r1.c+1,root:=fQ B },sE σ3 r1 { c:=r1.c+1,root:=fQ B },oI σ3 r1 { c:=r1.c+1,root:=fQ B }):=rfl
      have hrl:(fQ B).length=32:=Sha.sum_len _
      have hroot:fU (eX B)=fQ B:=rfl
      have hbd:bX (fun i=>[(0,1),(1,32)][i]?) ([.int .u64 0]++List.replicate 32 (.int .u8 0)) [(0,.int .u64 (((UInt64.ofNat r.c.toNat+2).toNat:Nat):Int)),(1,dgV (fQ B))]=some (rgc { c:=r1.c+1,root:=fQ B }):=by
       rw [heE,show (((kP r).toNat:Nat):Int)=r1.c+1 by unfold kP;rw [aW,hrc];omega]
       exact aB4 _ hrl
      rw [hroot] at hrt
      refine W.k ?_
      (refine SW.l [8] [0,1,2,3,4] ?_;refine bA 5 ?_)
      refine aF hlv ?_ (hpre:=fun w2 hs=>Rd.own (Hc:=Ht6) hS6 hs inferInstance)
      rintro v9 _ ⟨H9,h9,rfl⟩
      have h91:=h9.isOne
      (refine bC [] ?_;refine bA 6 ?_)
      refine W.cq (hrt v9) ?_ (hpre:=fun w2 hs=>Rd.own (Hc:=[]) h9 hs inferInstance)
      (refine SL.l [7] ?_;refine bO 8 ?_)
      refine aF hst ?_
      rintro _ _ ⟨rfl,Hd5,rfl,hD5⟩
      (refine SL.l [9,10] ?_)
      refine W.k ?_
      rw [eF,eb]
      refine Fin.to ((tr,cl (rtc d (oI σ3 r1 { c:=r1.c+1,root:=fQ B })) 120)::(Hd5++Hs6)) ?_
      exact F.f1 ⟨rfl,Hd5,Hs6,hD5,hS7.mono oQ,rfl⟩
     ·have eF:FF=(es,σ3,r1):=by rw [hF,TS.and_ne (by rw [hwt,e2];exact hz1),hwt,e2]
      rw [eF]
      refine W.k ?_
      refine Fin.to ((tr,cl (rtc d r1) 120)::(Hd4++Hs6)) ?_
      exact F.f1 ⟨rfl,Hd4,Hs6,hD4,hS7.mono oQ,rfl⟩
    ·have e2:cQ p t B σ1=feS σ2:=by rw [← e1];exact DS.and_ne (by rw [e1];exact hz0)
     have eF:FF=((feS σ2).1,(feS σ2).2,r1):=by rw [hF,TS.and_ne (by rw [hwt,e2];exact hz0),hwt,e2]
     rw [eF]
     have ef0:¬ σ2.actR 0 0=0:=hz0
     refine W.k ?_
     refine aF hfe ?_
     rintro _ Hd3 ⟨rfl,hD3⟩
     refine W.k ?_
     refine Fin.to ((tr,cl (rtc d r1) 120)::(Hd3++Hs6)) ?_
     exact F.f1 ⟨rfl,Hd3,Hs6,hD3,hS7.mono oQ,rfl⟩
  ·rw [hbmN he]
   refine W.k ?_
   refine Fin.to ((tr,cl (rtc d r1) 120)::(Hd1++Hs)) ?_
   exact F.f1 ⟨rfl,Hd1,Hs,hD1,hS.mono oQ,rfl⟩
 ·have ef:lD p t (dM (Rg.enc ws n)) (σ,r)=(21,(σ,r)):=by unfold lD;rw [if_pos (by show _<r.c;omega)]
  rw [ef]
  refine W.k ?_
  refine Fin.to ((tr,cl (rtc d r) 120)::(Hd++Hs)) ?_
  exact F.f1 ⟨rfl,Hd,Hs,hD,hS.mono oQ,rfl⟩
theorem Tri.to{P:Program}{f:FuncId}{vs:List Value}{Hc:Hp}{Pre:World→Prop}{R R':Value→Hp→Prop}(h:Tri P f vs Hc Pre R)(hr:∀ v H,R v H→∃ H' r,H.Perm (H'++r)∧R' v H'):Tri P f vs Hc Pre R':=fun w ho hp=>
 (h w ho hp).mono fun e w' ⟨v,H,he,hst,hR⟩=>by
  obtain⟨H',r,h1,h2⟩:=hr v H hR
  exact⟨v,H',he,(hst.perm h1).drop,h2⟩
def qS(sp d tr s bk p t:Nat)(x:So)(H:Hp):Prop:=
 ∃ ev tp He Ht,H=(sp,cl [ptv d,ptv tr,ptv s,ptv bk,.int .i64 (p:Int),.int .i64 (t:Int),ev,ptv tp,.bool x.w,.int .i64 x.st] 98)::(He++Ht)∧Sl 33 1 ev (uv x.es) He∧rR tp bk x.lv Ht
structure So.Ok(p:Nat)(x:So):Prop where
 es:x.es.length=Gm.sealed p
 lv:x.lv.length=Gm.leaves p
 d:D32 x.lv
def sO(sp d tr s p t:Nat)(x:So)(H:Hp):Prop:=
 ∃ ev lv He Hl,H=(sp,cl [ptv d,ptv tr,ptv s,.int .i64 (p:Int),.int .i64 (t:Int),ev,lv,.bool x.w,.int .i64 x.st] 160)::(He++Hl)∧Sl 33 1 ev (uv x.es) He∧Sl 54 32 lv (cbs x.lv.flatten) Hl
def StO(v:Value)(d tr s bk p t:Nat)(o:Option So)(H:Hp):Prop:=match o with|none=>v=.pointer none∧H=[]|some x=>∃ sp,v=ptv sp∧qS sp d tr s bk p t x H
def aJb(v:Value)(d tr s p t:Nat)(o:Option So)(H:Hp):Prop:=match o with|none=>v=.pointer none∧H=[]|some x=>∃ sp,v=ptv sp∧sO sp d tr s p t x H
theorem StO.one{v:Value}{d tr s bk p t:Nat}{o:Option So}{H:Hp}(h:StO v d tr s bk p t o H):One v:=by
 cases o with
 | none=>obtain⟨rfl,-⟩:=h;infer_instance
 | some x=>obtain⟨sp,rfl,-⟩:=h;infer_instance
theorem aJb.one{v:Value}{d tr s p t:Nat}{o:Option So}{H:Hp}(h:aJb v d tr s p t o H):One v:=by
 cases o with
 | none=>obtain⟨rfl,-⟩:=h;infer_instance
 | some x=>obtain⟨sp,rfl,-⟩:=h;infer_instance
structure Pid where
 d:Nat
 tr:Nat
 s:Nat
 bk:Nat
 tb:Nat
 c:Nat
 b:Nat
 rd:Nat
 rtr:Nat
 rs:Nat
 rc:Nat
abbrev vR(i:Pid)(p t:Nat)(sv rv:Value):List Value:=[ptv i.d,ptv i.tr,ptv i.s,ptv i.bk,.int .i64 (p:Int),.int .i64 (t:Int),sv,ptv i.rd,ptv i.rtr,ptv i.rs,.int .i64 (p:Int),.int .i64 (t:Int),rv]
def nL(pp p t n N:Nat)(ws ws':List (List UInt8))(σ:Dv)(r:Rg)(sr:Sr)(β:Bk)(o:Option So)(H:Hp):Prop:=
 ∃ (i:Pid) (sv rv:Value) (Hd Hs Hk HD HR HS HT:Hp),fD i.d σ Hd∧lU i.s i.c i.b n ws sr Hs∧eV i.bk i.tb β Hk∧iA i.rd σ HD∧jS i.rs i.rc n ws' N HR∧StO sv i.d i.tr i.s i.bk p t o HS∧aJb rv i.rd i.rtr i.rs p t o HT ∧
  H=(pp,cl (vR i p t sv rv) 47)::(i.tr,cl (trc i.d r) 201)::(i.rtr,cl (rtc i.rd r) 120)::(Hd++(Hs++(Hk++(HD++(HR++(HS++HT))))))
theorem uG(k:List UInt8)(hk:k.length=16):kS 10 (Aes.sched k):=by
 have h4:∀ y∈Aes.keyW k 4,y.length=4:=Aes.keyW_four oQ
 have hl:(Aes.keyW k 4).length=4:=Aes.keyW_len _ _
 have e:Aes.sched k=Aes.grow 4 (Aes.keyW k 4) 40:=by unfold Aes.sched;rw [hk]
 have hg:(Aes.sched k).length=44:=by rw [e,Aes.grow_len,hl]
 exact⟨by rw [e];exact Aes.grow_four dQ h4 oQ 40,by omega,by decide,by omega⟩
theorem aE7{p t:Nat}(h:Gm.Ok p t)(k:List UInt8)(hk:k.length=16){cnt:Int}(h0:0≤cnt)(h1:cnt≤18446744073709551615):Tri prog 10 [kF p t,.agg (cbs k).toArray,.int .u64 cnt] [] (fun _=>True)
  (fun v H=>∃ pp,v=ptv pp∧nL pp p t 10 0 (Aes.sched k) (Rg.sched k) (Dv.new (4*Gm.total p t:Nat)) (rg0 cnt) Sr.new Bk.new none H):=by
 refine (aLo h k hk h0 h1).to ?_
 rintro v H ⟨pp,rfl,d,tr,s,m,bk,tb,c,b,rd,rtr,rs,rc,Hd,Hb,Hc,HD,HR,hD,hB,hC,hDR,hR,rfl⟩
 rw [hk] at hC hR
 refine⟨(pp,cl [ptv d,ptv tr,ptv s,ptv bk,.int .i64 (p:Int),.int .i64 (t:Int),.pointer none,ptv rd,ptv rtr,ptv rs,.int .i64 (p:Int),.int .i64 (t:Int),.pointer none] 47)::(tr,cl (trc d (rg0 cnt)) 201)::(rtr,cl (rgc (rg0 cnt)++[ptv rd]) 120) ::
  (Hd++(((s,cl [ptv c,.map (some m),.slice none 0 0] 170)::(m,mo [])::((Hc++[(b,gU)])++([]++[])))++(Hb++(HD++(((rs,cl [ptv rc,.slice none 0 0,.bool false,.int .u64 0,.int .i64 0,.slice none 0 0] 127)::(HR++([]++[])))++([]++[])))))),[],?_,?_⟩
 ·rw [aH]
  simp only [aH,List.nil_append]
  exact fY
 ·refine⟨pp,rfl,⟨d,tr,s,bk,tb,c,b,rd,rtr,rs,rc⟩,_,_,Hd,_,Hb,HD,_,[],[],hD,?_,hB,hDR,?_,⟨rfl,rfl⟩,⟨rfl,rfl⟩,rfl⟩
  ·exact⟨m,.slice none 0 0,[],Hc,[],[],rfl,hC,Sl.nil _ _,rfl,by simp⟩
  ·exact⟨.slice none 0 0,false,0,0,.slice none 0 0,[],HR,[],[],rfl,hR,Sl.nil _ _,Nat.le_refl _,⟨rfl⟩,by simp⟩
theorem aA3{pp p t n N:Nat}{ws ws':List (List UInt8)}{σ:Dv}{r:Rg}{sr:Sr}{β:Bk}{o:Option So}{H:Hp}(h:Gm.Ok p t)(hP:nL pp p t n N ws ws' σ r sr β o H)(hlen:σ.len=256*Gm.total p t)(hr:r.Ok)(hK:kS n ws)(hK':kS n ws')(hN:N≤1000000)(hX:Rg.enc ws' n=Aes.enc ws n) :
  Tri prog 64 [ptv pp] H (fun _=>True) (fun v H'=>v=.bool true ∧
   nL pp p t n (N+200) ws ws' (lD p t (dM (Aes.enc ws n)) (σ,r)).2.1 (lD p t (dM (Aes.enc ws n)) (σ,r)).2.2 (pC p σ r sr) (xY p t n ws σ r β) o H'):=by
 obtain⟨i,sv,rv,Hd,Hs,Hk,HD,HR,HS,HT,hD,hS,hB,hDR,hSR,hO,hOR,rfl⟩:=hP
 refine Tri.mk func64 rfl ntmps64 rfl fun w hw=>?_
 have hF:=aI4 (tr:=i.tr) h hD hlen hr hS hK hB
 have hG:=aII (tr:=i.rtr) h hDR hlen hr hSR hK' hN
 rw [hX] at hG
 have o1:=hO.one
 have o2:=hOR.one
 generalize lD p t (dM (Aes.enc ws n)) (σ,r)=FF at *
 refine W.k ?_
 (refine SW.l [9] [0,1,2,3,5,6,7,8] ?_;refine bA 4 ?_)
 refine aF hF ?_
 rintro _ _ ⟨rfl,Hd2,Hs2,Hk2,Hx,hD2,hS2,hB2,rfl⟩
 (refine bC [] ?_;refine bO 9 ?_)
 refine aF hG ?_
 rintro _ _ ⟨rfl,HD2,HR2,hDR2,hSR2,rfl⟩
 (refine SL.l [10,11,12] ?_)
 refine W.k ?_
 refine Fin.to ((pp,cl (vR i p t sv rv) 47)::(i.tr,cl (trc i.d FF.2.2) 201)::(i.rtr,cl (rtc i.rd FF.2.2) 120)::(Hd2++(Hs2++(Hk2++(HD2++(HR2++(HS++HT))))))) ?_
 exact F.f1 ⟨rfl,i,sv,rv,Hd2,Hs2,Hk2,HD2,HR2,HS,HT,hD2,hS2,hB2,hDR2,hSR2,hO,hOR,rfl⟩
end
theorem aLD{p t:Nat}(h:Gm.Ok p t){E:List UInt8→List UInt8}(hE:∀ x,(E x).length=16){cnt:Int}(h0:0≤cnt)(h1:cnt≤18446744073709551613)(ht:4*Gm.total p t≤1024) :
  ∃ σ',lD p t (dM E) (Dv.new (4*Gm.total p t:Nat),rg0 cnt)=(0,(σ',{ c:=cnt+2,root:=fQ (fG p t (dM E) (UInt64.ofNat (cnt+2).toNat)) })) ∧
   σ'.Sta (8*(4*Gm.total p t)) ((fG p t (dM E) (UInt64.ofNat (cnt+2).toNat)).flatten++List.replicate (256*(1+t)) 0):=
 aLE (aBJ _ ht) (by unfold Gm.total;omega) h1 (pN hE _) (nT _ _ _ _)
theorem aA1:Gm.Ok 3 4:=⟨by decide,by decide,by decide,by decide⟩
abbrev aJT:List UInt8:=1::List.replicate 15 0
theorem aGl(k:List UInt8)(hk:k.length=16):Rg.enc (Rg.sched k) 10=Aes.enc (Aes.sched k) 10:=Ae.encs k hk 10 dQ
theorem aBe(k:List UInt8)(hk:k.length=16):kS 10 (Rg.sched k):=by rw [Ae.sched_eq k hk];exact uG k hk
end Go.Proofs.YtnhnpjokpelkbaaGreat
