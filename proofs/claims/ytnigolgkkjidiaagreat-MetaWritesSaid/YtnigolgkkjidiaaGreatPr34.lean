/- A new store is made: the document's. -/
import Derived.Test.YtnigolgkkjidiaaGreatPr33
import Derived.Test.YtnigolgkkjidiaaGreatPr26
import Derived.Test.YtnigolgkkjidiaaGreatPr24
set_option linter.unusedVariables false
set_option linter.unusedSimpArgs false
set_option linter.unusedSectionVars false
set_option maxHeartbeats 8000000
namespace Go.Proofs.YtnigolgkkjidiaaGreat
open Go Go.Proofs.Tryz
section
attribute [local irreducible] SW SL SQ SH SA SS Pu Fin bZ aT
theorem rB.mono{rs rc n:Nat}{ws:List (List UInt8)}{N M:Nat}{H:Hp}(h:rB rs rc n ws N H)(hm:N≤M):rB rs rc n ws M H:=by
 obtain⟨lv,tw,te,tb,tp,L,Hc,HL,Ht,rfl,hC,hL,hN,htp,hall⟩:=h
 exact⟨lv,tw,te,tb,tp,L,Hc,HL,Ht,rfl,hC,hL,by omega,htp,hall⟩
theorem aEd{d tr s p t:Nat}(h:Gm.Ok p t){σ:Dv}{Hd:Hp}(hD:lU d σ Hd)(hlen:σ.len=256*Gm.total p t) :
  Tri prog 15 [rK d tr s p t] Hd (fun _=>True) (fun v H=>v=.bool true∧H=Hd):=by
 obtain⟨hO,bl,bn,bp,bm,vp,va,Hq,Ha,h1,h2,rfl⟩:=hD
 have hof:One vp:=h1.one
 have hoa:One va:=h2.one
 refine Tri.mk func15 rfl ntmps15 rfl fun w hw=>?_
 have hm:=oM h
 have hall:=aAa h
 have htl:=Gm.total_le2 h
 have hpl:=pD (Gm.all p t)
 rw [Gm.all_len] at hpl
 rw [hlen]
 generalize Gm.all p t=l at *
 generalize Gm.total p t=m at *
 refine W.k fun b_=>?_
 (refine SW.l [2] [0,1] ?_;refine cB 2 ?_)
 refine W.cq hm ?_
 (refine SL.l [3,4,5,6,7,8,9,10,11] ?_;(first|refine cI 12 rfl ?_;refine SG.l [13,14,15,16,17,18] ?_|refine aX 12 ?_))
 refine aL hall ?_
 rintro v1 H1 ⟨Hs,hS,rfl⟩
 obtain⟨a,len,cap,rfl,hl1⟩:=hS.form
 have hl2:len=m:=om
 subst hl2
 (refine SL.l [13,14,15,16,17,18] ?_)
 refine W.k ?_
 refine Fin.to ((d,cl [.slice (some ⟨bl,0,none⟩) (256*len) (256*len),.slice (some ⟨bn,0,none⟩) (256*len) (256*len),.slice (some ⟨bp,0,none⟩) σ.ws.length σ.ws.length,.slice (some ⟨bm,0,none⟩) σ.ws.length σ.ws.length,.bool σ.down,.int .i64 σ.fuse,vp,va] 54) ::
   (bl,cl (rl σ.ws) 5)::(bn,cl (rn σ.ws) 5)::(bp,cl (rp σ.ws) 4)::(bm,cl (rm σ.ws) 4)::(Hq++Ha)) ?_
 exact F.f1 ⟨rfl,rfl⟩
theorem aFn(d:Nat){r:Rg}(h:r.Ok):(rtc d r)[0]?=some (.int .u64 r.c)∧((rtc d r).drop 1).take 32=cbs r.root∧(cbs r.root).length=32:=by
 refine⟨rfl,?_,by rw [aI,h.len]⟩
 have hl:=h.len
 show ((r.root.map bv++[_]).take 32)=_
 rw [aQ (by simp [hl]),aB (by simp [hl])]
 rfl
theorem aHf{d tr s p t:Nat}{σ:Dv}{r:Rg}{Hd:Hp}(hD:lU d σ Hd)(hr:r.Ok)(hlt:r.c<18446744073709551615) :
  Tri prog 196 [rK d tr s p t] ((tr,cl (rtc d r) 128)::Hd) (fun _=>True)
  (fun v H=>v=.int .i64 (gV (σ,r)).1∧∃ Hd',lU d (gV (σ,r)).2.1 Hd'∧H=(tr,cl (rtc d (gV (σ,r)).2.2) 128)::Hd'):=by
 refine Tri.mk func196 rfl ntmps196 rfl fun w hw=>?_
 have hc0:=hr.c0
 have hr2:({ r with c:=r.c+1 }:Rg).Ok:=⟨hr.len,by show 0≤r.c+1;omega,by show r.c+1≤_;omega⟩
 have hst:=aJ4 tr d r { r with c:=r.c+1 } hr hr2 hD
 obtain⟨f1,f2,f3⟩:=aFn d hr
 haveI i1:U64 r.c (UInt64.ofNat r.c.toNat):=⟨by rw [bC];omega⟩
 have e1:(((UInt64.ofNat r.c.toNat+1).toNat:Nat):Int)=r.c+1:=by
  rw [jU,bC,show (1:UInt64).toNat=1 from rfl];omega
 have hbd:bQ (fun i=>[(0,1),(1,32)][i]?) ([.int .u64 0]++List.replicate 32 (.int .u8 0)) [(0,.int .u64 (((UInt64.ofNat r.c.toNat+1).toNat:Nat):Int)),(1,dgV r.root)]=some (rgc { r with c:=r.c+1 }):=by rw [e1];exact aFM _ hr.len
 have eb:gV (σ,r)=(vJ σ r { r with c:=r.c+1 },vI σ r { r with c:=r.c+1 },rT σ r { r with c:=r.c+1 }):=rfl
 rw [eb]
 generalize ({ r with c:=r.c+1 }:Rg)=r2 at *
 refine W.k fun b_=>?_
 (refine SW.l [16] [0,1,2,3,4,5,6,7,8,9,10,11,12,13,14,15] ?_;refine cB 16 ?_)
 refine aL hst ?_
 rintro _ _ ⟨rfl,H2,rfl,hD2⟩
 (refine SL.l [17,18] ?_)
 refine W.k ?_
 refine Fin.to ((tr,cl (rtc d (rT σ r r2)) 128)::H2) ?_
 exact F.f1 ⟨rfl,H2,hD2,rfl⟩
theorem xE{Ht:Hp}(v:Value)(vs:List Value)(bss:List (List UInt8))(hR:RB Ht vs bss)(hn:bss.length≤1000)(hb:∀ b∈bss,b.length=256):Tri prog 205 [v] Ht (fun w=>Rd (Ht.map Prod.fst) w 1 v vs)
  (fun r H=>∃ Hs,Sl 118 32 r (cbs (fL bss).flatten) Hs∧H=Hs++Ht):=by
 refine Tri.mk func205 rfl ntmps205 rfl fun w hw=>?_
 obtain⟨a,la,ca,rfl,hl1,hc1,hr1⟩:=hw.get
 have hvl:=hR.1
 rw [Nat.mul_one,hvl] at hl1
 subst hl1
 have hY:One (Value.slice a bss.length ca):=⟨rfl⟩
 refine W.j ?_
 refine cN [] [] (fun x:Value×Hp=>[(3,x.1)]) (fun x=>x.2) (fun x=>Sl 118 32 x.1 (cbs (fL bss).flatten) x.2) ?_ ?_
 ·refine W.k ?_
  refine bN [6,7] (fun x:Nat×Value×Hp=>[(3,x.2.1),(8,.int .i64 (x.1:Int))]) (fun x=>Ht++x.2.2) (fun x=>bss.length-x.1) (fun x=>x.1≤bss.length∧Sl 118 32 x.2.1 (cbs (fL (bss.take x.1)).flatten) x.2.2) (0,.slice none 0 0,[]) ⟨Nat.zero_le _,by rw [cQ];exact Sl.nil _ _⟩ ?_
  rintro⟨k,v2,Hl2⟩ ⟨hk,hS2⟩
  dsimp only at hk hS2 ⊢
  have hS21:=hS2.isOne
  by_cases hkn:k<bss.length
  ·obtain⟨bb,o,l,T,fz,rfl,hb1,hkK,hy⟩:=hr1 om
   obtain⟨u,hu1,hu2⟩:=hR.2 k _ (aA hkn)
   have hlu:l[o+k]?=some u:=by
    have h2:((l.drop o).take (bss.length*1))[k]?=vs[k]?:=by rw [hy]
    rw [bI,if_pos om,bD,hu1] at h2
    exact h2
   have hbl:=hb _ (dR hkn)
   have htl:(bss.take k).length=k:=by rw [aD];omega
   have hts:bss.take (k+1)=bss.take k++[bss[k]]:=by rw [aO,aA hkn];rfl
   have hss:fL (bss.take (k+1))=fL (bss.take k)++[Sha.sum (kR k bss[k])]:=by rw [hts,aCs,htl]
   have hfl:=eD (L:=fL (bss.take k)) (pS _)
   rw [kM,htl] at hfl
   have huo:=hu2.one
   have hlf:=aLG k u bss[k] om
   have h32:(Sha.sum (kR k bss[k])).length=32:=Sha.sum_len _
   generalize Sha.sum (kR k bss[k])=y at *
   have hb2:=b1d h32
   have hc:=pZ h32
   refine W.k ?_
   refine W.cw hlf ?_ (hpre:=fun w2 hs=>hu2.rd (Hc:=[]) hs);intro b_
   refine W.ap (ys:=cbs y) (mm:=1) hS2 (fun w2 hs=>(Sl.own 118 32 b_ (xs:=cbs y) hc).srcAt hs inferInstance) (fun v3 H3 h3=>?_) (hys:=hc) (hbytes:=by rw [hc,aI,hfl];omega)
   have h31:=h3.isOne
   rw [show cbs (fL (bss.take k)).flatten++cbs y=cbs (fL (bss.take k)++[y]).flatten by simp,← hss] at h3
   refine W.k ?_
   refine aT.mk (k+1,v3,H3) ?_
   exact⟨hkn,h3⟩
  ·have hk2:k=bss.length:=om
   rw [hk2,bT] at hS2
   subst hk2
   refine W.k ?_
   refine bZ.mk (v2,Hl2) ?_
   exact hS2
 rintro⟨v2,Hl2⟩ hS2
 dsimp only at hS2 ⊢
 have hS21:=hS2.isOne
 refine W.k ?_
 refine Fin.to (Hl2++Ht) ?_
 exact F.f1 ⟨Hl2,hS2,rfl⟩
theorem aH1{d tr sp p t c n N:Nat}{ws:List (List UInt8)}{σ:Dv}{r:Rg}{Hd Hs:Hp}(h:Gm.Ok p t)(hD:lU d σ Hd)(hlen:σ.len=256*Gm.total p t)(hr:r.Ok)(hS:rB sp c n ws N Hs)(hK:pG n ws)(hN:N≤1000000) :
  Tri prog 136 [rK d tr sp p t] ((tr,cl (rtc d r) 128)::(Hd++Hs)) (fun _=>True)
  (fun v H=>v=.int .i64 (oH p t (eC (Rg.enc ws n)) (σ,r)).1∧∃ Hd' Hs',lU d (oH p t (eC (Rg.enc ws n)) (σ,r)).2.1 Hd'∧rB sp c n ws (N+200) Hs' ∧
   H=(tr,cl (rtc d (oH p t (eC (Rg.enc ws n)) (σ,r)).2.2) 128)::(Hd'++Hs')):=by
 refine Tri.mk func136 rfl ntmps136 rfl fun w hw=>?_
 have hmy:=aEd (tr:=tr) (s:=sp) h hD hlen
 obtain⟨f1,f2,f3⟩:=aFn d hr
 have h8:σ.ws.length%8=0:=by unfold Dv.len at hlen;omega
 have h0:=hr.c0
 have h1:=hr.c1
 have hse:=rO h
 have hsl:=Gm.sealed_le h
 have ht:=h.2.2.2
 refine W.k fun b_=>?_
 refine aL hmy ?_
 rintro _ Hd ⟨rfl,rfl⟩
 by_cases hc:r.c≤18446744073709551613
 ·have hbp:=aHf (tr:=tr) (s:=sp) (p:=p) (t:=t) hD hr om
  have hbmE:∀ y,gV (σ,r)=(0,y)→oH p t (eC (Rg.enc ws n)) (σ,r)=(((dN p t (gA p t (eC (Rg.enc ws n)) (lL r))).t.and (aK1 (gA p t (eC (Rg.enc ws n)) (lL r)))) y):=fun y hy=>by
   unfold oH
   rw [if_neg (by show ¬ _<r.c;omega),TS.and_eq hy]
   rfl
  have hbmN:(gV (σ,r)).1≠0→oH p t (eC (Rg.enc ws n)) (σ,r)=gV (σ,r):=fun hne=>by
   unfold oH
   rw [if_neg (by show ¬ _<r.c;omega),TS.and_ne hne]
  have hwl:=aA8 (σ,r)
  have hcc:=fun y (hy:gV (σ,r)=(0,y))=>aIH hy
  generalize oH p t (eC (Rg.enc ws n)) (σ,r)=FF at *
  generalize gV (σ,r)=bmp at *
  obtain⟨eb,σ1,r1⟩:=bmp
  dsimp only at hbp hbmN hwl
  refine W.k ?_
  refine aL hbp ?_
  rintro _ _ ⟨rfl,Hd1,hD1,rfl⟩
  by_cases he:eb=0
  ·subst he
   have hF:=hbmE _ rfl
   obtain⟨hrc,hrr⟩:=hcc _ rfl
   dsimp only at hrc hrr
   clear hbmE hbmN hcc
   haveI i1:U64 r.c (UInt64.ofNat r.c.toNat):=⟨by rw [bC];omega⟩
   haveI i2:U64 2 2:=⟨rfl⟩
   have heE:=aGO h0 hc
   rw [show UInt64.ofNat (r.c+2).toNat=lL r from rfl] at heE
   refine W.j ?_
   generalize b_=b1 at *
   have hbln:gA p t (eC (Rg.enc ws n)) (lL r)=(iD p t::(List.range (Gm.epochs p)).map fun k=>epB k (List.replicate (Gm.sealed p) (lL r)))++(List.range (Gm.sealed p)).map fun k=>eC (Rg.enc ws n) (lL r) k (List.replicate 256 0):=rfl
   have hbl:=rC p t (eC (Rg.enc ws n)) (lL r)
   have hb256:=oW (p:=p) (t:=t) (E:=Rg.enc ws n) (fun x=>Rg.enc_len ..) (lL r)
   refine cN [1,3] [] (fun x:Value×Hp=>[(5,x.1)]) (fun x=>x.2) (fun x=>Sl 28 1 x.1 (uv (List.replicate (Gm.sealed p) (lL r))) x.2) ?_ ?_
   ·refine W.k ?_
    refine bN [1,3] (fun x:Nat×Value×Hp=>[(5,x.2.1),(6,.int .i64 (x.1:Int))]) (fun x=>x.2.2) (fun x=>Gm.sealed p-x.1) (fun x=>x.1≤Gm.sealed p∧Sl 28 1 x.2.1 (uv (List.replicate x.1 (lL r))) x.2.2) (0,.slice none 0 0,[]) ⟨Nat.zero_le _,Sl.nil _ _⟩ ?_
    rintro⟨j,v2,H2⟩ ⟨hj,h2⟩
    dsimp only at hj h2 ⊢
    have h21:=h2.isOne
    have hb37:bQ (fun i=>some (i*1,1)) (zs [.int .u64 0] 1) [(0,.int .u64 (((UInt64.ofNat r.c.toNat+2).toNat:Nat):Int))]=some (uv [lL r]):=by rw [heE];rfl
    by_cases hjm:j<Gm.sealed p
    ·refine W.k ?_
     refine W.cw hse ?_;intro b_
     refine W.ap h2 (ys:=uv [lL r]) (mm:=1) (fun w2 hs=>(Sl.own 28 1 b_ (xs:=uv [lL r]) rfl).srcAt hs inferInstance) (fun v3 H3 h3=>?_) (hys:=rfl) (hbytes:=by rw [jI,aM];simp;omega)
     have h31:=h3.isOne
     rw [← bB,← jE] at h3
     refine W.k ?_
     refine aT.mk (j+1,v3,H3) ?_
     exact⟨hjm,h3⟩
    ·have:j=Gm.sealed p:=om
     subst this
     refine W.k ?_
     refine W.cw hse ?_
     refine bZ.mk (v2,H2) ?_
     exact h2
   rintro⟨v2,H2⟩ h2
   dsimp only at h2 ⊢
   have h21:=h2.isOne
   refine W.j ?_
   (refine SW.l [] [0,1,4,5,6] ?_;refine aX 2 ?_)
   refine aL (aFg h) ?_
   intro v3 H3 h3
   have h31:=h3.isOne
   obtain⟨a3,l3,c3,rfl,-⟩:=h3.form
   have hb42:bQ (fun i=>some (i*1,1)) (zs [.slice none 0 0] 1) [(0,.slice a3 l3 c3)]=some [.slice a3 l3 c3]:=rfl
   have hbks:=aH0 h v2 (List.replicate (Gm.sealed p) (lL r))
   refine cU ?_
   refine fX 3 7 ?_ ?_ rfl rfl
   case' refine_1=>
    refine jO (fun b2=>?_) (hr:=hb42)
    refine cU ?_
    refine aX 7 ?_
    refine aL hbks ?_ (hpre:=fun w2 hs=>Rd.own (Hc:=[]) h2 hs inferInstance)
    rintro v4 _ ⟨vs,Hv,Ht,hS4,hR4,rfl⟩
    have h41:=hS4.isOne
    obtain⟨a4,l4,c4,rfl,hl4⟩:=hS4.form
    refine cU ?_
   case' refine_2=>
    refine aL hbks ?_ (hpre:=fun w2 hs=>Rd.own (Hc:=[]) h2 hs inferInstance)
    rintro v4 _ ⟨vs,Hv,Ht,hS4,hR4,rfl⟩
    have h41:=hS4.isOne
    obtain⟨a4,l4,c4,rfl,hl4⟩:=hS4.form
    refine cU ?_
    refine aX 3 ?_
    refine jO (fun b2=>?_) (hr:=hb42)
    refine cU ?_
   all_goals
    have hel:=Gm.epochs_le h
    have hvl:vs.length=Gm.epochs p:=by rw [hR4.1];simp
    have hoc4:=hR4.oc
    have hE2:Sl 50 1 (.slice (some ⟨b2,0,none⟩) 1 1) [.slice a3 l3 c3] [(b2,cl [.slice a3 l3 c3] 50)]:=Sl.own _ 1 b2 (len:=1) rfl
    have hR5:RB (H3++Ht) ([.slice a3 l3 c3]++vs) (iD p t::(List.range (Gm.epochs p)).map fun k=>epB k (List.replicate (Gm.sealed p) (lL r))):=⟨by simp [hR4.1],fun i bs hi=>by
     cases i with
     | zero=>
      cases hi
      exact⟨_,rfl,(RdH.of h3).mono fun x hx=>bA _ hx⟩
     | succ i=>
      obtain⟨u,hu1,hu2⟩:=hR4.2 i bs hi
      exact⟨u,hu1,hu2.mono fun x hx=>aV _ hx⟩⟩
    refine aX 8 ?_
    refine W.ap hE2 (ys:=vs) (mm:=l4) (fun w2 hs=>hS4.srcAt hs inferInstance) (fun v5 H5 h5=>?_) (hys:=hl4) (hbytes:=by rw [hvl];simp;omega)
    have h51:=h5.isOne
    (refine SL.l [9,10] ?_)
    refine W.j ?_
    rw [hbln] at hF hbl hb256
    clear hbln hR4 hS4 hoc4 hb42 hbks hl4
    have hAl:(iD p t::(List.range (Gm.epochs p)).map fun k=>epB k (List.replicate (Gm.sealed p) (lL r))).length≤1000:=by simp;omega
    generalize (iD p t::(List.range (Gm.epochs p)).map fun k=>epB k (List.replicate (Gm.sealed p) (lL r)))=A at *
    refine cN [1,3] (H5++((H3++Ht)++Hs)) (fun x:Value×List Value×Hp×Hp×Hp=>[(7,x.1)]) (fun x=>x.2.2.2.2++(x.2.2.1++x.2.2.2.1)) (fun x=>Sl 50 1 x.1 x.2.1 x.2.2.1∧RB x.2.2.2.1 x.2.1 (A++(List.range (Gm.sealed p)).map fun k=>eC (Rg.enc ws n) (lL r) k (List.replicate 256 0))∧rB sp c n ws (N+Gm.sealed p) x.2.2.2.2) ?_ ?_
    ·refine W.k ?_
     refine bN [1,3] (fun x:Nat×Value×List Value×Hp×Hp×Hp=>[(7,x.2.1),(8,.int .i64 (x.1:Int))]) (fun x=>x.2.2.2.2.2++(x.2.2.2.1++x.2.2.2.2.1)) (fun x=>Gm.sealed p-x.1) (fun x=>x.1≤Gm.sealed p∧Sl 50 1 x.2.1 x.2.2.1 x.2.2.2.1∧RB x.2.2.2.2.1 x.2.2.1 (A++(List.range x.1).map fun k=>eC (Rg.enc ws n) (lL r) k (List.replicate 256 0))∧rB sp c n ws (N+x.1) x.2.2.2.2.2) (0,v5,[.slice a3 l3 c3]++vs,H5,H3++Ht,Hs) ⟨Nat.zero_le _,h5,by rw [List.range_zero,jB,aJ];exact hR5,hS⟩ ?_
     rintro⟨j,v6,vs6,H6,Ht6,Hs6⟩ ⟨hj,hS6,hR6,hS7⟩
     dsimp only at hj hS6 hR6 hS7 ⊢
     have h61:=hS6.isOne
     have hvl6:vs6.length=A.length+j:=by rw [hR6.1,aC,aE,cZ]
     by_cases hjm:j<Gm.sealed p
     ·have hxl:=sZ (E:=Rg.enc ws n) (fun x=>Rg.enc_len ..) (lL r) j (List.replicate 256 0)
      rw [aM] at hxl
      have hsl7:=fun b6=>aLB hS7 hK om (lL r) j om (.slice (some ⟨b6,0,none⟩) 256 256) (List.replicate 256 0) (by rw [aM];decide)
      have hrs:A++(List.range (j+1)).map (fun k=>eC (Rg.enc ws n) (lL r) k (List.replicate 256 0))=(A++(List.range j).map fun k=>eC (Rg.enc ws n) (lL r) k (List.replicate 256 0))++[eC (Rg.enc ws n) (lL r) j (List.replicate 256 0)]:=by rw [bS,bB,bE];rfl
      have hnl:(List.replicate 256 (0:UInt8)).length=256:=aM
      have hnn:List.replicate 256 (Value.int .u8 0)=cbs (List.replicate 256 0):=aDV 256
      generalize eC (Rg.enc ws n) (lL r) j (List.replicate 256 0)=y at *
      refine W.k ?_
      refine W.cw hse ?_
      (refine SW.l [7,8,9] [0,1,2,3,4,5] ?_;refine aX 6 ?_)
      refine W.ma (fun b6=>?_)
      rw [lK,hnn]
      (refine bO [] ?_;refine cB 7 ?_)
      refine dV (hsl7 b6) (by rw [← heE]) ?_ (hpre:=fun w2 hs=>Rd.my (Hc:=Hs6) (T:=5) b6 _ hs hnl)
      rintro v8 _ ⟨H8,Hs8,h8,rfl,hS8⟩
      have h81:=h8.isOne
      obtain⟨a8,l8,c8,rfl,-⟩:=h8.form
      have hb63:bQ (fun i=>some (i*1,1)) (zs [.slice none 0 0] 1) [(0,.slice a8 l8 c8)]=some [.slice a8 l8 c8]:=rfl
      (refine bO [] ?_;refine cB 8 ?_)
      refine jO (fun b9=>?_) (hr:=hb63)
      (refine bO [] ?_;refine cB 9 ?_)
      refine W.ap hS6 (ys:=[.slice a8 l8 c8]) (mm:=1) (fun w2 hs=>(Sl.own 50 1 b9 (xs:=[.slice a8 l8 c8]) rfl).srcAt hs inferInstance) (fun v9 H9 h9=>?_) (hys:=rfl) (hbytes:=by rw [hvl6];simp;omega)
      have h91:=h9.isOne
      (refine SL.l [10,11] ?_)
      refine W.k ?_
      refine aT.mk (j+1,v9,vs6++[.slice a8 l8 c8],H9,H8++Ht6,Hs8) ?_
      refine⟨hjm,h9,?_,hS8⟩
      show RB _ _ (A++(List.range (j+1)).map fun k=>eC (Rg.enc ws n) (lL r) k (List.replicate 256 0))
      rw [hrs]
      exact (hR6.mono fun x hx=>aV _ hx).snoc ((RdH.of h8).mono fun x hx=>bA _ hx)
     ·have:j=Gm.sealed p:=om
      subst this
      refine W.k ?_
      refine W.cw hse ?_
      refine bZ.mk (v6,vs6,H6,Ht6,Hs6) ?_
      exact⟨hS6,hR6,hS7⟩
    rintro⟨v6,vs6,H6,Ht6,Hs6⟩ ⟨hS6,hR6,hS7⟩
    dsimp only at hS6 hR6 hS7 ⊢
    have h61:=hS6.isOne
    generalize (A++(List.range (Gm.sealed p)).map fun k=>eC (Rg.enc ws n) (lL r) k (List.replicate 256 0))=B at *
    clear hAl hR5 h5 h51 hE2
    obtain⟨a6,l6,c6,rfl,hl6⟩:=hS6.form
    rw [Nat.mul_one,hR6.1] at hl6
    subst hl6
    have hll:=Gm.leaves_le h
    have hl1:1≤Gm.leaves p:=by unfold Gm.leaves;omega
    have hwt:∀ x,(dN p t B).t (x,r1)=((dN p t B x).1,(dN p t B x).2,r1):=fun _=>rfl
    refine W.j ?_
    refine cN [1,3,7] Hd1 (fun _:Dv×Hp=>[]) (fun x=>x.2) (fun x=>lU d x.1 x.2∧nR (iN 0 B) σ1=(0,x.1)) ?_ ?_
    ·rcases hS6 with ⟨hz,hz2,-⟩|⟨bb,len,cap,junk,hz,hxl,hj,hlc2,rfl⟩
     ·simp only [Value.slice.injEq] at hz
      obtain⟨-,hz,-⟩:=hz
      omega
     simp only [Value.slice.injEq] at hz
     obtain⟨rfl,rfl,rfl⟩:=hz
     refine W.k ?_
     refine bN [1,3,7,65,66] (fun x:Nat×Dv×Hp=>[(67,.int .i64 (x.1:Int))]) (fun x=>x.2.2) (fun x=>B.length-x.1) (fun x=>x.1≤B.length∧lU d x.2.1 x.2.2∧nR (iN 0 (B.take x.1)) σ1=(0,x.2.1)) (0,σ1,Hd1) ⟨Nat.zero_le _,hD1,by rw [cQ];rfl⟩ ?_
     rintro⟨k,σ2,Hd2⟩ ⟨hk,hD2,hp⟩
     dsimp only at hk hD2 hp ⊢
     by_cases hkB:k<B.length
     ·have hbk:=aA hkB
      obtain⟨u,hu1,hu2⟩:=hR6.2 k _ hbk
      have hv:(vs6++junk)[k]?=some u:=by rw [aN (by rw [hR6.1];exact hkB)];exact hu1
      have huo:=hu2.one
      have hbl2:=hb256 _ (dR hkB)
      have hwl2:σ2.ws.length=σ1.ws.length:=by have:=oL (iN 0 (B.take k)) σ1;rw [hp] at this;exact this
      have hpt:=aEc (tr:=tr) (s:=sp) (p:=p) (t:=t) hD2 (by rw [hwl2,hwl];exact h8) k om u B[k] om
      have htl:(B.take k).length=k:=by rw [aD];omega
      have hs1:nR (iN 0 (B.take (k+1))) σ1=if (gU k B[k] σ2).1=0 then (0,(gU k B[k] σ2).2) else gU k B[k] σ2:=by
       rw [aO,hbk,eQ,tV,pP,htl,fP]
       show DS.and _ ((gU k B[k]).and fun σ=>(0,σ)) σ1=_
       unfold DS.and
       rw [hp]
       simp
      have hs2:(gU k B[k] σ2).1≠0→nR (iN 0 B) σ1=gU k B[k] σ2:=fun hne=>by
       have e:iN 0 B=iN 0 (B.take (k+1))++iN (0+(B.take (k+1)).length) (B.drop (k+1)):=by rw [← aAb,bY]
       rw [e,pP]
       unfold DS.and
       rw [hs1,if_neg hne,if_neg hne]
      generalize B[k]=bk at *
      refine W.k ?_
      refine aL hpt ?_ (hpre:=fun w2 hs=>hu2.rd (Hc:=Hd2) hs)
      rintro _ Hd3 ⟨rfl,hD3⟩
      by_cases hz0:(gU k bk σ2).1=0
      ·rw [if_pos hz0] at hs1
       refine W.k ?_
       refine aT.mk (k+1,(gU k bk σ2).2,Hd3) ?_
       exact⟨hkB,hD3,hs1⟩
      ·have he:=hs2 hz0
       have ewS:dN p t B σ1=gU k bk σ2:=by
        have e1:iK B σ1=gU k bk σ2:=by rw [← he];exact DS.and_ne (by rw [he];exact hz0)
        rw [← e1];exact DS.and_ne (by rw [e1];exact hz0)
       have eF:FF=((gU k bk σ2).1,(gU k bk σ2).2,r1):=by
        rw [hF,TS.and_ne (by rw [hwt,ewS];exact hz0),hwt,ewS]
       rw [eF]
       refine W.k ?_
       refine Fin.to ((tr,cl (rtc d r1) 128)::(Hd3++Hs6)) ?_
       exact F.f1 ⟨rfl,Hd3,Hs6,hD3,hS7.mono om,rfl⟩
     ·have hkn:k=B.length:=om
      rw [hkn,bT] at hp
      subst hkn
      refine W.k ?_
      refine bZ.mk (σ2,Hd2) ?_
      exact⟨hD2,hp⟩
    rintro⟨σ2,Hd2⟩ ⟨hD2,hp⟩
    dsimp only at hD2 hp ⊢
    have hwl2:σ2.ws.length=σ1.ws.length:=by have:=oL (iN 0 B) σ1;rw [hp] at this;exact this
    have e1:iK B σ1=feS σ2:=DS.and_eq hp
    have hfe:=zZ hD2
    have hfwl:σ2.fence.ws.length=σ2.ws.length:=vS σ2
    by_cases hz0:(feS σ2).1=0
    ·have ef0:σ2.actR 0 0=0:=hz0
     have e2:dN p t B σ1=iU (Gm.leaves p) (1+t) σ2.fence:=by
      unfold dN
      rw [DS.and_eq (y:=σ2.fence) (by rw [e1];exact zU hz0)]
     rw [ef0] at hfe
     refine W.k ?_
     refine aL hfe ?_
     rintro _ Hd3 ⟨rfl,hD3⟩
     have hsc:=aCj (tr:=tr) (s:=sp) h hD3 (by rw [hfwl,hwl2,hwl];exact h8) (1+t) om
     rw [show ((1+t:Nat):Int)=1+(t:Int) by omega] at hsc
     generalize hsq:iU (Gm.leaves p) (1+t) σ2.fence=SQ2 at *
     obtain⟨es,σ3⟩:=SQ2
     dsimp only at hsc
     refine W.k ?_
     refine aL hsc ?_
     rintro _ Hd4 ⟨rfl,hD4⟩
     by_cases hz1:es=0
     ·subst hz1
      have eF:FF=aK1 B (σ3,r1):=by rw [hF,TS.and_eq (y:=(σ3,r1)) (by rw [hwt,e2])]
      have hr1:r1.Ok:=⟨by rw [hrr];exact hr.1,by rw [hrc];omega,by rw [hrc];omega⟩
      have hr2:({ c:=r1.c+1,root:=gP B }:Rg).Ok:=⟨Sha.sum_len _,by show 0≤r1.c+1;omega,by show r1.c+1≤_;omega⟩
      have hst:=aJ4 tr d r1 { c:=r1.c+1,root:=gP B } hr1 hr2 hD4
      have hlv:=xE (.slice a6 B.length c6) vs6 B hR6 om hb256
      have hrt:=fun v=>aHj (fL B) (pS _) v (by rw [kM];omega)
      have eb:aK1 B (σ3,r1)=(vJ σ3 r1 { c:=r1.c+1,root:=gP B },vI σ3 r1 { c:=r1.c+1,root:=gP B },rT σ3 r1 { c:=r1.c+1,root:=gP B }):=rfl
      have hrl:(gP B).length=32:=Sha.sum_len _
      have hroot:xT (fL B)=gP B:=rfl
      have hbd:bQ (fun i=>[(0,1),(1,32)][i]?) ([.int .u64 0]++List.replicate 32 (.int .u8 0)) [(0,.int .u64 (((UInt64.ofNat r.c.toNat+2).toNat:Nat):Int)),(1,dgV (gP B))]=some (rgc { c:=r1.c+1,root:=gP B }):=by
       rw [heE,show (((lL r).toNat:Nat):Int)=r1.c+1 by unfold lL;rw [bC,hrc];omega]
       exact aFM _ hrl
      rw [hroot] at hrt
      refine W.k ?_
      (refine SW.l [8] [0,1,2,3,4] ?_;refine aX 5 ?_)
      refine aL hlv ?_ (hpre:=fun w2 hs=>Rd.own (Hc:=Ht6) hS6 hs inferInstance)
      rintro v9 _ ⟨H9,h9,rfl⟩
      have h91:=h9.isOne
      (refine bO [] ?_;refine aX 6 ?_)
      refine W.cq (hrt v9) ?_ (hpre:=fun w2 hs=>Rd.own (Hc:=[]) h9 hs inferInstance)
      (refine SL.l [7] ?_;refine cB 8 ?_)
      refine aL hst ?_
      rintro _ _ ⟨rfl,Hd5,rfl,hD5⟩
      (refine SL.l [9,10] ?_)
      refine W.k ?_
      rw [eF,eb]
      refine Fin.to ((tr,cl (rtc d (rT σ3 r1 { c:=r1.c+1,root:=gP B })) 128)::(Hd5++Hs6)) ?_
      exact F.f1 ⟨rfl,Hd5,Hs6,hD5,hS7.mono om,rfl⟩
     ·have eF:FF=(es,σ3,r1):=by rw [hF,TS.and_ne (by rw [hwt,e2];exact hz1),hwt,e2]
      rw [eF]
      refine W.k ?_
      refine Fin.to ((tr,cl (rtc d r1) 128)::(Hd4++Hs6)) ?_
      exact F.f1 ⟨rfl,Hd4,Hs6,hD4,hS7.mono om,rfl⟩
    ·have e2:dN p t B σ1=feS σ2:=by rw [← e1];exact DS.and_ne (by rw [e1];exact hz0)
     have eF:FF=((feS σ2).1,(feS σ2).2,r1):=by rw [hF,TS.and_ne (by rw [hwt,e2];exact hz0),hwt,e2]
     rw [eF]
     have ef0:¬ σ2.actR 0 0=0:=hz0
     refine W.k ?_
     refine aL hfe ?_
     rintro _ Hd3 ⟨rfl,hD3⟩
     refine W.k ?_
     refine Fin.to ((tr,cl (rtc d r1) 128)::(Hd3++Hs6)) ?_
     exact F.f1 ⟨rfl,Hd3,Hs6,hD3,hS7.mono om,rfl⟩
  ·rw [hbmN he]
   refine W.k ?_
   refine Fin.to ((tr,cl (rtc d r1) 128)::(Hd1++Hs)) ?_
   exact F.f1 ⟨rfl,Hd1,Hs,hD1,hS.mono om,rfl⟩
 ·have ef:oH p t (eC (Rg.enc ws n)) (σ,r)=(21,(σ,r)):=by unfold oH;rw [if_pos (by show _<r.c;omega)]
  rw [ef]
  refine W.k ?_
  refine Fin.to ((tr,cl (rtc d r) 128)::(Hd++Hs)) ?_
  exact F.f1 ⟨rfl,Hd,Hs,hD,hS.mono om,rfl⟩
theorem Tri.to{P:Program}{f:FuncId}{vs:List Value}{Hc:Hp}{Pre:World→Prop}{R R':Value→Hp→Prop}(h:Tri P f vs Hc Pre R)(hr:∀ v H,R v H→∃ H' r,H.Perm (H'++r)∧R' v H'):Tri P f vs Hc Pre R':=fun w ho hp=>
 (h w ho hp).mono fun e w' ⟨v,H,he,hst,hR⟩=>by
  obtain⟨H',r,h1,h2⟩:=hr v H hR
  exact⟨v,H',he,(hst.perm h1).drop,h2⟩
def uD(sp d tr s bk p t:Nat)(x:So)(H:Hp):Prop:=
 ∃ ev tp He Ht,H=(sp,cl [ptv d,ptv tr,ptv s,ptv bk,.int .i64 (p:Int),.int .i64 (t:Int),ev,ptv tp,.bool x.w,.int .i64 x.st] 169)::(He++Ht)∧Sl 28 1 ev (uv x.es) He∧xJ tp bk x.lv Ht
structure So.Ok(p:Nat)(x:So):Prop where
 es:x.es.length=Gm.sealed p
 lv:x.lv.length=Gm.leaves p
 d:D32 x.lv
def aKC(sp d tr s p t:Nat)(x:So)(H:Hp):Prop:=
 ∃ ev lv He Hl,H=(sp,cl [ptv d,ptv tr,ptv s,.int .i64 (p:Int),.int .i64 (t:Int),ev,lv,.bool x.w,.int .i64 x.st] 344)::(He++Hl)∧Sl 28 1 ev (uv x.es) He∧Sl 118 32 lv (cbs x.lv.flatten) Hl
def StO(v:Value)(d tr s bk p t:Nat)(o:Option So)(H:Hp):Prop:=match o with|none=>v=.pointer none∧H=[]|some x=>∃ sp,v=ptv sp∧uD sp d tr s bk p t x H
def aKB(v:Value)(d tr s p t:Nat)(o:Option So)(H:Hp):Prop:=match o with|none=>v=.pointer none∧H=[]|some x=>∃ sp,v=ptv sp∧aKC sp d tr s p t x H
theorem StO.one{v:Value}{d tr s bk p t:Nat}{o:Option So}{H:Hp}(h:StO v d tr s bk p t o H):One v:=by
 cases o with
 | none=>obtain⟨rfl,-⟩:=h;infer_instance
 | some x=>obtain⟨sp,rfl,-⟩:=h;infer_instance
theorem aKB.one{v:Value}{d tr s p t:Nat}{o:Option So}{H:Hp}(h:aKB v d tr s p t o H):One v:=by
 cases o with
 | none=>obtain⟨rfl,-⟩:=h;infer_instance
 | some x=>obtain⟨sp,rfl,-⟩:=h;infer_instance
structure Pid where
 d:Nat
 tr:Nat
 s:Nat
 bk:Nat
 tb:Nat
 c:Nat
 b:Nat
 rd:Nat
 rtr:Nat
 rs:Nat
 rc:Nat
abbrev xR(i:Pid)(p t:Nat)(sv rv:Value):List Value:=[ptv i.d,ptv i.tr,ptv i.s,ptv i.bk,.int .i64 (p:Int),.int .i64 (t:Int),sv,ptv i.rd,ptv i.rtr,ptv i.rs,.int .i64 (p:Int),.int .i64 (t:Int),rv]
def aEn(pp p t n N:Nat)(ws ws':List (List UInt8))(σ:Dv)(r:Rg)(sr:Sr)(β:Bk)(o:Option So)(H:Hp):Prop:=
 ∃ (i:Pid) (sv rv:Value) (Hd Hs Hk HD HR HS HT:Hp),iQ i.d σ Hd∧nU i.s i.c i.b n ws sr Hs∧fR i.bk i.tb β Hk∧lU i.rd σ HD∧rB i.rs i.rc n ws' N HR∧StO sv i.d i.tr i.s i.bk p t o HS∧aKB rv i.rd i.rtr i.rs p t o HT ∧
  H=(pp,cl (xR i p t sv rv) 43)::(i.tr,cl (trc i.d r) 225)::(i.rtr,cl (rtc i.rd r) 128)::(Hd++(Hs++(Hk++(HD++(HR++(HS++HT))))))
theorem aCo(k:List UInt8)(hk:k.length=16):pG 10 (Aes.sched k):=by
 have h4:∀ y∈Aes.keyW k 4,y.length=4:=Aes.keyW_four om
 have hl:(Aes.keyW k 4).length=4:=Aes.keyW_len _ _
 have e:Aes.sched k=Aes.grow 4 (Aes.keyW k 4) 40:=by unfold Aes.sched;rw [hk]
 have hg:(Aes.sched k).length=44:=by rw [e,Aes.grow_len,hl]
 exact⟨by rw [e];exact Aes.grow_four dc h4 om 40,by omega,by decide,by omega⟩
theorem aIG{p t:Nat}(h:Gm.Ok p t)(k:List UInt8)(hk:k.length=16){cnt:Int}(h0:0≤cnt)(h1:cnt≤18446744073709551615):Tri prog 9 [iX p t,.agg (cbs k).toArray,.int .u64 cnt] [] (fun _=>True)
  (fun v H=>∃ pp,v=ptv pp∧aEn pp p t 10 0 (Aes.sched k) (Rg.sched k) (Dv.new (4*Gm.total p t:Nat)) (rg0 cnt) Sr.new Bk.new none H):=by
 refine (aKU h k hk h0 h1).to ?_
 rintro v H ⟨pp,rfl,d,tr,s,m,bk,tb,c,b,rd,rtr,rs,rc,Hd,Hb,Hc,HD,HR,hD,hB,hC,hDR,hR,rfl⟩
 rw [hk] at hC hR
 refine⟨(pp,cl [ptv d,ptv tr,ptv s,ptv bk,.int .i64 (p:Int),.int .i64 (t:Int),.pointer none,ptv rd,ptv rtr,ptv rs,.int .i64 (p:Int),.int .i64 (t:Int),.pointer none] 43)::(tr,cl (trc d (rg0 cnt)) 225)::(rtr,cl (rgc (rg0 cnt)++[ptv rd]) 128) ::
  (Hd++(((s,cl [ptv c,.map (some m),.slice none 0 0] 229)::(m,mo [])::((Hc++[(b,gI)])++([]++[])))++(Hb++(HD++(((rs,cl [ptv rc,.slice none 0 0,.bool false,.int .u64 0,.int .i64 0,.slice none 0 0] 135)::(HR++([]++[])))++([]++[])))))),[],?_,?_⟩
 ·rw [aJ]
  simp only [aJ,List.nil_append]
  exact iB
 ·refine⟨pp,rfl,⟨d,tr,s,bk,tb,c,b,rd,rtr,rs,rc⟩,_,_,Hd,_,Hb,HD,_,[],[],hD,?_,hB,hDR,?_,⟨rfl,rfl⟩,⟨rfl,rfl⟩,rfl⟩
  ·exact⟨m,.slice none 0 0,[],Hc,[],[],rfl,hC,Sl.nil _ _,rfl,by simp⟩
  ·exact⟨.slice none 0 0,false,0,0,.slice none 0 0,[],HR,[],[],rfl,hR,Sl.nil _ _,Nat.le_refl _,⟨rfl⟩,by simp⟩
theorem aHV{pp p t n N:Nat}{ws ws':List (List UInt8)}{σ:Dv}{r:Rg}{sr:Sr}{β:Bk}{o:Option So}{H:Hp}(h:Gm.Ok p t)(hP:aEn pp p t n N ws ws' σ r sr β o H)(hlen:σ.len=256*Gm.total p t)(hr:r.Ok)(hK:pG n ws)(hK':pG n ws')(hN:N≤1000000)(hX:Rg.enc ws' n=Aes.enc ws n) :
  Tri prog 61 [ptv pp] H (fun _=>True) (fun v H'=>v=.bool true ∧
   aEn pp p t n (N+200) ws ws' (oH p t (eC (Aes.enc ws n)) (σ,r)).2.1 (oH p t (eC (Aes.enc ws n)) (σ,r)).2.2 (uY p σ r sr) (aA5 p t n ws σ r β) o H'):=by
 obtain⟨i,sv,rv,Hd,Hs,Hk,HD,HR,HS,HT,hD,hS,hB,hDR,hSR,hO,hOR,rfl⟩:=hP
 refine Tri.mk func61 rfl ntmps61 rfl fun w hw=>?_
 have hF:=aIm (tr:=i.tr) h hD hlen hr hS hK hB
 have hG:=aH1 (tr:=i.rtr) h hDR hlen hr hSR hK' hN
 rw [hX] at hG
 have o1:=hO.one
 have o2:=hOR.one
 generalize oH p t (eC (Aes.enc ws n)) (σ,r)=FF at *
 refine W.k ?_
 (refine SW.l [9] [0,1,2,3,5,6,7,8] ?_;refine aX 4 ?_)
 refine aL hF ?_
 rintro _ _ ⟨rfl,Hd2,Hs2,Hk2,Hx,hD2,hS2,hB2,rfl⟩
 (refine bO [] ?_;refine cB 9 ?_)
 refine aL hG ?_
 rintro _ _ ⟨rfl,HD2,HR2,hDR2,hSR2,rfl⟩
 (refine SL.l [10,11,12] ?_)
 refine W.k ?_
 refine Fin.to ((pp,cl (xR i p t sv rv) 43)::(i.tr,cl (trc i.d FF.2.2) 225)::(i.rtr,cl (rtc i.rd FF.2.2) 128)::(Hd2++(Hs2++(Hk2++(HD2++(HR2++(HS++HT))))))) ?_
 exact F.f1 ⟨rfl,i,sv,rv,Hd2,Hs2,Hk2,HD2,HR2,HS,HT,hD2,hS2,hB2,hDR2,hSR2,hO,hOR,rfl⟩
end
theorem aLa{p t:Nat}(h:Gm.Ok p t){E:List UInt8→List UInt8}(hE:∀ x,(E x).length=16){cnt:Int}(h0:0≤cnt)(h1:cnt≤18446744073709551613)(ht:4*Gm.total p t≤1024) :
  ∃ σ',oH p t (eC E) (Dv.new (4*Gm.total p t:Nat),rg0 cnt)=(0,(σ',{ c:=cnt+2,root:=gP (gA p t (eC E) (UInt64.ofNat (cnt+2).toNat)) })) ∧
   σ'.Sta (8*(4*Gm.total p t)) ((gA p t (eC E) (UInt64.ofNat (cnt+2).toNat)).flatten++List.replicate (256*(1+t)) 0):=
 aLb (aG1 _ ht) (by unfold Gm.total;omega) h1 (oW hE _) (rC _ _ _ _)
theorem aDW:Gm.Ok 3 4:=⟨by decide,by decide,by decide,by decide⟩
theorem aMH(k:List UInt8)(hk:k.length=16):Rg.enc (Rg.sched k) 10=Aes.enc (Aes.sched k) 10:=Ae.encs k hk 10 dc
theorem aIc(k:List UInt8)(hk:k.length=16):pG 10 (Rg.sched k):=by rw [Ae.sched_eq k hk];exact aCo k hk
theorem aFV{e:UInt64}(he:e=2){E:List UInt8→List UInt8}(hE:∀ x,(E x).length=16){σ:Dv}{n:Nat}{R:List UInt8}(h:σ.Sta n ((gA 3 4 (eC E) e).flatten++R))(hn:8*n=256*Gm.total 3 4){j:Nat}(hj:j<5)(wr:Bool) :
  rdS 3 (eC E) (j:Int) σ ⟨mP 3 (gA 3 4 (eC E) e),fL (gA 3 4 (eC E) e),wr,0⟩=(0,List.replicate 256 0,⟨mP 3 (gA 3 4 (eC E) e),fL (gA 3 4 (eC E) e),wr,0⟩):=by
 subst he
 have hB:=oW (p:=3) (t:=4) hE 2
 have hBj:(gA 3 4 (eC E) 2)[Ks 3 j]?=some (eC E 2 j (List.replicate 256 0)):=by
  match j,hj with
  | 0,_=>rfl
  | 1,_=>rfl
  | 2,_=>rfl
  | 3,_=>rfl
  | 4,_=>rfl
 have hes:(mP 3 (gA 3 4 (eC E) 2)).getD j 0=2:=by
  have e0:((gA 3 4 (eC E) 2).drop 1).take (Gm.epochs 3)=[epB 0 (List.replicate 5 2)]:=rfl
  have e1:mP 3 (gA 3 4 (eC E) 2)=(List.range 5).map (tB [epB 0 (List.replicate 5 2)]):=by unfold mP;rw [e0];rfl
  rw [e1]
  have:∀ j<5,((List.range 5).map (tB [epB 0 (List.replicate 5 2)])).getD j 0=2:=by decide +kernel
  exact this j hj
 have h7:1+Gm.epochs 3+j+1≤7:=by show 1+1+j+1≤7;omega
 have h72:7≤Gm.total 3 4:=by decide
 have hbk:σ.blk (Ks 3 j)=eC E 2 j (List.replicate 256 0):=h.blk hB hBj (by rw [hn];show 256*(1+Gm.epochs 3+j+1)≤256*Gm.total 3 4;omega)
 have hlv:tJ (fL (gA 3 4 (eC E) 2)) ((Ks 3 j:Nat):Int)=Sha.sum (kR (Ks 3 j) (eC E 2 j (List.replicate 256 0))):=by
  unfold tJ
  have hl:Ks 3 j<(fL (gA 3 4 (eC E) 2)).length:=by
   rw [kM]
   exact (aG.1 hBj).1
  rw [if_pos ⟨by omega,by exact_mod_cast hl⟩,bK]
  unfold fL
  rw [aF,fM,hBj]
  rfl
 have hin:(0:Int)≤(j:Int)∧(j:Int)<(Gm.sealed 3:Nat):=⟨by omega,by show (j:Int)<((5:Nat):Int);omega⟩
 unfold rdS
 rw [if_neg (fun hh=>hh rfl),if_neg (fun hh=>hh hin),if_neg (by rw [h.l.d];decide),bK,hbk,if_neg (fun hh=>hh hlv.symm)]
 dsimp only
 rw [hes,aFQ hE]
end Go.Proofs.YtnigolgkkjidiaaGreat
