/- A new store is made: the document's. -/
import Derived.Test.YtnigolgkkjidiaaGreatPm28
import Derived.Test.YtnigolgkkjidiaaGreatPm25
set_option linter.unusedVariables false
set_option linter.unusedSimpArgs false
set_option linter.unusedSectionVars false
set_option maxHeartbeats 8000000
namespace Go.Proofs.YtnigolgkkjidiaaGreat
open Go
attribute [local irreducible] SW SL SQ SH SA SS Pu Fin CutF HandF
theorem RSealP.mono{rs rc n:Nat}{ws:List (List UInt8)}{N M:Nat}{H:Hp}(h:RSealP rs rc n ws N H)(hm:N≤M):RSealP rs rc n ws M H:=by
 obtain⟨lv,tw,te,tb,tp,L,Hc,HL,Ht,rfl,hC,hL,hN,htp,hall⟩:=h
 exact⟨lv,tw,te,tb,tp,L,Hc,HL,Ht,rfl,hC,hL,by omega,htp,hall⟩
theorem rqmay_p{d tr s p t:Nat}(h:Gm.Ok p t){σ:Dv}{Hd:Hp}(hD:DevR d σ Hd)(hlen:σ.len=256*Gm.total p t) :
  Tri Tryz.prog 15 [rbaseV d tr s p t] Hd (fun _=>True) (fun v H=>v=.bool true∧H=Hd):=by
 obtain⟨hO,bl,bn,bp,bm,vp,va,Hq,Ha,h1,h2,rfl⟩:=hD
 have hof:One vp:=h1.one
 have hoa:One va:=h2.one
 refine Tri.mk Tryz.func15 rfl Tryz.ntmps15 rfl fun w hw=>?_
 have hm:=rgmay_p h
 have hall:=rgall_p h
 have htl:=Gm.total_le2 h
 have hpl:=pcs_len (Gm.all p t)
 rw [Gm.all_len] at hpl
 rw [hlen]
 generalize Gm.all p t=l at *
 generalize Gm.total p t=m at *
 repeat' (first|(refine W.go ?_;try intro b_)|fail)
 (refine SW.regionS [2] ?_ (by kernel_rfl);refine SS.T 0 rfl ?_;(first|refine SS.lw 1 [2] rfl ?_|refine SS.la 1 [2] rfl ?_|refine SS.aR 1 rfl ?_);refine SS.effB 2 ?_ rfl (by kernel_rfl))
 refine W.call hm ?_
 rintro _ _ ⟨rfl,rfl⟩
 (refine SL.nilB ?_;refine SS.T 3 rfl ?_;(first|refine SS.sk 4 rfl ?_|refine SS.T 4 rfl ?_);(first|refine SS.sk 5 rfl ?_|refine SS.ls 5 [] rfl ?_|refine SS.sR 5 rfl ?_);(first|refine SS.sk 6 rfl ?_|refine SS.T 6 rfl ?_);(first|refine SS.sk 7 rfl ?_|refine SS.T 7 rfl ?_);(first|refine SS.sk 8 rfl ?_|refine SS.ls 8 [] rfl ?_|refine SS.sR 8 rfl ?_);(first|refine SS.sk 9 rfl ?_|refine SS.T 9 rfl ?_);(first|refine SS.sk 10 rfl ?_|refine SS.T 10 rfl ?_);(first|refine SS.sk 11 rfl ?_|refine SS.lw 11 [] rfl ?_|refine SS.la 11 [] rfl ?_|refine SS.aR 11 rfl ?_);(first|refine SS.sk 12 rfl ?_;(first|refine SS.sk 13 rfl ?_|refine SS.T 13 rfl ?_);(first|refine SS.sk 14 rfl ?_|refine SS.T 14 rfl ?_);(first|refine SS.sk 15 rfl ?_|refine SS.T 15 rfl ?_);refine SS.T 16 rfl ?_;refine SS.T 17 rfl ?_;refine SS.done ?_ (by kernel_rfl)|refine SS.effK 12 ?_ rfl (by kernel_rfl)))
 refine W.call hall ?_
 rintro v1 H1 ⟨Hs,hS,rfl⟩
 obtain⟨a,len,cap,rfl,hl1⟩:=hS.form
 have hl2:len=m:=by omega
 subst hl2
 (refine SL.nilB ?_;(first|refine SS.sk 13 rfl ?_|refine SS.T 13 rfl ?_);(first|refine SS.sk 14 rfl ?_|refine SS.T 14 rfl ?_);(first|refine SS.sk 15 rfl ?_|refine SS.T 15 rfl ?_);refine SS.T 16 rfl ?_;refine SS.T 17 rfl ?_;refine SS.done ?_ (by kernel_rfl))
 repeat' (first|(refine W.go ?_;try intro b_)|fail)
 refine Fin.to ((d,cl [.slice (some ⟨bl,0,none⟩) (256*len) (256*len),.slice (some ⟨bn,0,none⟩) (256*len) (256*len),.slice (some ⟨bp,0,none⟩) σ.ws.length σ.ws.length,.slice (some ⟨bm,0,none⟩) σ.ws.length σ.ws.length,.bool σ.down,.int .i64 σ.fuse,vp,va] 54) ::
   (bl,cl (rl σ.ws) 5)::(bn,cl (rn σ.ws) 5)::(bp,cl (rp σ.ws) 4)::(bm,cl (rm σ.ws) 4)::(Hq++Ha)) ?_
 exact F.f1 ⟨rfl,rfl⟩
theorem rtc_f(d:Nat){r:Rg}(h:r.Ok):(rtc d r)[0]?=some (.int .u64 r.c)∧((rtc d r).drop 1).take 32=cbs r.root∧(cbs r.root).length=32:=by
 refine⟨rfl,?_,by rw [cbs_len,h.len]⟩
 have hl:=h.len
 show ((r.root.map bv++[_]).take 32)=_
 rw [List.take_append_of_le_length (by simp [hl]),List.take_of_length_le (by simp [hl])]
 rfl
theorem rbump_p{d tr s p t:Nat}{σ:Dv}{r:Rg}{Hd:Hp}(hD:DevR d σ Hd)(hr:r.Ok)(hlt:r.c<18446744073709551615) :
  Tri Tryz.prog 196 [rbaseV d tr s p t] ((tr,cl (rtc d r) 128)::Hd) (fun _=>True)
  (fun v H=>v=.int .i64 (bumpS (σ,r)).1∧∃ Hd',DevR d (bumpS (σ,r)).2.1 Hd'∧H=(tr,cl (rtc d (bumpS (σ,r)).2.2) 128)::Hd'):=by
 refine Tri.mk Tryz.func196 rfl Tryz.ntmps196 rfl fun w hw=>?_
 have hc0:=hr.c0
 have hr2:({ r with c:=r.c+1 }:Rg).Ok:=⟨hr.len,by show 0≤r.c+1;omega,by show r.c+1≤_;omega⟩
 have hst:=rset_p tr d r { r with c:=r.c+1 } hr hr2 hD
 obtain⟨f1,f2,f3⟩:=rtc_f d hr
 haveI i1:U64 r.c (UInt64.ofNat r.c.toNat):=⟨by rw [UInt64.toNat_ofNat'];omega⟩
 have e1:(((UInt64.ofNat r.c.toNat+1).toNat:Nat):Int)=r.c+1:=by
  rw [UInt64.toNat_add,UInt64.toNat_ofNat',show (1:UInt64).toNat=1 from rfl];omega
 have hbd:bfill (fun i=>[(0,1),(1,32)][i]?) ([.int .u64 0]++List.replicate 32 (.int .u8 0)) [(0,.int .u64 (((UInt64.ofNat r.c.toNat+1).toNat:Nat):Int)),(1,dgV r.root)]=some (rgc { r with c:=r.c+1 }):=by rw [e1];exact bf_reg _ hr.len
 have eb:bumpS (σ,r)=(setE σ r { r with c:=r.c+1 },setD σ r { r with c:=r.c+1 },setR σ r { r with c:=r.c+1 }):=rfl
 rw [eb]
 generalize ({ r with c:=r.c+1 }:Rg)=r2 at *
 repeat' (first|(refine W.go ?_;try intro b_)|fail)
 (refine SW.regionS [16] ?_ (by kernel_rfl);refine SS.T 0 rfl ?_;(first|refine SS.ls 1 [16] rfl ?_|refine SS.sR 1 rfl ?_);refine SS.T 2 rfl ?_;(first|refine SS.ls 3 [4,5,6,7,8,15,16] rfl ?_|refine SS.sR 3 rfl ?_);refine SS.T 4 rfl ?_;refine SS.T 5 rfl ?_;refine SS.T 6 rfl ?_;(first|refine SS.ls 7 [8,15,16] rfl ?_|refine SS.sR 7 rfl ?_);refine SS.T 8 rfl ?_;refine SS.T 9 rfl ?_;(first|refine SS.ls 10 [11,12,13,14,15,16] rfl ?_|refine SS.sR 10 rfl ?_);refine SS.T 11 rfl ?_;refine SS.T 12 rfl ?_;refine SS.T 13 rfl ?_;(first|refine SS.lw 14 [15,16] rfl ?_|refine SS.la 14 [15,16] rfl ?_|refine SS.aR 14 rfl ?_);refine SS.T 15 rfl ?_;refine SS.effB 16 ?_ rfl (by kernel_rfl))
 refine W.call hst ?_
 rintro _ _ ⟨rfl,H2,rfl,hD2⟩
 (refine SL.nilB ?_;refine SS.T 17 rfl ?_;refine SS.done ?_ (by kernel_rfl))
 repeat' (first|(refine W.go ?_;try intro b_)|fail)
 refine Fin.to ((tr,cl (rtc d (setR σ r r2)) 128)::H2) ?_
 exact F.f1 ⟨rfl,H2,hD2,rfl⟩
theorem rleaves_p{Ht:Hp}(v:Value)(vs:List Value)(bss:List (List UInt8))(hR:RB Ht vs bss)(hn:bss.length≤1000)(hb:∀ b∈bss,b.length=256):Tri Tryz.prog 205 [v] Ht (fun w=>Rd (Ht.map Prod.fst) w 1 v vs)
  (fun r H=>∃ Hs,Sl 118 32 r (cbs (sumsB bss).flatten) Hs∧H=Hs++Ht):=by
 refine Tri.mk Tryz.func205 rfl Tryz.ntmps205 rfl fun w hw=>?_
 obtain⟨a,la,ca,rfl,hl1,hc1,hr1⟩:=hw.get
 have hvl:=hR.1
 rw [Nat.mul_one,hvl] at hl1
 subst hl1
 have hY:One (Value.slice a bss.length ca):=⟨rfl⟩
 repeat' (first|(refine W.gb ?_;try intro b_)|fail)
 refine SW.cutH [] [] (fun x:Value×Hp=>[(3,x.1)]) (fun x=>x.2) (fun x=>Sl 118 32 x.1 (cbs (sumsB bss).flatten) x.2) ?_ ?_
 ·repeat' (first|(refine W.go ?_;try intro b_)|fail)
  refine SW.loopF [6,7] (fun x:Nat×Value×Hp=>[(3,x.2.1),(8,.int .i64 (x.1:Int))]) (fun x=>Ht++x.2.2) (fun x=>bss.length-x.1) (fun x=>x.1≤bss.length∧Sl 118 32 x.2.1 (cbs (sumsB (bss.take x.1)).flatten) x.2.2) (0,.slice none 0 0,[]) ⟨Nat.zero_le _,by rw [List.take_zero];exact Sl.nil _ _⟩ ?_
  rintro⟨k,v2,Hl2⟩ ⟨hk,hS2⟩
  dsimp only at hk hS2 ⊢
  have hS21:=hS2.isOne
  by_cases hkn:k<bss.length
  ·obtain⟨bb,o,l,T,fz,rfl,hb1,hkK,hy⟩:=hr1 (by omega)
   obtain⟨u,hu1,hu2⟩:=hR.2 k _ (List.getElem?_eq_getElem hkn)
   have hlu:l[o+k]?=some u:=by
    have h2:((l.drop o).take (bss.length*1))[k]?=vs[k]?:=by rw [hy]
    rw [List.getElem?_take,if_pos (by omega),List.getElem?_drop,hu1] at h2
    exact h2
   have hbl:=hb _ (List.getElem_mem hkn)
   have htl:(bss.take k).length=k:=by rw [List.length_take];omega
   have hts:bss.take (k+1)=bss.take k++[bss[k]]:=by rw [List.take_add_one,List.getElem?_eq_getElem hkn];rfl
   have hss:sumsB (bss.take (k+1))=sumsB (bss.take k)++[Sha.sum (leafT k bss[k])]:=by rw [hts,sumsB_snoc,htl]
   have hfl:=flatN_len (L:=sumsB (bss.take k)) (sumsB_32 _)
   rw [sumsB_len,htl] at hfl
   have huo:=hu2.one
   have hlf:=rleaf_p k u bss[k] (by omega)
   have h32:(Sha.sum (leafT k bss[k])).length=32:=Sha.sum_len _
   generalize Sha.sum (leafT k bss[k])=y at *
   have hb2:=b1d h32
   have hc:=cl32 h32
   repeat' (first|(refine W.go ?_;try intro b_)|fail)
   refine W.call hlf ?_ (hpre:=fun w2 hs=>hu2.rd (Hc:=[]) hs)
   rintro _ _ ⟨rfl,rfl⟩
   repeat' (first|(refine W.go ?_;try intro b_)|fail)
   refine W.ap (ys:=cbs y) (mm:=1) hS2 (fun w2 hs=>(Sl.own 118 32 b_ (xs:=cbs y) hc).srcAt hs inferInstance) (fun v3 H3 h3=>?_) (hys:=hc) (hbytes:=by rw [hc,cbs_len,hfl];omega)
   have h31:=h3.isOne
   rw [show cbs (sumsB (bss.take k)).flatten++cbs y=cbs (sumsB (bss.take k)++[y]).flatten by simp,← hss] at h3
   repeat' (first|(refine W.go ?_;try intro b_)|fail)
   refine HandF.mk (k+1,v3,H3) ?_
   exact⟨hkn,h3⟩
  ·have hk2:k=bss.length:=by omega
   rw [hk2,List.take_length] at hS2
   subst hk2
   repeat' (first|(refine W.go ?_;try intro b_)|fail)
   refine CutF.mk (v2,Hl2) ?_
   exact hS2
 rintro⟨v2,Hl2⟩ hS2
 dsimp only at hS2 ⊢
 have hS21:=hS2.isOne
 repeat' (first|(refine W.go ?_;try intro b_)|fail)
 refine Fin.to (Hl2++Ht) ?_
 exact F.f1 ⟨Hl2,hS2,rfl⟩
theorem rFormat_p{d tr sp p t c n N:Nat}{ws:List (List UInt8)}{σ:Dv}{r:Rg}{Hd Hs:Hp}(h:Gm.Ok p t)(hD:DevR d σ Hd)(hlen:σ.len=256*Gm.total p t)(hr:r.Ok)(hS:RSealP sp c n ws N Hs)(hK:KeyOk n ws)(hN:N≤1000000) :
  Tri Tryz.prog 136 [rbaseV d tr sp p t] ((tr,cl (rtc d r) 128)::(Hd++Hs)) (fun _=>True)
  (fun v H=>v=.int .i64 (fmtS p t (ctrX (Rg.enc ws n)) (σ,r)).1∧∃ Hd' Hs',DevR d (fmtS p t (ctrX (Rg.enc ws n)) (σ,r)).2.1 Hd'∧RSealP sp c n ws (N+200) Hs' ∧
   H=(tr,cl (rtc d (fmtS p t (ctrX (Rg.enc ws n)) (σ,r)).2.2) 128)::(Hd'++Hs')):=by
 refine Tri.mk Tryz.func136 rfl Tryz.ntmps136 rfl fun w hw=>?_
 have hmy:=rqmay_p (tr:=tr) (s:=sp) h hD hlen
 obtain⟨f1,f2,f3⟩:=rtc_f d hr
 have h8:σ.ws.length%8=0:=by unfold Dv.len at hlen;omega
 have h0:=hr.c0
 have h1:=hr.c1
 have hse:=rgsealed_p h
 have hsl:=Gm.sealed_le h
 have ht:=h.2.2.2
 repeat' (first|(refine W.go ?_;try intro b_)|fail)
 refine W.call hmy ?_
 rintro _ Hd ⟨rfl,rfl⟩
 by_cases hc:r.c≤18446744073709551613
 ·have hbp:=rbump_p (tr:=tr) (s:=sp) (p:=p) (t:=t) hD hr (by omega)
  have hbmE:∀ y,bumpS (σ,r)=(0,y)→fmtS p t (ctrX (Rg.enc ws n)) (σ,r)=(((wholeS p t (blanks p t (ctrX (Rg.enc ws n)) (fmtE r))).t.and (cntS (blanks p t (ctrX (Rg.enc ws n)) (fmtE r)))) y):=fun y hy=>by
   unfold fmtS
   rw [if_neg (by show ¬ _<r.c;omega),TS.and_eq hy]
   rfl
  have hbmN:(bumpS (σ,r)).1≠0→fmtS p t (ctrX (Rg.enc ws n)) (σ,r)=bumpS (σ,r):=fun hne=>by
   unfold fmtS
   rw [if_neg (by show ¬ _<r.c;omega),TS.and_ne hne]
  have hwl:=bump_wl (σ,r)
  have hcc:=fun y (hy:bumpS (σ,r)=(0,y))=>bump_c hy
  generalize fmtS p t (ctrX (Rg.enc ws n)) (σ,r)=FF at *
  generalize bumpS (σ,r)=bmp at *
  obtain⟨eb,σ1,r1⟩:=bmp
  dsimp only at hbp hbmN hwl
  repeat' (first|(refine W.go ?_;try intro b_)|fail)
  refine W.call hbp ?_
  rintro _ _ ⟨rfl,Hd1,hD1,rfl⟩
  by_cases he:eb=0
  ·subst he
   have hF:=hbmE _ rfl
   obtain⟨hrc,hrr⟩:=hcc _ rfl
   dsimp only at hrc hrr
   clear hbmE hbmN hcc
   haveI i1:U64 r.c (UInt64.ofNat r.c.toNat):=⟨by rw [UInt64.toNat_ofNat'];omega⟩
   haveI i2:U64 2 2:=⟨rfl⟩
   have heE:=fmtE_eq h0 hc
   rw [show UInt64.ofNat (r.c+2).toNat=fmtE r from rfl] at heE
   repeat' (first|(refine W.gb ?_;try intro b_)|fail)
   generalize b_=b1 at *
   have hbln:blanks p t (ctrX (Rg.enc ws n)) (fmtE r)=(superB p t::(List.range (Gm.epochs p)).map fun k=>epB k (List.replicate (Gm.sealed p) (fmtE r)))++(List.range (Gm.sealed p)).map fun k=>ctrX (Rg.enc ws n) (fmtE r) k (List.replicate 256 0):=rfl
   have hbl:=blanks_len p t (ctrX (Rg.enc ws n)) (fmtE r)
   have hb256:=blanks_256 (p:=p) (t:=t) (E:=Rg.enc ws n) (fun x=>Rg.enc_len ..) (fmtE r)
   refine SW.cutH [1,3] [] (fun x:Value×Hp=>[(5,x.1)]) (fun x=>x.2) (fun x=>Sl 28 1 x.1 (uv (List.replicate (Gm.sealed p) (fmtE r))) x.2) ?_ ?_
   ·repeat' (first|(refine W.go ?_;try intro b_)|fail)
    refine SW.loopF [1,3] (fun x:Nat×Value×Hp=>[(5,x.2.1),(6,.int .i64 (x.1:Int))]) (fun x=>x.2.2) (fun x=>Gm.sealed p-x.1) (fun x=>x.1≤Gm.sealed p∧Sl 28 1 x.2.1 (uv (List.replicate x.1 (fmtE r))) x.2.2) (0,.slice none 0 0,[]) ⟨Nat.zero_le _,Sl.nil _ _⟩ ?_
    rintro⟨j,v2,H2⟩ ⟨hj,h2⟩
    dsimp only at hj h2 ⊢
    have h21:=h2.isOne
    have hb37:bfill (fun i=>some (i*1,1)) (zs [.int .u64 0] 1) [(0,.int .u64 (((UInt64.ofNat r.c.toNat+2).toNat:Nat):Int))]=some (uv [fmtE r]):=by rw [heE];rfl
    by_cases hjm:j<Gm.sealed p
    ·repeat' (first|(refine W.go ?_;try intro b_)|fail)
     refine W.call hse ?_
     rintro _ _ ⟨rfl,rfl⟩
     repeat' (first|(refine W.go ?_;try intro b_)|fail)
     refine W.ap h2 (ys:=uv [fmtE r]) (mm:=1) (fun w2 hs=>(Sl.own 28 1 b_ (xs:=uv [fmtE r]) rfl).srcAt hs inferInstance) (fun v3 H3 h3=>?_) (hys:=rfl) (hbytes:=by rw [uv_len,List.length_replicate];simp;omega)
     have h31:=h3.isOne
     rw [← List.map_append,← List.replicate_succ'] at h3
     repeat' (first|(refine W.go ?_;try intro b_)|fail)
     refine HandF.mk (j+1,v3,H3) ?_
     exact⟨hjm,h3⟩
    ·have:j=Gm.sealed p:=by omega
     subst this
     repeat' (first|(refine W.go ?_;try intro b_)|fail)
     refine W.call hse ?_
     rintro _ _ ⟨rfl,rfl⟩
     repeat' (first|(refine W.go ?_;try intro b_)|fail)
     refine CutF.mk (v2,H2) ?_
     exact h2
   rintro⟨v2,H2⟩ h2
   dsimp only at h2 ⊢
   have h21:=h2.isOne
   repeat' (first|(refine W.gb ?_;try intro b_)|fail)
   (refine SW.regionS [] ?_ (by kernel_rfl);refine SS.T 0 rfl ?_;(first|refine SS.lw 1 [] rfl ?_|refine SS.la 1 [] rfl ?_|refine SS.aR 1 rfl ?_);refine SS.T 4 rfl ?_;(first|refine SS.lw 5 [] rfl ?_|refine SS.la 5 [] rfl ?_|refine SS.aR 5 rfl ?_);refine SS.T 6 rfl ?_;refine SS.effK 2 ?_ rfl (by kernel_rfl))
   refine W.call (rBytes_p h) ?_
   intro v3 H3 h3
   have h31:=h3.isOne
   obtain⟨a3,l3,c3,rfl,-⟩:=h3.form
   have hb42:bfill (fun i=>some (i*1,1)) (zs [.slice none 0 0] 1) [(0,.slice a3 l3 c3)]=some [.slice a3 l3 c3]:=rfl
   have hbks:=rBlocks_p h v2 (List.replicate (Gm.sealed p) (fmtE r))
   refine SL.nilB ?_
   refine SS.twoK 3 7 ?_ ?_ rfl rfl
   case' refine_1=>
    refine W.bsl (fun b2=>?_) (hr:=hb42)
    refine SL.nilB ?_
    refine SS.effK 7 ?_ rfl (by kernel_rfl)
    refine W.call hbks ?_ (hpre:=fun w2 hs=>Rd.own (Hc:=[]) h2 hs inferInstance)
    rintro v4 _ ⟨vs,Hv,Ht,hS4,hR4,rfl⟩
    have h41:=hS4.isOne
    obtain⟨a4,l4,c4,rfl,hl4⟩:=hS4.form
    refine SL.nilB ?_
   case' refine_2=>
    refine W.call hbks ?_ (hpre:=fun w2 hs=>Rd.own (Hc:=[]) h2 hs inferInstance)
    rintro v4 _ ⟨vs,Hv,Ht,hS4,hR4,rfl⟩
    have h41:=hS4.isOne
    obtain⟨a4,l4,c4,rfl,hl4⟩:=hS4.form
    refine SL.nilB ?_
    refine SS.effK 3 ?_ rfl (by kernel_rfl)
    refine W.bsl (fun b2=>?_) (hr:=hb42)
    refine SL.nilB ?_
   all_goals
    have hel:=Gm.epochs_le h
    have hvl:vs.length=Gm.epochs p:=by rw [hR4.1];simp
    have hoc4:=hR4.oc
    have hE2:Sl 50 1 (.slice (some ⟨b2,0,none⟩) 1 1) [.slice a3 l3 c3] [(b2,cl [.slice a3 l3 c3] 50)]:=Sl.own _ 1 b2 (len:=1) rfl
    have hR5:RB (H3++Ht) ([.slice a3 l3 c3]++vs) (superB p t::(List.range (Gm.epochs p)).map fun k=>epB k (List.replicate (Gm.sealed p) (fmtE r))):=⟨by simp [hR4.1],fun i bs hi=>by
     cases i with
     | zero=>
      cases hi
      exact⟨_,rfl,(RdH.of h3).mono fun x hx=>List.mem_append_left _ hx⟩
     | succ i=>
      obtain⟨u,hu1,hu2⟩:=hR4.2 i bs hi
      exact⟨u,hu1,hu2.mono fun x hx=>List.mem_append_right _ hx⟩⟩
    refine SS.effK 8 ?_ rfl (by kernel_rfl)
    refine W.ap hE2 (ys:=vs) (mm:=l4) (fun w2 hs=>hS4.srcAt hs inferInstance) (fun v5 H5 h5=>?_) (hys:=hl4) (hbytes:=by rw [hvl];simp;omega)
    have h51:=h5.isOne
    (refine SL.nilB ?_;refine SS.T 9 rfl ?_;refine SS.done ?_ (by kernel_rfl))
    repeat' (first|(refine W.gb ?_;try intro b_)|fail)
    rw [hbln] at hF hbl hb256
    clear hbln hR4 hS4 hoc4 hb42 hbks hl4
    have hAl:(superB p t::(List.range (Gm.epochs p)).map fun k=>epB k (List.replicate (Gm.sealed p) (fmtE r))).length≤1000:=by simp;omega
    generalize (superB p t::(List.range (Gm.epochs p)).map fun k=>epB k (List.replicate (Gm.sealed p) (fmtE r)))=A at *
    refine SW.cutH [1,3] (H5++((H3++Ht)++Hs)) (fun x:Value×List Value×Hp×Hp×Hp=>[(7,x.1)]) (fun x=>x.2.2.2.2++(x.2.2.1++x.2.2.2.1)) (fun x=>Sl 50 1 x.1 x.2.1 x.2.2.1∧RB x.2.2.2.1 x.2.1 (A++(List.range (Gm.sealed p)).map fun k=>ctrX (Rg.enc ws n) (fmtE r) k (List.replicate 256 0))∧RSealP sp c n ws (N+Gm.sealed p) x.2.2.2.2) ?_ ?_
    ·repeat' (first|(refine W.go ?_;try intro b_)|fail)
     refine SW.loopF [1,3] (fun x:Nat×Value×List Value×Hp×Hp×Hp=>[(7,x.2.1),(8,.int .i64 (x.1:Int))]) (fun x=>x.2.2.2.2.2++(x.2.2.2.1++x.2.2.2.2.1)) (fun x=>Gm.sealed p-x.1) (fun x=>x.1≤Gm.sealed p∧Sl 50 1 x.2.1 x.2.2.1 x.2.2.2.1∧RB x.2.2.2.2.1 x.2.2.1 (A++(List.range x.1).map fun k=>ctrX (Rg.enc ws n) (fmtE r) k (List.replicate 256 0))∧RSealP sp c n ws (N+x.1) x.2.2.2.2.2) (0,v5,[.slice a3 l3 c3]++vs,H5,H3++Ht,Hs) ⟨Nat.zero_le _,h5,by rw [List.range_zero,List.map_nil,List.append_nil];exact hR5,hS⟩ ?_
     rintro⟨j,v6,vs6,H6,Ht6,Hs6⟩ ⟨hj,hS6,hR6,hS7⟩
     dsimp only at hj hS6 hR6 hS7 ⊢
     have h61:=hS6.isOne
     have hvl6:vs6.length=A.length+j:=by rw [hR6.1,List.length_append,List.length_map,List.length_range]
     by_cases hjm:j<Gm.sealed p
     ·have hxl:=ctrX_len (E:=Rg.enc ws n) (fun x=>Rg.enc_len ..) (fmtE r) j (List.replicate 256 0)
      rw [List.length_replicate] at hxl
      have hsl7:=fun b6=>rSeal_p hS7 hK (by omega) (fmtE r) j (by omega) (.slice (some ⟨b6,0,none⟩) 256 256) (List.replicate 256 0) (by rw [List.length_replicate];decide)
      have hrs:A++(List.range (j+1)).map (fun k=>ctrX (Rg.enc ws n) (fmtE r) k (List.replicate 256 0))=(A++(List.range j).map fun k=>ctrX (Rg.enc ws n) (fmtE r) k (List.replicate 256 0))++[ctrX (Rg.enc ws n) (fmtE r) j (List.replicate 256 0)]:=by rw [List.range_succ,List.map_append,List.append_assoc];rfl
      have hnl:(List.replicate 256 (0:UInt8)).length=256:=List.length_replicate
      have hnn:List.replicate 256 (Value.int .u8 0)=cbs (List.replicate 256 0):=noughts 256
      generalize ctrX (Rg.enc ws n) (fmtE r) j (List.replicate 256 0)=y at *
      repeat' (first|(refine W.go ?_;try intro b_)|fail)
      refine W.call hse ?_
      rintro _ _ ⟨rfl,rfl⟩
      repeat' (first|(refine W.go ?_;try intro b_)|fail)
      (refine SW.regionS [7,8,9] ?_ (by kernel_rfl);refine SS.T 0 rfl ?_;refine SS.T 1 rfl ?_;(first|refine SS.ls 2 [7,8,9] rfl ?_|refine SS.sR 2 rfl ?_);refine SS.T 3 rfl ?_;refine SS.T 4 rfl ?_;refine SS.T 5 rfl ?_;refine SS.effK 6 ?_ rfl (by kernel_rfl))
      refine W.ma (fun b6=>?_)
      rw [zs_one,hnn]
      (refine SL.nilB ?_;refine SS.effB 7 ?_ rfl (by kernel_rfl))
      refine W.callE (hsl7 b6) (by rw [← heE]) ?_ (hpre:=fun w2 hs=>Rd.my (Hc:=Hs6) (T:=5) b6 _ hs hnl)
      rintro v8 _ ⟨H8,Hs8,h8,rfl,hS8⟩
      have h81:=h8.isOne
      obtain⟨a8,l8,c8,rfl,-⟩:=h8.form
      have hb63:bfill (fun i=>some (i*1,1)) (zs [.slice none 0 0] 1) [(0,.slice a8 l8 c8)]=some [.slice a8 l8 c8]:=rfl
      (refine SL.nilB ?_;refine SS.effB 8 ?_ rfl (by kernel_rfl))
      refine W.bsl (fun b9=>?_) (hr:=hb63)
      (refine SL.nilB ?_;refine SS.effB 9 ?_ rfl (by kernel_rfl))
      refine W.ap hS6 (ys:=[.slice a8 l8 c8]) (mm:=1) (fun w2 hs=>(Sl.own 50 1 b9 (xs:=[.slice a8 l8 c8]) rfl).srcAt hs inferInstance) (fun v9 H9 h9=>?_) (hys:=rfl) (hbytes:=by rw [hvl6];simp;omega)
      have h91:=h9.isOne
      (refine SL.nilB ?_;refine SS.T 10 rfl ?_;refine SS.done ?_ (by kernel_rfl))
      repeat' (first|(refine W.go ?_;try intro b_)|fail)
      refine HandF.mk (j+1,v9,vs6++[.slice a8 l8 c8],H9,H8++Ht6,Hs8) ?_
      refine⟨hjm,h9,?_,hS8⟩
      show RB _ _ (A++(List.range (j+1)).map fun k=>ctrX (Rg.enc ws n) (fmtE r) k (List.replicate 256 0))
      rw [hrs]
      exact (hR6.mono fun x hx=>List.mem_append_right _ hx).snoc ((RdH.of h8).mono fun x hx=>List.mem_append_left _ hx)
     ·have:j=Gm.sealed p:=by omega
      subst this
      repeat' (first|(refine W.go ?_;try intro b_)|fail)
      refine W.call hse ?_
      rintro _ _ ⟨rfl,rfl⟩
      repeat' (first|(refine W.go ?_;try intro b_)|fail)
      refine CutF.mk (v6,vs6,H6,Ht6,Hs6) ?_
      exact⟨hS6,hR6,hS7⟩
    rintro⟨v6,vs6,H6,Ht6,Hs6⟩ ⟨hS6,hR6,hS7⟩
    dsimp only at hS6 hR6 hS7 ⊢
    have h61:=hS6.isOne
    generalize (A++(List.range (Gm.sealed p)).map fun k=>ctrX (Rg.enc ws n) (fmtE r) k (List.replicate 256 0))=B at *
    clear hAl hR5 h5 h51 hE2
    obtain⟨a6,l6,c6,rfl,hl6⟩:=hS6.form
    rw [Nat.mul_one,hR6.1] at hl6
    subst hl6
    have hll:=Gm.leaves_le h
    have hl1:1≤Gm.leaves p:=by unfold Gm.leaves;omega
    have hwt:∀ x,(wholeS p t B).t (x,r1)=((wholeS p t B x).1,(wholeS p t B x).2,r1):=fun _=>rfl
    repeat' (first|(refine W.gb ?_;try intro b_)|fail)
    refine SW.cutH [1,3,7] Hd1 (fun _:Dv×Hp=>[]) (fun x=>x.2) (fun x=>DevR d x.1 x.2∧putL (rowL 0 B) σ1=(0,x.1)) ?_ ?_
    ·rcases hS6 with ⟨hz,hz2,-⟩|⟨bb,len,cap,junk,hz,hxl,hj,hlc2,rfl⟩
     ·simp only [Value.slice.injEq] at hz
      obtain⟨-,hz,-⟩:=hz
      omega
     simp only [Value.slice.injEq] at hz
     obtain⟨rfl,rfl,rfl⟩:=hz
     repeat' (first|(refine W.go ?_;try intro b_)|fail)
     refine SW.loopF [1,3,7,65,66] (fun x:Nat×Dv×Hp=>[(67,.int .i64 (x.1:Int))]) (fun x=>x.2.2) (fun x=>B.length-x.1) (fun x=>x.1≤B.length∧DevR d x.2.1 x.2.2∧putL (rowL 0 (B.take x.1)) σ1=(0,x.2.1)) (0,σ1,Hd1) ⟨Nat.zero_le _,hD1,by rw [List.take_zero];rfl⟩ ?_
     rintro⟨k,σ2,Hd2⟩ ⟨hk,hD2,hp⟩
     dsimp only at hk hD2 hp ⊢
     by_cases hkB:k<B.length
     ·have hbk:=List.getElem?_eq_getElem hkB
      obtain⟨u,hu1,hu2⟩:=hR6.2 k _ hbk
      have hv:(vs6++junk)[k]?=some u:=by rw [List.getElem?_append_left (by rw [hR6.1];exact hkB)];exact hu1
      have huo:=hu2.one
      have hbl2:=hb256 _ (List.getElem_mem hkB)
      have hwl2:σ2.ws.length=σ1.ws.length:=by have:=putL_wl (rowL 0 (B.take k)) σ1;rw [hp] at this;exact this
      have hpt:=rput_p (tr:=tr) (s:=sp) (p:=p) (t:=t) hD2 (by rw [hwl2,hwl];exact h8) k (by omega) u B[k] (by omega)
      have htl:(B.take k).length=k:=by rw [List.length_take];omega
      have hs1:putL (rowL 0 (B.take (k+1))) σ1=if (putS k B[k] σ2).1=0 then (0,(putS k B[k] σ2).2) else putS k B[k] σ2:=by
       rw [List.take_add_one,hbk,Option.toList_some,rowL_snoc,putL_app,htl,Nat.zero_add]
       show DS.and _ ((putS k B[k]).and fun σ=>(0,σ)) σ1=_
       unfold DS.and
       rw [hp]
       simp
      have hs2:(putS k B[k] σ2).1≠0→putL (rowL 0 B) σ1=putS k B[k] σ2:=fun hne=>by
       have e:rowL 0 B=rowL 0 (B.take (k+1))++rowL (0+(B.take (k+1)).length) (B.drop (k+1)):=by rw [← rowL_app,List.take_append_drop]
       rw [e,putL_app]
       unfold DS.and
       rw [hs1,if_neg hne,if_neg hne]
      generalize B[k]=bk at *
      repeat' (first|(refine W.go ?_;try intro b_)|fail)
      refine W.call hpt ?_ (hpre:=fun w2 hs=>hu2.rd (Hc:=Hd2) hs)
      rintro _ Hd3 ⟨rfl,hD3⟩
      by_cases hz0:(putS k bk σ2).1=0
      ·rw [if_pos hz0] at hs1
       repeat' (first|(refine W.go ?_;try intro b_)|fail)
       refine HandF.mk (k+1,(putS k bk σ2).2,Hd3) ?_
       exact⟨hkB,hD3,hs1⟩
      ·have he:=hs2 hz0
       have ewS:wholeS p t B σ1=putS k bk σ2:=by
        have e1:wholeD B σ1=putS k bk σ2:=by rw [← he];exact DS.and_ne (by rw [he];exact hz0)
        rw [← e1];exact DS.and_ne (by rw [e1];exact hz0)
       have eF:FF=((putS k bk σ2).1,(putS k bk σ2).2,r1):=by
        rw [hF,TS.and_ne (by rw [hwt,ewS];exact hz0),hwt,ewS]
       rw [eF]
       repeat' (first|(refine W.go ?_;try intro b_)|fail)
       refine Fin.to ((tr,cl (rtc d r1) 128)::(Hd3++Hs6)) ?_
       exact F.f1 ⟨rfl,Hd3,Hs6,hD3,hS7.mono (by omega),rfl⟩
     ·have hkn:k=B.length:=by omega
      rw [hkn,List.take_length] at hp
      subst hkn
      repeat' (first|(refine W.go ?_;try intro b_)|fail)
      refine CutF.mk (σ2,Hd2) ?_
      exact⟨hD2,hp⟩
    rintro⟨σ2,Hd2⟩ ⟨hD2,hp⟩
    dsimp only at hD2 hp ⊢
    have hwl2:σ2.ws.length=σ1.ws.length:=by have:=putL_wl (rowL 0 B) σ1;rw [hp] at this;exact this
    have e1:wholeD B σ1=feS σ2:=DS.and_eq hp
    have hfe:=rfence_p hD2
    have hfwl:σ2.fence.ws.length=σ2.ws.length:=fence_wl σ2
    by_cases hz0:(feS σ2).1=0
    ·have ef0:σ2.actR 0 0=0:=hz0
     have e2:wholeS p t B σ1=scrubS (Gm.leaves p) (1+t) σ2.fence:=by
      unfold wholeS
      rw [DS.and_eq (y:=σ2.fence) (by rw [e1];exact pair0 hz0)]
     rw [ef0] at hfe
     repeat' (first|(refine W.go ?_;try intro b_)|fail)
     refine W.call hfe ?_
     rintro _ Hd3 ⟨rfl,hD3⟩
     have hsc:=rscrub_p (tr:=tr) (s:=sp) h hD3 (by rw [hfwl,hwl2,hwl];exact h8) (1+t) (by omega)
     rw [show ((1+t:Nat):Int)=1+(t:Int) by omega] at hsc
     generalize hsq:scrubS (Gm.leaves p) (1+t) σ2.fence=SQ2 at *
     obtain⟨es,σ3⟩:=SQ2
     dsimp only at hsc
     repeat' (first|(refine W.go ?_;try intro b_)|fail)
     refine W.call hsc ?_
     rintro _ Hd4 ⟨rfl,hD4⟩
     by_cases hz1:es=0
     ·subst hz1
      have eF:FF=cntS B (σ3,r1):=by rw [hF,TS.and_eq (y:=(σ3,r1)) (by rw [hwt,e2])]
      have hr1:r1.Ok:=⟨by rw [hrr];exact hr.1,by rw [hrc];omega,by rw [hrc];omega⟩
      have hr2:({ c:=r1.c+1,root:=rootB B }:Rg).Ok:=⟨Sha.sum_len _,by show 0≤r1.c+1;omega,by show r1.c+1≤_;omega⟩
      have hst:=rset_p tr d r1 { c:=r1.c+1,root:=rootB B } hr1 hr2 hD4
      have hlv:=rleaves_p (.slice a6 B.length c6) vs6 B hR6 (by omega) hb256
      have hrt:=fun v=>rroot_p (sumsB B) (sumsB_32 _) v (by rw [sumsB_len];omega)
      have eb:cntS B (σ3,r1)=(setE σ3 r1 { c:=r1.c+1,root:=rootB B },setD σ3 r1 { c:=r1.c+1,root:=rootB B },setR σ3 r1 { c:=r1.c+1,root:=rootB B }):=rfl
      have hrl:(rootB B).length=32:=Sha.sum_len _
      have hroot:rootV (sumsB B)=rootB B:=rfl
      have hbd:bfill (fun i=>[(0,1),(1,32)][i]?) ([.int .u64 0]++List.replicate 32 (.int .u8 0)) [(0,.int .u64 (((UInt64.ofNat r.c.toNat+2).toNat:Nat):Int)),(1,dgV (rootB B))]=some (rgc { c:=r1.c+1,root:=rootB B }):=by
       rw [heE,show (((fmtE r).toNat:Nat):Int)=r1.c+1 by unfold fmtE;rw [UInt64.toNat_ofNat',hrc];omega]
       exact bf_reg _ hrl
      rw [hroot] at hrt
      repeat' (first|(refine W.go ?_;try intro b_)|fail)
      (refine SW.regionS [8] ?_ (by kernel_rfl);refine SS.T 0 rfl ?_;(first|refine SS.ls 1 [8] rfl ?_|refine SS.sR 1 rfl ?_);refine SS.T 2 rfl ?_;refine SS.T 3 rfl ?_;refine SS.T 4 rfl ?_;refine SS.effK 5 ?_ rfl (by kernel_rfl))
      refine W.call hlv ?_ (hpre:=fun w2 hs=>Rd.own (Hc:=Ht6) hS6 hs inferInstance)
      rintro v9 _ ⟨H9,h9,rfl⟩
      have h91:=h9.isOne
      (refine SL.nilB ?_;refine SS.effK 6 ?_ rfl (by kernel_rfl))
      refine W.call (hrt v9) ?_ (hpre:=fun w2 hs=>Rd.own (Hc:=[]) h9 hs inferInstance)
      rintro _ _ ⟨rfl,rfl⟩
      (refine SL.nilB ?_;refine SS.T 7 rfl ?_;refine SS.effB 8 ?_ rfl (by kernel_rfl))
      refine W.call hst ?_
      rintro _ _ ⟨rfl,Hd5,rfl,hD5⟩
      (refine SL.nilB ?_;refine SS.T 9 rfl ?_;refine SS.done ?_ (by kernel_rfl))
      repeat' (first|(refine W.go ?_;try intro b_)|fail)
      rw [eF,eb]
      refine Fin.to ((tr,cl (rtc d (setR σ3 r1 { c:=r1.c+1,root:=rootB B })) 128)::(Hd5++Hs6)) ?_
      exact F.f1 ⟨rfl,Hd5,Hs6,hD5,hS7.mono (by omega),rfl⟩
     ·have eF:FF=(es,σ3,r1):=by rw [hF,TS.and_ne (by rw [hwt,e2];exact hz1),hwt,e2]
      rw [eF]
      repeat' (first|(refine W.go ?_;try intro b_)|fail)
      refine Fin.to ((tr,cl (rtc d r1) 128)::(Hd4++Hs6)) ?_
      exact F.f1 ⟨rfl,Hd4,Hs6,hD4,hS7.mono (by omega),rfl⟩
    ·have e2:wholeS p t B σ1=feS σ2:=by rw [← e1];exact DS.and_ne (by rw [e1];exact hz0)
     have eF:FF=((feS σ2).1,(feS σ2).2,r1):=by rw [hF,TS.and_ne (by rw [hwt,e2];exact hz0),hwt,e2]
     rw [eF]
     have ef0:¬ σ2.actR 0 0=0:=hz0
     repeat' (first|(refine W.go ?_;try intro b_)|fail)
     refine W.call hfe ?_
     rintro _ Hd3 ⟨rfl,hD3⟩
     repeat' (first|(refine W.go ?_;try intro b_)|fail)
     refine Fin.to ((tr,cl (rtc d r1) 128)::(Hd3++Hs6)) ?_
     exact F.f1 ⟨rfl,Hd3,Hs6,hD3,hS7.mono (by omega),rfl⟩
  ·rw [hbmN he]
   repeat' (first|(refine W.go ?_;try intro b_)|fail)
   refine Fin.to ((tr,cl (rtc d r1) 128)::(Hd1++Hs)) ?_
   exact F.f1 ⟨rfl,Hd1,Hs,hD1,hS.mono (by omega),rfl⟩
 ·have ef:fmtS p t (ctrX (Rg.enc ws n)) (σ,r)=(21,(σ,r)):=by unfold fmtS;rw [if_pos (by show _<r.c;omega)]
  rw [ef]
  repeat' (first|(refine W.go ?_;try intro b_)|fail)
  refine Fin.to ((tr,cl (rtc d r) 128)::(Hd++Hs)) ?_
  exact F.f1 ⟨rfl,Hd,Hs,hD,hS.mono (by omega),rfl⟩
end Go.Proofs.YtnigolgkkjidiaaGreat
