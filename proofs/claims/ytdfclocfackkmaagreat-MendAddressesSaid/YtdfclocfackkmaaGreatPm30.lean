/- A new store is made: the document's. -/
import Derived.Test.YtdfclocfackkmaaGreatPm29
set_option linter.unusedVariables false
set_option linter.unusedSimpArgs false
set_option linter.unusedSectionVars false
set_option maxHeartbeats 8000000
namespace Go.Proofs.YtdfclocfackkmaaGreat
open Go Go.Proofs.Tryz
section
attribute [local irreducible] SW SL SQ SH SA SS Pu Fin bS aN
theorem jN.mono{rs rc n:Nat}{ws:LL}{N M:Nat}{H:Hp}(h:jN rs rc n ws N H)(hm:N<=M):jN rs rc n ws M H:=by obtain⟨lv,tw,te,tb,tp,L,Hc,HL,Ht,rfl,hC,hL,hN,htp,hall⟩:=h;exact⟨lv,tw,te,tb,tp,L,Hc,HL,Ht,rfl,hC,hL,oQ,htp,hall⟩
theorem aEX{d tr s p t:Nat}(h:Gm.Ok p t){C:Dv}{Hd:Hp}(hD:gS d C Hd)(hlen:C.len=256*Gm.total p t):Tri prog 59 [qS d tr s p t] Hd NT (fun v H=>v=.bool true/\H=Hd):=by
 obtain⟨hO,bl,bn,bp,bm,vp,va,Hq,Ha,h1,h2,rfl⟩:=hD;have hof:One vp:=h1.one;have hoa:One va:=h2.one;refine Tri.mt func59 ntmps59 fun w hw=>?_;have hm:=aEQ h;have hall:=aAA h;have htl:=Gm.total_le2 h;have hpl:=pR (Gm.all p t);rw [Gm.all_len] at hpl;rw [hlen];generalize Gm.all p t=l at *;generalize Gm.total p t=m at *;refine W.k fun b_=>?_;(refine SW.l [2] [0,1] ?_;refine bL 2 ?_);refine W.cq hm ?_;(refine SL.l [3,4,5,6,7,8,9,10,11] ?_;(first|refine cY 12 rfl ?_;refine SG.l [13,14,15,16,17,18] ?_|refine aX 12 ?_));refine aF hall ?_;rintro v1 H1 ⟨Hs,hS,rfl⟩;obtain⟨a,len,cap,rfl,hl1⟩:=hS.form;have hl2:len=m:=oQ;subst hl2;(refine SL.l [13,14,15,16,17,18] ?_);refine W.k ?_;refine Fin.to ((d,cl [.slice (some ⟨bl,0,none⟩) (256*len) (256*len),.slice (some ⟨bn,0,none⟩) (256*len) (256*len),.slice (some ⟨bp,0,none⟩) C.ws.length C.ws.length,.slice (some ⟨bm,0,none⟩) C.ws.length C.ws.length,.bool C.down,.int .i64 C.fuse,vp,va] 133) ::
   (bl,cl (rl C.ws) 5)::(bn,cl (rn C.ws) 5)::(bp,cl (rp C.ws) 4)::(bm,cl (rm C.ws) 4)::(Hq++Ha)) ?_
 exact F.f1 ⟨rfl,rfl⟩
theorem aDV(d:Nat){r:Rg}(h:r.Ok):(rtc d r)[0]?=some (.int .u64 r.c)/\((rtc d r).drop 1).take 32=cbs r.root/\(cbs r.root).length=32:=by refine⟨rfl,?_,by rw [aI,h.len]⟩;have hl:=h.len;show ((r.root.map bv++[_]).take 32)=_;rw [bU (by simp [hl]),aK (by simp [hl])];rfl
theorem aIg{d tr s p t:Nat}{C:Dv}{r:Rg}{Hd:Hp}(hD:gS d C Hd)(hr:r.Ok)(hlt:r.c<18446744073709551615):Tri prog 118 [qS d tr s p t] ((tr,cl (rtc d r) 100)::Hd) NT (fun v H=>v=.int .i64 (gA (C,r)).1/\∃ Hd',gS d (gA (C,r)).2.1 Hd'/\H=(tr,cl (rtc d (gA (C,r)).2.2) 100)::Hd'):=by
 refine Tri.mt func118 ntmps118 fun w hw=>?_;have hc0:=hr.c0;have hr2:({ r with c:=r.c+1 }:Rg).Ok:=⟨hr.len,by show 0<=r.c+1;omega,by show r.c+1<=_;omega⟩;have hst:=aHk tr d r { r with c:=r.c+1 } hr hr2 hD;obtain⟨f1,f2,f3⟩:=aDV d hr;haveI i1:U64 r.c (UInt64.ofNat r.c.toNat):=⟨by rw [aU];omega⟩;have e1:(((UInt64.ofNat r.c.toNat+1).toNat:Nat):Int)=r.c+1:=by rw [gR,aU,show (1:UInt64).toNat=1 from rfl];omega
 have hbd:bV (fun i=>[(0,1),(1,32)][i]?) ([.int .u64 0]++List.replicate 32 (.int .u8 0)) [(0,.int .u64 (((UInt64.ofNat r.c.toNat+1).toNat:Nat):Int)),(1,dgV r.root)]=some (rgc { r with c:=r.c+1 }):=by rw [e1];exact aCi _ hr.len
 have eb:gA (C,r)=(qL C r { r with c:=r.c+1 },qK C r { r with c:=r.c+1 },oM C r { r with c:=r.c+1 }):=rfl;rw [eb];generalize ({ r with c:=r.c+1 }:Rg)=r2 at *;refine W.k fun b_=>?_;(refine SW.l [16] [0,1,2,3,4,5,6,7,8,9,10,11,12,13,14,15] ?_;refine bL 16 ?_);refine aF hst ?_;rintro _ _ ⟨rfl,H2,rfl,hD2⟩;(refine SL.l [17,18] ?_);refine W.k ?_;refine Fin.to ((tr,cl (rtc d (oM C r r2)) 100)::H2) ?_;exact F.f1 ⟨rfl,H2,hD2,rfl⟩
theorem xP{Ht:Hp}(v:Value)(vs:LV)(bss:LL)(hR:RB Ht vs bss)(hn:bss.length<=1000)(hb:∀ b∈bss,b.length=256):Tri prog 126 [v] Ht (fun w=>Rd (Ht.map Prod.fst) w 1 v vs) (fun r H=>∃ Hs,Sl 90 32 r (cbs (gF bss).flatten) Hs/\H=Hs++Ht):=by
 refine Tri.mt func126 ntmps126 fun w hw=>?_;obtain⟨a,la,ca,rfl,hl1,hc1,hr1⟩:=hw.get;have hvl:=hR.1;rw [Nat.mul_one,hvl] at hl1;subst hl1;have hY:One (Value.slice a bss.length ca):=⟨rfl⟩;refine W.j ?_;refine bP [] [] (fun x:Value×Hp=>[(3,x.1)]) (fun x=>x.2) (fun x=>Sl 90 32 x.1 (cbs (gF bss).flatten) x.2) ?_ ?_
 ·refine W.k ?_;refine bE [6,7] (fun x:Nat×Value×Hp=>[(3,x.2.1),(8,.int .i64 (x.1:Int))]) (fun x=>Ht++x.2.2) (fun x=>bss.length-x.1) (fun x=>x.1<=bss.length/\Sl 90 32 x.2.1 (cbs (gF (bss.take x.1)).flatten) x.2.2) (0,.slice none 0 0,[]) ⟨Nat.zero_le _,by rw [cU];exact Sl.nil _ _⟩ ?_;rintro⟨k,v2,Hl2⟩ ⟨hk,hS2⟩;dsimp only at hk hS2 |-;have hS21:=hS2.isOne;by_cases hkn:k<bss.length
  ·obtain⟨bb,o,l,T,fz,rfl,hb1,hkK,hy⟩:=hr1 oQ;obtain⟨u,hu1,hu2⟩:=hR.2 k _ (aA hkn);have hlu:l[o+k]?=some u:=by
    have h2:((l.drop o).take (bss.length*1))[k]?=vs[k]?:=by rw [hy]
    rw [bD,if_pos oQ,bH,hu1] at h2;exact h2
   have hbl:=hb _ (dG hkn);have htl:(bss.take k).length=k:=by rw [aH];omega
   have hts:bss.take (k+1)=bss.take k++[bss[k]]:=by rw [aY,aA hkn];rfl
   have hss:gF (bss.take (k+1))=gF (bss.take k)++[Sha.sum (fV k bss[k])]:=by rw [hts,aDa,htl]
   have hfl:=dH (L:=gF (bss.take k)) (qN _);rw [lB,htl] at hfl;have huo:=hu2.one;have hlf:=aB2 k u bss[k] oQ;have h32:(Sha.sum (fV k bss[k])).length=32:=Sha.sum_len _;generalize Sha.sum (fV k bss[k])=y at *;have hb2:=b1d h32;have hc:=lN h32;refine W.k ?_;refine W.cw hlf ?_ (hpre:=fun w2 hs=>hu2.rd (Hc:=[]) hs);intro b_;refine W.ap (ys:=cbs y) (mm:=1) hS2 (fun w2 hs=>(Sl.own 90 32 b_ (xs:=cbs y) hc).srcAt hs inferInstance) (fun v3 H3 h3=>?_) (hys:=hc) (hbytes:=by rw [hc,aI,hfl];omega);have h31:=h3.isOne;rw [show cbs (gF (bss.take k)).flatten++cbs y=cbs (gF (bss.take k)++[y]).flatten by simp,<-hss] at h3;refine W.k ?_;refine aN.mk (k+1,v3,H3) ?_;exact⟨hkn,h3⟩
  have hk2:k=bss.length:=oQ;rw [hk2,bO] at hS2;subst hk2;refine W.k ?_;refine bS.mk (v2,Hl2) ?_;exact hS2
 rintro⟨v2,Hl2⟩ hS2;dsimp only at hS2 |-;have hS21:=hS2.isOne;refine W.k ?_;refine Fin.to (Hl2++Ht) ?_;exact F.f1 ⟨Hl2,hS2,rfl⟩
theorem aJf{d tr sp p t c n N:Nat}{ws:LL}{C:Dv}{r:Rg}{Hd Hs:Hp}(h:Gm.Ok p t)(hD:gS d C Hd)(hlen:C.len=256*Gm.total p t)(hr:r.Ok)(hS:jN sp c n ws N Hs)(hK:kA n ws)(hN:N<=1000000):Tri prog 48 [qS d tr sp p t] ((tr,cl (rtc d r) 100)::(Hd++Hs)) NT (fun v H=>v=.int .i64 (kJ p t (dY (Rg.enc ws n)) (C,r)).1/\∃ Hd' Hs',gS d (kJ p t (dY (Rg.enc ws n)) (C,r)).2.1 Hd'/\jN sp c n ws (N+200) Hs' /\ H=(tr,cl (rtc d (kJ p t (dY (Rg.enc ws n)) (C,r)).2.2) 100)::(Hd'++Hs')):=by
 refine Tri.mt func48 ntmps48 fun w hw=>?_;have hmy:=aEX (tr:=tr) (s:=sp) h hD hlen;obtain⟨f1,f2,f3⟩:=aDV d hr;have h8:C.ws.length%8=0:=by unfold Dv.len at hlen;omega
 have h0:=hr.c0;have h1:=hr.c1;have hse:=rS h;have hsl:=Gm.sealed_le h;have ht:=h.2.2.2;refine W.k fun b_=>?_;refine aF hmy ?_;rintro _ Hd ⟨rfl,rfl⟩;by_cases hc:r.c<=18446744073709551613
 ·have hbp:=aIg (tr:=tr) (s:=sp) (p:=p) (t:=t) hD hr oQ;have hbmE:∀ y,gA (C,r)=(0,y)->kJ p t (dY (Rg.enc ws n)) (C,r)=(((bX p t (iI p t (dY (Rg.enc ws n)) (kI r))).t.and (aDg (iI p t (dY (Rg.enc ws n)) (kI r)))) y):=fun y hy=>by unfold kJ;rw [if_neg (by show ¬ _<r.c;omega),TS.and_eq hy];rfl
  have hbmN:(gA (C,r)).1≠0->kJ p t (dY (Rg.enc ws n)) (C,r)=gA (C,r):=fun hne=>by unfold kJ;rw [if_neg (by show ¬ _<r.c;omega),TS.and_ne hne]
  have hwl:=zZ (C,r);have hcc:=fun y (hy:gA (C,r)=(0,y))=>aJZ hy;generalize kJ p t (dY (Rg.enc ws n)) (C,r)=FF at *;generalize gA (C,r)=bmp at *;obtain⟨eb,σ1,r1⟩:=bmp;dsimp only at hbp hbmN hwl;refine W.k ?_;refine aF hbp ?_;rintro _ _ ⟨rfl,Hd1,hD1,rfl⟩;by_cases he:eb=0
  ·subst he;have hF:=hbmE _ rfl;obtain⟨hrc,hrr⟩:=hcc _ rfl;dsimp only at hrc hrr;clear hbmE hbmN hcc;haveI i1:U64 r.c (UInt64.ofNat r.c.toNat):=⟨by rw [aU];omega⟩;haveI i2:U64 2 2:=⟨rfl⟩;have heE:=aHN h0 hc;rw [show UInt64.ofNat (r.c+2).toNat=kI r from rfl] at heE;refine W.j ?_;generalize b_=b1 at *;have hbln:iI p t (dY (Rg.enc ws n)) (kI r)=(iC p t::(List.range (Gm.epochs p)).map fun k=>epB k (List.replicate (Gm.sealed p) (kI r)))++(List.range (Gm.sealed p)).map fun k=>dY (Rg.enc ws n) (kI r) k (List.replicate 256 0):=rfl;have hbl:=pE p t (dY (Rg.enc ws n)) (kI r);have hb256:=rL (p:=p) (t:=t) (E:=Rg.enc ws n) (fun x=>Rg.enc_len ..) (kI r);refine bP [1,3] [] (fun x:Value×Hp=>[(5,x.1)]) (fun x=>x.2) (fun x=>Sl 23 1 x.1 (uv (List.replicate (Gm.sealed p) (kI r))) x.2) ?_ ?_
   ·refine W.k ?_;refine bE [1,3] (fun x:Nat×Value×Hp=>[(5,x.2.1),(6,.int .i64 (x.1:Int))]) (fun x=>x.2.2) (fun x=>Gm.sealed p-x.1) (fun x=>x.1<=Gm.sealed p/\Sl 23 1 x.2.1 (uv (List.replicate x.1 (kI r))) x.2.2) (0,.slice none 0 0,[]) ⟨Nat.zero_le _,Sl.nil _ _⟩ ?_;rintro⟨j,v2,H2⟩ ⟨hj,h2⟩;dsimp only at hj h2 |-;have h21:=h2.isOne;have hb37:bV (fun i=>some (i*1,1)) (zs [.int .u64 0] 1) [(0,.int .u64 (((UInt64.ofNat r.c.toNat+2).toNat:Nat):Int))]=some (uv [kI r]):=by rw [heE];rfl
    by_cases hjm:j<Gm.sealed p
    ·refine W.k ?_;refine W.cw hse ?_;intro b_;refine W.ap h2 (ys:=uv [kI r]) (mm:=1) (fun w2 hs=>(Sl.own 23 1 b_ (xs:=uv [kI r]) rfl).srcAt hs inferInstance) (fun v3 H3 h3=>?_) (hys:=rfl) (hbytes:=by rw [eN,bA];simp;omega);have h31:=h3.isOne;rw [<-aZ,<-pV] at h3;refine W.k ?_;refine aN.mk (j+1,v3,H3) ?_;exact⟨hjm,h3⟩
    have:j=Gm.sealed p:=oQ;subst this;refine W.k ?_;refine W.cw hse ?_;refine bS.mk (v2,H2) ?_;exact h2
   rintro⟨v2,H2⟩ h2;dsimp only at h2 |-;have h21:=h2.isOne;refine W.j ?_;(refine SW.l [] [0,1,4,5,6] ?_;refine aX 2 ?_);refine aF (aGk h) ?_;intro v3 H3 h3;have h31:=h3.isOne;obtain⟨a3,l3,c3,rfl,-⟩:=h3.form;have hb42:bV (fun i=>some (i*1,1)) (zs [.slice none 0 0] 1) [(0,.slice a3 l3 c3)]=some [.slice a3 l3 c3]:=rfl;have hbks:=aJd h v2 (List.replicate (Gm.sealed p) (kI r));refine dU ?_;refine iV 3 7 ?_ ?_ rfl rfl;case' refine_1=>
    refine iQ (fun b2=>?_) (hr:=hb42);refine dU ?_;refine aX 7 ?_;refine aF hbks ?_ (hpre:=fun w2 hs=>Rd.own (Hc:=[]) h2 hs inferInstance);rintro v4 _ ⟨vs,Hv,Ht,hS4,hR4,rfl⟩;have h41:=hS4.isOne;obtain⟨a4,l4,c4,rfl,hl4⟩:=hS4.form;refine dU ?_
   case' refine_2=>
    refine aF hbks ?_ (hpre:=fun w2 hs=>Rd.own (Hc:=[]) h2 hs inferInstance);rintro v4 _ ⟨vs,Hv,Ht,hS4,hR4,rfl⟩;have h41:=hS4.isOne;obtain⟨a4,l4,c4,rfl,hl4⟩:=hS4.form;refine dU ?_;refine aX 3 ?_;refine iQ (fun b2=>?_) (hr:=hb42);refine dU ?_
   all_goals
    have hel:=Gm.epochs_le h;have hvl:vs.length=Gm.epochs p:=by rw [hR4.1];simp
    have hoc4:=hR4.oc;have hE2:Sl 31 1 (.slice (some ⟨b2,0,none⟩) 1 1) [.slice a3 l3 c3] [(b2,cl [.slice a3 l3 c3] 31)]:=Sl.own _ 1 b2 (len:=1) rfl;have hR5:RB (H3++Ht) ([.slice a3 l3 c3]++vs) (iC p t::(List.range (Gm.epochs p)).map fun k=>epB k (List.replicate (Gm.sealed p) (kI r))):=⟨by simp [hR4.1],fun i bs hi=>by
     cases i with
     | zero=>
      cases hi
      exact⟨_,rfl,(RdH.of h3).mono fun x hx=>aO _ hx⟩
     | succ i=>
      obtain⟨u,hu1,hu2⟩:=hR4.2 i bs hi
      exact⟨u,hu1,hu2.mono fun x hx=>aM _ hx⟩⟩
    refine aX 8 ?_;refine W.ap hE2 (ys:=vs) (mm:=l4) (fun w2 hs=>hS4.srcAt hs inferInstance) (fun v5 H5 h5=>?_) (hys:=hl4) (hbytes:=by rw [hvl];simp;omega);have h51:=h5.isOne;(refine SL.l [9,10] ?_);refine W.j ?_;rw [hbln] at hF hbl hb256;clear hbln hR4 hS4 hoc4 hb42 hbks hl4;have hAl:(iC p t::(List.range (Gm.epochs p)).map fun k=>epB k (List.replicate (Gm.sealed p) (kI r))).length<=1000:=by simp;omega
    generalize (iC p t::(List.range (Gm.epochs p)).map fun k=>epB k (List.replicate (Gm.sealed p) (kI r)))=A at *;refine bP [1,3] (H5++((H3++Ht)++Hs)) (fun x:Value×LV×Hp×Hp×Hp=>[(7,x.1)]) (fun x=>x.2.2.2.2++(x.2.2.1++x.2.2.2.1)) (fun x=>Sl 31 1 x.1 x.2.1 x.2.2.1/\RB x.2.2.2.1 x.2.1 (A++(List.range (Gm.sealed p)).map fun k=>dY (Rg.enc ws n) (kI r) k (List.replicate 256 0))/\jN sp c n ws (N+Gm.sealed p) x.2.2.2.2) ?_ ?_
    ·refine W.k ?_;refine bE [1,3] (fun x:Nat×Value×LV×Hp×Hp×Hp=>[(7,x.2.1),(8,.int .i64 (x.1:Int))]) (fun x=>x.2.2.2.2.2++(x.2.2.2.1++x.2.2.2.2.1)) (fun x=>Gm.sealed p-x.1) (fun x=>x.1<=Gm.sealed p/\Sl 31 1 x.2.1 x.2.2.1 x.2.2.2.1/\RB x.2.2.2.2.1 x.2.2.1 (A++(List.range x.1).map fun k=>dY (Rg.enc ws n) (kI r) k (List.replicate 256 0))/\jN sp c n ws (N+x.1) x.2.2.2.2.2) (0,v5,[.slice a3 l3 c3]++vs,H5,H3++Ht,Hs) ⟨Nat.zero_le _,h5,by rw [List.range_zero,mO,aG];exact hR5,hS⟩ ?_;rintro⟨j,v6,vs6,H6,Ht6,Hs6⟩ ⟨hj,hS6,hR6,hS7⟩;dsimp only at hj hS6 hR6 hS7 |-;have h61:=hS6.isOne;have hvl6:vs6.length=A.length+j:=by rw [hR6.1,aB,aC,dR]
     by_cases hjm:j<Gm.sealed p
     ·have hxl:=mJ (E:=Rg.enc ws n) (fun x=>Rg.enc_len ..) (kI r) j (List.replicate 256 0);rw [bA] at hxl;have hsl7:=fun b6=>aIe hS7 hK oQ (kI r) j oQ (.slice (some ⟨b6,0,none⟩) 256 256) (List.replicate 256 0) (by rw [bA];decide);have hrs:A++(List.range (j+1)).map (fun k=>dY (Rg.enc ws n) (kI r) k (List.replicate 256 0))=(A++(List.range j).map fun k=>dY (Rg.enc ws n) (kI r) k (List.replicate 256 0))++[dY (Rg.enc ws n) (kI r) j (List.replicate 256 0)]:=by rw [bT,aZ,aT];rfl
      have hnl:(List.replicate 256 (0:UInt8)).length=256:=bA;have hnn:List.replicate 256 (Value.int .u8 0)=cbs (List.replicate 256 0):=aED 256;generalize dY (Rg.enc ws n) (kI r) j (List.replicate 256 0)=y at *;refine W.k ?_;refine W.cw hse ?_;(refine SW.l [7,8,9] [0,1,2,3,4,5] ?_;refine aX 6 ?_);refine W.ma (fun b6=>?_);rw [lJ,hnn];(refine bB [] ?_;refine bL 7 ?_);refine eC (hsl7 b6) (by rw [<-heE]) ?_ (hpre:=fun w2 hs=>Rd.my (Hc:=Hs6) (T:=5) b6 _ hs hnl);rintro v8 _ ⟨H8,Hs8,h8,rfl,hS8⟩;have h81:=h8.isOne;obtain⟨a8,l8,c8,rfl,-⟩:=h8.form;have hb63:bV (fun i=>some (i*1,1)) (zs [.slice none 0 0] 1) [(0,.slice a8 l8 c8)]=some [.slice a8 l8 c8]:=rfl;(refine bB [] ?_;refine bL 8 ?_);refine iQ (fun b9=>?_) (hr:=hb63);(refine bB [] ?_;refine bL 9 ?_);refine W.ap hS6 (ys:=[.slice a8 l8 c8]) (mm:=1) (fun w2 hs=>(Sl.own 31 1 b9 (xs:=[.slice a8 l8 c8]) rfl).srcAt hs inferInstance) (fun v9 H9 h9=>?_) (hys:=rfl) (hbytes:=by rw [hvl6];simp;omega);have h91:=h9.isOne;(refine SL.l [10,11] ?_);refine W.k ?_;refine aN.mk (j+1,v9,vs6++[.slice a8 l8 c8],H9,H8++Ht6,Hs8) ?_;refine⟨hjm,h9,?_,hS8⟩;show RB _ _ (A++(List.range (j+1)).map fun k=>dY (Rg.enc ws n) (kI r) k (List.replicate 256 0));rw [hrs];exact (hR6.mono fun x hx=>aM _ hx).snoc ((RdH.of h8).mono fun x hx=>aO _ hx)
     have:j=Gm.sealed p:=oQ;subst this;refine W.k ?_;refine W.cw hse ?_;refine bS.mk (v6,vs6,H6,Ht6,Hs6) ?_;exact⟨hS6,hR6,hS7⟩
    rintro⟨v6,vs6,H6,Ht6,Hs6⟩ ⟨hS6,hR6,hS7⟩;dsimp only at hS6 hR6 hS7 |-;have h61:=hS6.isOne;generalize (A++(List.range (Gm.sealed p)).map fun k=>dY (Rg.enc ws n) (kI r) k (List.replicate 256 0))=B at *;clear hAl hR5 h5 h51 hE2;obtain⟨a6,l6,c6,rfl,hl6⟩:=hS6.form;rw [Nat.mul_one,hR6.1] at hl6;subst hl6;have hll:=Gm.leaves_le h;have hl1:1<=Gm.leaves p:=by unfold Gm.leaves;omega
    have hwt:∀ x,(bX p t B).t (x,r1)=((bX p t B x).1,(bX p t B x).2,r1):=fun _=>rfl;refine W.j ?_;refine bP [1,3,7] Hd1 (fun _:Dv×Hp=>[]) (fun x=>x.2) (fun x=>gS d x.1 x.2/\putL (gB 0 B) σ1=(0,x.1)) ?_ ?_
    ·rcases hS6 with ⟨hz,hz2,-⟩|⟨bb,len,cap,junk,hz,hxl,hj,hlc2,rfl⟩
     ·simp only [Value.slice.injEq] at hz;obtain⟨-,hz,-⟩:=hz;omega
     simp only [Value.slice.injEq] at hz;obtain⟨rfl,rfl,rfl⟩:=hz;refine W.k ?_;refine bE [1,3,7,65,66] (fun x:Nat×Dv×Hp=>[(67,.int .i64 (x.1:Int))]) (fun x=>x.2.2) (fun x=>B.length-x.1) (fun x=>x.1<=B.length/\gS d x.2.1 x.2.2/\putL (gB 0 (B.take x.1)) σ1=(0,x.2.1)) (0,σ1,Hd1) ⟨Nat.zero_le _,hD1,by rw [cU];rfl⟩ ?_;rintro⟨k,σ2,Hd2⟩ ⟨hk,hD2,hp⟩;dsimp only at hk hD2 hp |-;by_cases hkB:k<B.length
     ·have hbk:=aA hkB;obtain⟨u,hu1,hu2⟩:=hR6.2 k _ hbk;have hv:(vs6++junk)[k]?=some u:=by rw [aJ (by rw [hR6.1];exact hkB)];exact hu1
      have huo:=hu2.one;have hbl2:=hb256 _ (dG hkB);have hwl2:σ2.ws.length=σ1.ws.length:=by have:=iZ (gB 0 (B.take k)) σ1;rw [hp] at this;exact this
      have hpt:=aBq (tr:=tr) (s:=sp) (p:=p) (t:=t) hD2 (by rw [hwl2,hwl];exact h8) k oQ u B[k] oQ;have htl:(B.take k).length=k:=by rw [aH];omega
      have hs1:putL (gB 0 (B.take (k+1))) σ1=if (fM k B[k] σ2).1=0 then (0,(fM k B[k] σ2).2) else fM k B[k] σ2:=by rw [aY,hbk,dI,xQ,qG,htl,fT];show DS.and _ ((fM k B[k]).and fun C=>(0,C)) σ1=_;unfold DS.and;rw [hp];simp
      have hs2:(fM k B[k] σ2).1≠0->putL (gB 0 B) σ1=fM k B[k] σ2:=fun hne=>by
       have e:gB 0 B=gB 0 (B.take (k+1))++gB (0+(B.take (k+1)).length) (B.drop (k+1)):=by rw [<-aCY,dF]
       rw [e,qG];unfold DS.and;rw [hs1,if_neg hne,if_neg hne]
      generalize B[k]=bk at *;refine W.k ?_;refine aF hpt ?_ (hpre:=fun w2 hs=>hu2.rd (Hc:=Hd2) hs);rintro _ Hd3 ⟨rfl,hD3⟩;by_cases hz0:(fM k bk σ2).1=0
      ·rw [if_pos hz0] at hs1;refine W.k ?_;refine aN.mk (k+1,(fM k bk σ2).2,Hd3) ?_;exact⟨hkB,hD3,hs1⟩
      have he:=hs2 hz0;have ewS:bX p t B σ1=fM k bk σ2:=by
       have e1:iP B σ1=fM k bk σ2:=by rw [<-he];exact DS.and_ne (by rw [he];exact hz0)
       rw [<-e1];exact DS.and_ne (by rw [e1];exact hz0)
      have eF:FF=((fM k bk σ2).1,(fM k bk σ2).2,r1):=by rw [hF,TS.and_ne (by rw [hwt,ewS];exact hz0),hwt,ewS]
      rw [eF];refine W.k ?_;refine Fin.to ((tr,cl (rtc d r1) 100)::(Hd3++Hs6)) ?_;exact F.f1 ⟨rfl,Hd3,Hs6,hD3,hS7.mono oQ,rfl⟩
     have hkn:k=B.length:=oQ;rw [hkn,bO] at hp;subst hkn;refine W.k ?_;refine bS.mk (σ2,Hd2) ?_;exact⟨hD2,hp⟩
    rintro⟨σ2,Hd2⟩ ⟨hD2,hp⟩;dsimp only at hD2 hp |-;have hwl2:σ2.ws.length=σ1.ws.length:=by have:=iZ (gB 0 B) σ1;rw [hp] at this;exact this
    have e1:iP B σ1=feS σ2:=DS.and_eq hp;have hfe:=wO hD2;have hfwl:σ2.fence.ws.length=σ2.ws.length:=wB σ2;by_cases hz0:(feS σ2).1=0
    ·have ef0:σ2.actR 0 0=0:=hz0;have e2:bX p t B σ1=fU (Gm.leaves p) (1+t) σ2.fence:=by unfold bX;rw [DS.and_eq (y:=σ2.fence) (by rw [e1];exact yJ hz0)]
     rw [ef0] at hfe;refine W.k ?_;refine aF hfe ?_;rintro _ Hd3 ⟨rfl,hD3⟩;have hsc:=aC1 (tr:=tr) (s:=sp) h hD3 (by rw [hfwl,hwl2,hwl];exact h8) (1+t) oQ;rw [show ((1+t:Nat):Int)=1+(t:Int) by omega] at hsc;generalize hsq:fU (Gm.leaves p) (1+t) σ2.fence=SQ2 at *;obtain⟨es,σ3⟩:=SQ2;dsimp only at hsc;refine W.k ?_;refine aF hsc ?_;rintro _ Hd4 ⟨rfl,hD4⟩;by_cases hz1:es=0
     ·subst hz1;have eF:FF=aDg B (σ3,r1):=by rw [hF,TS.and_eq (y:=(σ3,r1)) (by rw [hwt,e2])]
      have hr1:r1.Ok:=⟨by rw [hrr];exact hr.1,by rw [hrc];omega,by rw [hrc];omega⟩;have hr2:({ c:=r1.c+1,root:=gE B }:Rg).Ok:=⟨Sha.sum_len _,by show 0<=r1.c+1;omega,by show r1.c+1<=_;omega⟩;have hst:=aHk tr d r1 { c:=r1.c+1,root:=gE B } hr1 hr2 hD4;have hlv:=xP (.slice a6 B.length c6) vs6 B hR6 oQ hb256;have hrt:=fun v=>aB3 (gF B) (qN _) v (by rw [lB];omega);have eb:aDg B (σ3,r1)=(qL σ3 r1 { c:=r1.c+1,root:=gE B },qK σ3 r1 { c:=r1.c+1,root:=gE B },oM σ3 r1 { c:=r1.c+1,root:=gE B }):=rfl;have hrl:(gE B).length=32:=Sha.sum_len _;have hroot:fN (gF B)=gE B:=rfl;have hbd:bV (fun i=>[(0,1),(1,32)][i]?) ([.int .u64 0]++List.replicate 32 (.int .u8 0)) [(0,.int .u64 (((UInt64.ofNat r.c.toNat+2).toNat:Nat):Int)),(1,dgV (gE B))]=some (rgc { c:=r1.c+1,root:=gE B }):=by rw [heE,show (((kI r).toNat:Nat):Int)=r1.c+1 by unfold kI;rw [aU,hrc];omega];exact aCi _ hrl
      rw [hroot] at hrt;refine W.k ?_;(refine SW.l [8] [0,1,2,3,4] ?_;refine aX 5 ?_);refine aF hlv ?_ (hpre:=fun w2 hs=>Rd.own (Hc:=Ht6) hS6 hs inferInstance);rintro v9 _ ⟨H9,h9,rfl⟩;have h91:=h9.isOne;(refine bB [] ?_;refine aX 6 ?_);refine W.cq (hrt v9) ?_ (hpre:=fun w2 hs=>Rd.own (Hc:=[]) h9 hs inferInstance);(refine SL.l [7] ?_;refine bL 8 ?_);refine aF hst ?_;rintro _ _ ⟨rfl,Hd5,rfl,hD5⟩;(refine SL.l [9,10] ?_);refine W.k ?_;rw [eF,eb];refine Fin.to ((tr,cl (rtc d (oM σ3 r1 { c:=r1.c+1,root:=gE B })) 100)::(Hd5++Hs6)) ?_;exact F.f1 ⟨rfl,Hd5,Hs6,hD5,hS7.mono oQ,rfl⟩
     have eF:FF=(es,σ3,r1):=by rw [hF,TS.and_ne (by rw [hwt,e2];exact hz1),hwt,e2]
     rw [eF];refine W.k ?_;refine Fin.to ((tr,cl (rtc d r1) 100)::(Hd4++Hs6)) ?_;exact F.f1 ⟨rfl,Hd4,Hs6,hD4,hS7.mono oQ,rfl⟩
    have e2:bX p t B σ1=feS σ2:=by rw [<-e1];exact DS.and_ne (by rw [e1];exact hz0)
    have eF:FF=((feS σ2).1,(feS σ2).2,r1):=by rw [hF,TS.and_ne (by rw [hwt,e2];exact hz0),hwt,e2]
    rw [eF];have ef0:¬ σ2.actR 0 0=0:=hz0;refine W.k ?_;refine aF hfe ?_;rintro _ Hd3 ⟨rfl,hD3⟩;refine W.k ?_;refine Fin.to ((tr,cl (rtc d r1) 100)::(Hd3++Hs6)) ?_;exact F.f1 ⟨rfl,Hd3,Hs6,hD3,hS7.mono oQ,rfl⟩
  rw [hbmN he];refine W.k ?_;refine Fin.to ((tr,cl (rtc d r1) 100)::(Hd1++Hs)) ?_;exact F.f1 ⟨rfl,Hd1,Hs,hD1,hS.mono oQ,rfl⟩
 have ef:kJ p t (dY (Rg.enc ws n)) (C,r)=(21,(C,r)):=by unfold kJ;rw [if_pos (by show _<r.c;omega)]
 rw [ef];refine W.k ?_;refine Fin.to ((tr,cl (rtc d r) 100)::(Hd++Hs)) ?_;exact F.f1 ⟨rfl,Hd,Hs,hD,hS.mono oQ,rfl⟩
theorem Tri.to{P:Program}{f:FuncId}{vs:LV}{Hc:Hp}{Pre:World->Prop}{R R':Value->Hp->Prop}(h:Tri P f vs Hc Pre R)(hr:∀ v H,R v H->∃ H' r,H.Perm (H'++r)/\R' v H'):Tri P f vs Hc Pre R':=fun w ho hp=>
 (h w ho hp).mono fun e w' ⟨v,H,he,hst,hR⟩=>by
  obtain⟨H',r,h1,h2⟩:=hr v H hR
  exact⟨v,H',he,(hst.perm h1).drop,h2⟩
def rI(sp d tr s bk p t:Nat)(x:So)(H:Hp):Prop:=
 ∃ ev tp He Ht,H=(sp,cl [ptv d,ptv tr,ptv s,ptv bk,.int .i64 (p:Int),.int .i64 (t:Int),ev,ptv tp,.bool x.w,.int .i64 x.st] 231)::(He++Ht)/\Sl 23 1 ev (uv x.es) He/\rJ tp bk x.lv Ht
structure So.Ok(p:Nat)(x:So):Prop where
 es:x.es.length=Gm.sealed p
 lv:x.lv.length=Gm.leaves p
 d:D32 x.lv
def sA(sp d tr s p t:Nat)(x:So)(H:Hp):Prop:=
 ∃ ev lv He Hl,H=(sp,cl [ptv d,ptv tr,ptv s,.int .i64 (p:Int),.int .i64 (t:Int),ev,lv,.bool x.w,.int .i64 x.st] 144)::(He++Hl)/\Sl 23 1 ev (uv x.es) He/\Sl 90 32 lv (cbs x.lv.flatten) Hl
def StO(v:Value)(d tr s bk p t:Nat)(o:Option So)(H:Hp):Prop:=match o with|none=>v=.pointer none/\H=[]|some x=>∃ sp,v=ptv sp/\rI sp d tr s bk p t x H
def aJM(v:Value)(d tr s p t:Nat)(o:Option So)(H:Hp):Prop:=match o with|none=>v=.pointer none/\H=[]|some x=>∃ sp,v=ptv sp/\sA sp d tr s p t x H
theorem StO.one{v:Value}{d tr s bk p t:Nat}{o:Option So}{H:Hp}(h:StO v d tr s bk p t o H):One v:=by
 cases o with
 | none=>obtain⟨rfl,-⟩:=h;infer_instance
 | some x=>obtain⟨sp,rfl,-⟩:=h;infer_instance
theorem aJM.one{v:Value}{d tr s p t:Nat}{o:Option So}{H:Hp}(h:aJM v d tr s p t o H):One v:=by
 cases o with
 | none=>obtain⟨rfl,-⟩:=h;infer_instance
 | some x=>obtain⟨sp,rfl,-⟩:=h;infer_instance
structure Pid where
 d:Nat
 tr:Nat
 s:Nat
 bk:Nat
 tb:Nat
 c:Nat
 b:Nat
 rd:Nat
 rtr:Nat
 rs:Nat
 rc:Nat
abbrev vH(i:Pid)(p t:Nat)(sv rv:Value):LV:=[ptv i.d,ptv i.tr,ptv i.s,ptv i.bk,.int .i64 (p:Int),.int .i64 (t:Int),sv,ptv i.rd,ptv i.rtr,ptv i.rs,.int .i64 (p:Int),.int .i64 (t:Int),rv]
def nC(pp p t n N:Nat)(ws ws':LL)(C:Dv)(r:Rg)(sr:Sr)(D:Bk)(o:Option So)(H:Hp):Prop:=
 ∃ (i:Pid) (sv rv:Value) (Hd Hs Hk HD HR HS HT:Hp),eX i.d C Hd/\lL i.s i.c i.b n ws sr Hs/\eP i.bk i.tb D Hk/\gS i.rd C HD/\jN i.rs i.rc n ws' N HR/\StO sv i.d i.tr i.s i.bk p t o HS/\aJM rv i.rd i.rtr i.rs p t o HT /\
  H=(pp,cl (vH i p t sv rv) 52)::(i.tr,cl (trc i.d r) 201)::(i.rtr,cl (rtc i.rd r) 100)::(Hd++(Hs++(Hk++(HD++(HR++(HS++HT))))))
theorem wW(k:LB)(hk:k.length=16):kA 10 (Aes.sched k):=by
 have h4:∀ y∈Aes.keyW k 4,y.length=4:=Aes.keyW_four oQ;have hl:(Aes.keyW k 4).length=4:=Aes.keyW_len _ _;have e:Aes.sched k=Aes.grow 4 (Aes.keyW k 4) 40:=by unfold Aes.sched;rw [hk]
 have hg:(Aes.sched k).length=44:=by rw [e,Aes.grow_len,hl]
 exact⟨by rw [e];exact Aes.grow_four dQ h4 oQ 40,oQ,dQ,oQ⟩
theorem zY{p t:Nat}(h:Gm.Ok p t)(k:LB)(hk:k.length=16){cnt:Int}(h0:0<=cnt)(h1:cnt<=18446744073709551615):Tri prog 7 [kM p t,.agg (cbs k).toArray,.int .u64 cnt] [] NT (fun v H=>∃ pp,v=ptv pp/\nC pp p t 10 0 (Aes.sched k) (Rg.sched k) (Dv.new (4*Gm.total p t:Nat)) (rg0 cnt) Sr.new Bk.new none H):=by
 refine (aL2 h k hk h0 h1).to ?_;rintro v H ⟨pp,rfl,d,tr,s,m,bk,tb,c,b,rd,rtr,rs,rc,Hd,Hb,Hc,HD,HR,hD,hB,hC,hDR,hR,rfl⟩;rw [hk] at hC hR;refine⟨(pp,cl [ptv d,ptv tr,ptv s,ptv bk,.int .i64 (p:Int),.int .i64 (t:Int),.pointer none,ptv rd,ptv rtr,ptv rs,.int .i64 (p:Int),.int .i64 (t:Int),.pointer none] 52)::(tr,cl (trc d (rg0 cnt)) 201)::(rtr,cl (rgc (rg0 cnt)++[ptv rd]) 100) ::
  (Hd++(((s,cl [ptv c,.map (some m),.slice none 0 0] 123)::(m,mo [])::((Hc++[(b,gK)])++([]++[])))++(Hb++(HD++(((rs,cl [ptv rc,.slice none 0 0,.bool false,.int .u64 0,.int .i64 0,.slice none 0 0] 107)::(HR++([]++[])))++([]++[])))))),[],?_,?_⟩
 ·rw [aG];simp only [aG,List.nil_append];exact fG
 refine⟨pp,rfl,⟨d,tr,s,bk,tb,c,b,rd,rtr,rs,rc⟩,_,_,Hd,_,Hb,HD,_,[],[],hD,?_,hB,hDR,?_,⟨rfl,rfl⟩,⟨rfl,rfl⟩,rfl⟩
 ·exact⟨m,.slice none 0 0,[],Hc,[],[],rfl,hC,Sl.nil _ _,rfl,by simp⟩
 exact⟨.slice none 0 0,false,0,0,.slice none 0 0,[],HR,[],[],rfl,hR,Sl.nil _ _,Nat.le_refl _,⟨rfl⟩,by simp⟩
theorem aBf{pp p t n N:Nat}{ws ws':LL}{C:Dv}{r:Rg}{sr:Sr}{D:Bk}{o:Option So}{H:Hp}(h:Gm.Ok p t)(hP:nC pp p t n N ws ws' C r sr D o H)(hlen:C.len=256*Gm.total p t)(hr:r.Ok)(hK:kA n ws)(hK':kA n ws')(hN:N<=1000000)(hX:Rg.enc ws' n=Aes.enc ws n):Tri prog 12 [ptv pp] H NT (fun v H'=>v=.bool true /\ nC pp p t n (N+200) ws ws' (kJ p t (dY (Aes.enc ws n)) (C,r)).2.1 (kJ p t (dY (Aes.enc ws n)) (C,r)).2.2 (oP p C r sr) (aA1 p t n ws C r D) o H'):=by obtain⟨i,sv,rv,Hd,Hs,Hk,HD,HR,HS,HT,hD,hS,hB,hDR,hSR,hO,hOR,rfl⟩:=hP;refine Tri.mt func12 ntmps12 fun w hw=>?_;have hF:=aJE (tr:=i.tr) h hD hlen hr hS hK hB;have hG:=aJf (tr:=i.rtr) h hDR hlen hr hSR hK' hN;rw [hX] at hG;have o1:=hO.one;have o2:=hOR.one;generalize kJ p t (dY (Aes.enc ws n)) (C,r)=FF at *;refine W.k ?_;(refine SW.l [9] [0,1,2,3,5,6,7,8] ?_;refine aX 4 ?_);refine aF hF ?_;rintro _ _ ⟨rfl,Hd2,Hs2,Hk2,Hx,hD2,hS2,hB2,rfl⟩;(refine bB [] ?_;refine bL 9 ?_);refine aF hG ?_;rintro _ _ ⟨rfl,HD2,HR2,hDR2,hSR2,rfl⟩;(refine SL.l [10,11,12] ?_);refine W.k ?_;refine Fin.to ((pp,cl (vH i p t sv rv) 52)::(i.tr,cl (trc i.d FF.2.2) 201)::(i.rtr,cl (rtc i.rd FF.2.2) 100)::(Hd2++(Hs2++(Hk2++(HD2++(HR2++(HS++HT))))))) ?_;exact F.f1 ⟨rfl,i,sv,rv,Hd2,Hs2,Hk2,HD2,HR2,HS,HT,hD2,hS2,hB2,hDR2,hSR2,hO,hOR,rfl⟩
end
theorem aMi{p t:Nat}(h:Gm.Ok p t){E:LB->LB}(hE:∀ x,(E x).length=16){cnt:Int}(h0:0<=cnt)(h1:cnt<=18446744073709551613)(ht:4*Gm.total p t<=1024) :
  ∃ σ',kJ p t (dY E) (Dv.new (4*Gm.total p t:Nat),rg0 cnt)=(0,(σ',{ c:=cnt+2,root:=gE (iI p t (dY E) (UInt64.ofNat (cnt+2).toNat)) })) /\
   σ'.Sta (8*(4*Gm.total p t)) ((iI p t (dY E) (UInt64.ofNat (cnt+2).toNat)).flatten++List.replicate (256*(1+t)) 0):=
 aMj (aAp _ ht) (by unfold Gm.total;omega) h1 (rL hE _) (pE _ _ _ _)
theorem aCL:Gm.Ok 3 4:=⟨dQ,dQ,dQ,dQ⟩
abbrev zB:LB:=1::List.replicate 15 0
theorem aEe(k:LB)(hk:k.length=16):Rg.enc (Rg.sched k) 10=Aes.enc (Aes.sched k) 10:=Ae.encs k hk 10 dQ
theorem xR(k:LB)(hk:k.length=16):kA 10 (Rg.sched k):=by rw [Ae.sched_eq k hk];exact wW k hk
section
attribute [local irreducible] SW SL SQ SH SA SS Pu Fin bS aN
abbrev bsG(d:Nat)(tv:Value)(s bk:Nat)(P T:Int):Value:=.agg #[ptv d,tv,ptv s,ptv bk,.int .i64 P,.int .i64 T]
theorem aCI{d tr s bk:Nat}{P T:Int}(h:¬ GoK P T){Hd:Hp}:Tri prog 70 [bsG d (ptv tr) s bk P T] Hd NT (fun v H=>v=.int .i64 1/\H=Hd):=by refine Tri.mt func70 ntmps70 fun w hw=>?_;have hck:=aG1 h;(refine W.k ?_;repeat intro b_);(refine SW.l [] [0,1] ?_;refine aX 2 ?_);refine W.cq hck ?_;(refine SL.l [3,4,5,6,8,9] ?_;(first|refine cY 7 rfl ?_;(first|refine cY 10 rfl ?_;(first|refine cY 11 rfl ?_;refine SG.l [12,13,14,15] ?_|refine aX 11 ?_)|refine aX 10 ?_)|refine aX 7 ?_));(refine W.k ?_;repeat intro b_);refine Fin.to Hd ?_;exact F.f1 ⟨rfl,rfl⟩
section
variable {d s bk:Nat}{tv:Value}{P T e:Int}{Hd:Hp}
theorem aI3(ot:One tv)(he:e≠0)(hm:Tri prog 70 [bsG d tv s bk P T] Hd NT (fun v H=>v=.int .i64 e/\H=Hd)):Tri prog 58 [bsG d tv s bk P T] Hd NT (fun v H=>v=.tuple #[.pointer none,.int .i64 e]/\H=Hd):=by refine Tri.mt func58 ntmps58 fun w hw=>?_;(refine W.k ?_;repeat intro b_);refine aF hm ?_;rintro _ Hx ⟨rfl,hx⟩;have hx:=hx.symm;subst hx;(refine W.k ?_;repeat intro b_);refine Fin.to Hd ?_;exact F.f2 ⟨rfl,rfl⟩
theorem aI0(ot:One tv)(he:e≠0)(hm:Tri prog 70 [bsG d tv s bk P T] Hd NT (fun v H=>v=.int .i64 e/\H=Hd)):Tri prog 18 [bsG d tv s bk P T] Hd NT (fun v H=>v=.tuple #[.int .i64 0,.int .i64 e]/\H=Hd):=by have hl:=aI3 ot he hm;refine Tri.mt func18 ntmps18 fun w hw=>?_;(refine W.k ?_;repeat intro b_);refine aF hl ?_;rintro _ Hx ⟨rfl,hx⟩;have hx:=hx.symm;subst hx;(refine W.k ?_;repeat intro b_);refine Fin.to Hd ?_;exact F.f2 ⟨rfl,rfl⟩
theorem aI1(ot:One tv)(he:e≠0)(wr:Bool)(hm:Tri prog 70 [bsG d tv s bk P T] Hd NT (fun v H=>v=.int .i64 e/\H=Hd)):Tri prog 23 [bsG d tv s bk P T,.bool wr] Hd NT (fun v H=>v=.tuple #[.pointer none,.int .i64 e]/\H=Hd):=by refine Tri.mt func23 ntmps23 fun w hw=>?_;(refine W.k ?_;repeat intro b_);refine aF hm ?_;rintro _ Hx ⟨rfl,hx⟩;have hx:=hx.symm;subst hx;(refine W.k ?_;repeat intro b_);refine Fin.to Hd ?_;exact F.f2 ⟨rfl,rfl⟩
theorem aF1(ot:One tv)(he:e≠0)(hm:Tri prog 70 [bsG d tv s bk P T] Hd NT (fun v H=>v=.int .i64 e/\H=Hd)):Tri prog 47 [bsG d tv s bk P T] Hd NT (fun v H=>v=.int .i64 e/\H=Hd):=by refine Tri.mt func47 ntmps47 fun w hw=>?_;(refine W.k ?_;repeat intro b_);refine aF hm ?_;rintro _ Hx ⟨rfl,hx⟩;have hx:=hx.symm;subst hx;(refine W.k ?_;repeat intro b_);refine Fin.to Hd ?_;exact F.f1 ⟨rfl,rfl⟩
end
theorem aBr{d tr s:Nat}{P T:Int}(h:¬ GoK P T){Hd:Hp}:Tri prog 59 [.agg #[ptv d,ptv tr,ptv s,.int .i64 P,.int .i64 T]] Hd NT (fun v H=>v=.bool false/\H=Hd):=by refine Tri.mt func59 ntmps59 fun w hw=>?_;have hm:=aDS h;(refine W.k ?_;repeat intro b_);(refine SW.l [2] [0,1] ?_;refine bL 2 ?_);refine W.cq hm ?_;(refine SL.l [3,4,5,6,7,8,9,10,11] ?_;(first|refine cY 12 rfl ?_;refine SG.l [13,14,15,16,17,18] ?_|refine aX 12 ?_));(refine W.k ?_;repeat intro b_);refine Fin.to Hd ?_;exact F.f1 ⟨rfl,rfl⟩
end
end Go.Proofs.YtdfclocfackkmaaGreat
