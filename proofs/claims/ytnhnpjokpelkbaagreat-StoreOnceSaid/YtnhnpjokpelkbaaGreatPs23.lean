/- The document's own device: Store, Load, Pending, Tamper. -/
import Derived.Test.YtnhnpjokpelkbaaGreatPs17
import Derived.Test.YtnhnpjokpelkbaaGreatPs16
set_option linter.unusedVariables false
set_option linter.unusedSimpArgs false
set_option linter.unusedSectionVars false
set_option maxHeartbeats 1000000
namespace Go.Proofs.YtnhnpjokpelkbaaGreat
open Go Go.Proofs.Tryz
theorem aKG(ws:List Wd):rn ws=(kV ws).map bv:=by simp [rn,kV,List.map_flatMap]
theorem aP2{α:Type}(f:Wd→List α){ws:List Wd}(hf:∀ w∈ws,(f w).length=8){i:Nat}{u u':Wd}(hu:ws[i/8]?=some u)(c:α)(h8:(f u').length=8)(h:(f u).set (i%8) c=f u'):(ws.flatMap f).set i c=(ws.set (i/8) u').flatMap f:=by
 have hm:i/8<ws.length:=(aE.1 hu).1
 have hf':∀ w∈ws.set (i/8) u',(f w).length=8:=fun w hw=>by
  rcases eJ hw with hw|rfl
  ·exact hf w hw
  ·exact h8
 have hl1:=aAo f hf
 have hl2:=aAo f hf'
 rw [bQ] at hl2
 apply cC
 intro k
 by_cases hk:k<8*ws.length
 ·obtain⟨x,hx⟩:∃ x,ws[k/8]?=some x:=⟨_,aA oQ⟩
  have hj:k%8<8:=Nat.mod_lt _ dQ
  have e:k/8*8+k%8=k:=oQ
  have g1:=fmU f hf hx hj
  rw [e] at g1
  rw [cN,hl1]
  by_cases hki:i/8=k/8
  ·have hx':(ws.set (i/8) u')[k/8]?=some u':=by rw [← hki];exact jO hm
   have g2:=fmU f hf' hx' hj
   rw [e] at g2
   rw [← hki,hu] at hx
   cases hx
   rw [g2,← h,cN,g1,hf u (aS hu)]
   by_cases hik:i=k
   ·subst hik;simp [hj];omega
   ·have:i%8≠k%8:=oQ
    simp [hik,this]
  ·have hx':(ws.set (i/8) u')[k/8]?=some x:=by rw [kH hki];exact hx
   have g2:=fmU f hf' hx' hj
   rw [e] at g2
   rw [g2,g1,if_neg (by intro e2;exact hki (by rw [e2]))]
 ·rw [aZ (by rw [bQ];omega),aZ oQ]
theorem aCz{ws:List Wd}(hok:∀ w∈ws,w.Ok){i:Nat}{u u':Wd}(hu:ws[i/8]?=some u)(c:UInt8)(h:u.now.set (i%8) c=u'.now):(kV ws).set i c=kV (ws.set (i/8) u'):=
 aP2 Wd.now (fun w hw=>(hok w hw).1.2) hu c (by rw [← h,bQ];exact (hok u (aS hu)).1.2) h
theorem aEd{α:Type}(f:Wd→α){ws:List Wd}{m:Nat}{u u':Wd}(hu:ws[m]?=some u)(h:f u'=f u):(ws.set m u').map f=ws.map f:=by
 rw [gJ,h]
 apply cC
 intro k
 rw [cN]
 split
 ·rename_i e;subst e
  split
  ·rw [aH,hu];rfl
  ·rename_i h2;simp [(aE.1 hu).1] at h2
 ·rfl
theorem aBH{α:Type}(f:Wd→List α){ws:List Wd}{m:Nat}{u u':Wd}(hu:ws[m]?=some u)(h:f u'=f u):(ws.set m u').flatMap f=ws.flatMap f:=by
 rw [fF,fF,aEd f hu h]
def Wd.ps(j:Nat)(c:UInt8)(w:Wd):Wd:=(w.put j c).stored
theorem Wd.ps_ok(j:Nat)(c:UInt8){w:Wd}(h:w.Ok):(w.ps j c).Ok:=Wd.stored_ok (Wd.put_ok j c h)
theorem aDN(ws:List Wd)(i:Nat)(bs:List UInt8):rE ws i bs=gG Wd.ps ws i bs:=by
 have key:∀ l:List UInt8,gG Wd.ps ws i l=iY Wd.stored (i/8) (if l.length=0 then i/8 else (i+l.length-1)/8+1) (gG Wd.put ws i l):=by
  intro l
  induction hn:l.length generalizing l with
  | zero=>
   have:l=[]:=bL hn
   subst this
   show ws=iY _ _ _ ws
   rw [if_pos rfl,rL]
  | succ n ih=>
   obtain⟨l',c,rfl⟩:∃ l' c,l=l'++[c]:=⟨l.dropLast,l.getLast (by intro h;subst h;simp at hn),(List.dropLast_concat_getLast _).symm⟩
   have hl':l'.length=n:=by simp at hn;exact hn
   rw [rM,rM,ih l' hl',hl',if_neg (Nat.succ_ne_zero n)]
   unfold qL
   have e:(i+(n+1)-1)/8=(i+n)/8:=by congr 1
   rw [e]
   apply cC
   intro k
   simp only [kG,iY,dB]
   cases hk:(gG Wd.put ws i l')[k]? with
   | none=>simp
   | some u=>
    simp only [Option.map_some,sZ,dF]
    by_cases hm:(i+n)/8=k
    ·subst hm
     rw [if_pos rfl,if_pos (c:=i/8≤(i+n)/8∧(i+n)/8<(i+n)/8+1) ⟨by omega,by omega⟩]
     try rw [if_pos rfl]
     by_cases h1:i/8≤(i+n)/8∧(i+n)/8<(if n=0 then i/8 else (i+n-1)/8+1)
     ·rw [if_pos h1];rfl
     ·rw [if_neg h1];rfl
    ·rw [if_neg hm,if_neg hm]
     have:(i/8≤k∧k<(if n=0 then i/8 else (i+n-1)/8+1))↔(i/8≤k∧k<(i+n)/8+1):=by
      split <;> omega
     simp only [this,id]
 unfold rE
 rw [key bs]
 split
 ·rename_i h0
  have:bs=[]:=bL h0
  subst this
  exact (rL _ _ _).symm
 ·rfl
section
attribute [local irreducible] SW SL SQ SH SA SS Pu Fin bZ aQ
theorem aKJ{p:Nat}{σ:Dv}{H:Hp}(hD:lS p σ H)(x:Int)(v:Value)(bs:List UInt8)(hbs:bs.length≤1048576):Tri prog 231 [.pointer (some ⟨p,0,none⟩),.int .i64 x,v] H (fun w=>Rd (H.map Prod.fst) w 1 v (bs.map bv))
  (fun v' H'=>v'=.int .i64 (σ.actR x bs.length)∧lS p (σ.store x bs) H'):=by
 have hr:=xH hD x bs.length
 refine Tri.mk func231 rfl ntmps231 rfl fun w hw=>?_
 obtain⟨aa,len,cap,rfl,hlen,hcap,hrd⟩:=hw.get
 rw [aD,Nat.mul_one] at hlen
 subst hlen
 refine W.k ?_
 refine W.cq hr ?_
 by_cases h0:σ.rdy x bs.length=0
 ·obtain⟨hdn,hx0,-,hn,hxn⟩:=sK h0
  have ha:=aEn hD hdn 1 x bs.length
  rw [h0]
  refine W.k ?_
  refine aG ha ?_
  rintro _ H1 ⟨rfl,hD1⟩
  by_cases h1:σ.actE=0
  ·rw [h1]
   refine W.k ?_
   have hwl:(σ.act (1,x,bs.length)).ws.length=σ.ws.length:=rB _ _
   have hres:σ.store x bs=(σ.act (1,x,bs.length)).setWs (rE (σ.act (1,x,bs.length)).ws x.toNat bs):=by unfold Dv.store;rw [if_pos h0,if_pos h1]
   have hresE:σ.actR x bs.length=0:=by unfold Dv.actR;rw [if_pos h0,h1]
   rw [hres,hresE,aDN]
   have hlen:σ.len=8*σ.ws.length:=rfl
   generalize σ.act (1,x,bs.length)=τ at hD1 hwl ⊢
   obtain⟨i,rfl⟩:∃ i:Nat,x=i:=⟨x.toNat,by omega⟩
   rw [aU]
   have hN:=hD1.1.n
   have hlenτ:τ.len=8*τ.ws.length:=rfl
   obtain⟨hO,bl,bn,bp,bm,vp,va,Hq,Ha,h2,h3,rfl⟩:=hD1
   refine cV [0,1,25,26] [bn,bp,bm] (fun k:Nat=>[(27,.int .i64 k)]) (fun k=>[(bn,cl (rn (gG Wd.ps τ.ws i (bs.take k))) 5),(bp,cl (rp (gG Wd.ps τ.ws i (bs.take k))) 4),(bm,cl (rm (gG Wd.ps τ.ws i (bs.take k))) 4)]) (fun k=>bs.length-k) (fun k=>k≤bs.length∧rl (gG Wd.ps τ.ws i (bs.take k))=rl τ.ws) 0 ⟨Nat.zero_le _,rfl⟩ ?_
   rintro k ⟨hk,hrl⟩
   have hok:=xY (fun j c w=>Wd.ps_ok j c) (bs.take k) τ.ws i hO.ok
   have hml:=lV Wd.ps (bs.take k) τ.ws i
   have l1:=aGP hok
   have l2:=vN (gG Wd.ps τ.ws i (bs.take k))
   have l3:=xD (gG Wd.ps τ.ws i (bs.take k))
   by_cases hkl:k<bs.length
   ·obtain⟨b,o,l,T,fz,rfl,hb,hbk,hys⟩:=hrd oQ
    obtain⟨c,hc⟩:∃ c,bs[k]?=some c:=⟨_,aA hkl⟩
    have hlc:l[o+k]?=some (bv c):=xM hys (by simp [hc])
    have hm:(i+k)/8<(gG Wd.ps τ.ws i (bs.take k)).length:=oQ
    have hi1:i+k<(rn (gG Wd.ps τ.ws i (bs.take k))).length:=oQ
    have hi2:(i+k)/8<(rp (gG Wd.ps τ.ws i (bs.take k))).length:=oQ
    have hi3:(i+k)/8<(rm (gG Wd.ps τ.ws i (bs.take k))).length:=oQ
    obtain⟨u,hu⟩:∃ u,(gG Wd.ps τ.ws i (bs.take k))[(i+k)/8]?=some u:=⟨_,aA hm⟩
    have hsn:gG Wd.ps τ.ws i (bs.take (k+1))=(gG Wd.ps τ.ws i (bs.take k)).set ((i+k)/8) (u.ps ((i+k)%8) c):=by
     rw [bA,hc,dO,rM,aK,dA hk]
     exact pM _ hu
    have e1:(rn (gG Wd.ps τ.ws i (bs.take k))).set (i+k) (bv c)=rn (gG Wd.ps τ.ws i (bs.take (k+1))):=by
     rw [hsn,aKG,aKG,← gJ,aCz hok hu c (u':=u.ps ((i+k)%8) c) rfl]
    have e2:(rp (gG Wd.ps τ.ws i (bs.take k))).set ((i+k)/8) (.bool true)=rp (gG Wd.ps τ.ws i (bs.take (k+1))):=by
     rw [hsn];unfold rp;rw [gJ];rfl
    have e3:(rm (gG Wd.ps τ.ws i (bs.take k))).set ((i+k)/8) (.bool false)=rm (gG Wd.ps τ.ws i (bs.take (k+1))):=by
     rw [hsn];unfold rm;rw [gJ];rfl
    have e4:rl (gG Wd.ps τ.ws i (bs.take (k+1)))=rl τ.ws:=by
     rw [hsn,← hrl];exact aBH _ hu rfl
    refine W.k ?_
    rw [e1,e2,e3]
    refine aQ.mk (k+1) ?_
    exact⟨by omega,e4⟩
   ·have:k=bs.length:=oQ
    subst this
    rw [bP] at hrl hok hml ⊢
    refine W.k ?_
    refine Fin.perm (H':=(p,cl [.slice (some ⟨bl,0,none⟩) τ.len τ.len,.slice (some ⟨bn,0,none⟩) τ.len τ.len,.slice (some ⟨bp,0,none⟩) τ.ws.length τ.ws.length,.slice (some ⟨bm,0,none⟩) τ.ws.length τ.ws.length,.bool τ.down,.int .i64 τ.fuse,vp,va] 214)::(bl,cl (rl τ.ws) 5)::(bn,cl (rn (gG Wd.ps τ.ws i bs)) 5)::(bp,cl (rp (gG Wd.ps τ.ws i bs)) 4)::(bm,cl (rm (gG Wd.ps τ.ws i bs)) 4)::(Hq++Ha)) ?_ (F.f1 ?_)
    ·simp only [aF]
     exact (cK (l₁:=[_,_,_]) (l₂:=_::_::(Hq++Ha))).trans (((cK (l₁:=Hq++Ha)).cons _).cons _)
    refine⟨rfl,Dv.setWs_ok hO hml hok,bl,bn,bp,bm,vp,va,Hq,Ha,h2,h3,?_⟩
    simp [Dv.setWs,Dv.len,hml,hrl]
  ·refine W.k ?_
   refine F.f1 ?_
   have hres:σ.store x bs=σ.act (1,x,bs.length):=by unfold Dv.store;rw [if_pos h0,if_neg h1]
   have hresE:σ.actR x bs.length=σ.actE:=by unfold Dv.actR;rw [if_pos h0]
   rw [hres,hresE];refine⟨rfl,?_⟩;simp only [aF];exact hD1
 ·refine W.k ?_
  refine F.f1 ?_
  have hres:σ.store x bs=σ:=by unfold Dv.store;rw [if_neg h0]
  have hresE:σ.actR x bs.length=σ.rdy x bs.length:=by unfold Dv.actR;rw [if_neg h0]
  rw [hres,hresE];refine⟨rfl,?_⟩;simp only [aF];exact hD
theorem aMu{p:Nat}{σ:Dv}{H:Hp}(hD:lS p σ H)(x n:Int):Tri prog 134 [.pointer (some ⟨p,0,none⟩),.int .i64 x,.int .i64 n] H (fun _=>True)
  (fun v' H'=>∃ sv Hs,v'=.tuple #[sv,.int .i64 (σ.rdy x n)]∧Sl 5 1 sv ((σ.loadB x n).map bv) Hs∧H'=Hs++H):=by
 have hr:=xH hD x n
 refine Tri.mk func134 rfl ntmps134 rfl fun w hw=>?_
 refine W.k ?_
 refine W.cq hr ?_
 by_cases h0:σ.rdy x n=0
 ·obtain⟨hdn,hx0,hn0,hn,hxn⟩:=sK h0
  have hb:σ.loadB x n=((kV σ.ws).drop x.toNat).take n.toNat:=by unfold Dv.loadB;rw [if_pos h0]
  rw [h0,hb]
  have hlen:σ.len=8*σ.ws.length:=rfl
  obtain⟨i,rfl⟩:∃ i:Nat,x=i:=⟨x.toNat,by omega⟩
  obtain⟨m,rfl⟩:∃ m:Nat,n=m:=⟨n.toNat,by omega⟩
  rw [aU,aU]
  have hN:=hD.1.n
  obtain⟨hO,bl,bn,bp,bm,vp,va,Hq,Ha,h2,h3,rfl⟩:=hD
  have hnl:=xA hO.ok
  have hml:(((kV σ.ws).drop i).take m).length=m:=by simp;omega
  by_cases hlt:i<σ.len
  ·refine W.k fun b_=>?_
   refine W.ap (xs:=[]) (ys:=(((kV σ.ws).drop i).take m).map bv) (mm:=m) (Hs:=[(b_,cl [] 5)]) (.inr ⟨b_,0,0,[],rfl,rfl,rfl,Nat.le_refl _,rfl⟩) (fun w2 hs=>?_) (fun v2 Hs2 hv2=>?_) (hys:=by simp;omega) (hbytes:=by simp;omega)
   ·have e:i+m-i=m:=oQ
    rw [e]
    refine fB.own hs (b:=bn) (l:=rn σ.ws) (by rw [aKG,Nat.mul_one,iA,jQ]) (by simp;omega)
   refine W.k ?_
   refine F.f2 ?_
   refine⟨v2,Hs2,rfl,hv2,?_⟩
   simp
  ·refine W.k fun b_=>?_
   have hm0:m=0:=oQ
   subst hm0
   refine bN (pA (l:=i) (h:=i) rfl rfl (.inr ⟨_,_,_,rfl,rfl,rfl⟩) (.inr ⟨_,_,_,rfl,rfl,by simp⟩) (Nat.le_refl _) oQ (vl:=none) (vh:=none)) rfl rfl ?_
   rw [eB]
   refine W.ap (xs:=[]) (ys:=[]) (mm:=0) (Hs:=[(b_,cl [] 5)]) (.inr ⟨b_,0,0,[],rfl,rfl,rfl,Nat.le_refl _,rfl⟩) (fun w2 hs=>fB.empty _ _ _ _) (fun v2 Hs2 hv2=>?_) (hys:=rfl) (hbytes:=by simp)
   refine W.k ?_
   refine F.f2 ?_
   refine⟨v2,Hs2,rfl,by simpa using hv2,?_⟩
   simp
 ·have hb:σ.loadB x n=[]:=by unfold Dv.loadB;rw [if_neg h0]
  refine W.k ?_
  refine F.f2 ?_
  refine⟨_,[],rfl,?_,by simp⟩
  rw [hb];exact Sl.nil _ _
theorem aFq{α:Type}{h:Wd→Wd}(f:Wd→α)(hf:∀ w,f (h w)=f w)(x y:Nat)(ws:List Wd):(iY h x y ws).map f=ws.map f:=by
 apply cC
 intro i
 simp only [iY,aH,dB]
 cases ws[i]? with
 | none=>rfl
 | some w=>
  simp only [Option.map_some,dF]
  split
  ·exact hf w
  ·rfl
theorem aAv{α:Type}{h:Wd→Wd}(f:Wd→List α)(hf:∀ w,f (h w)=f w)(x y:Nat)(ws:List Wd):(iY h x y ws).flatMap f=ws.flatMap f:=by
 rw [fF,fF,aFq f hf]
theorem aGt{ws:List Wd}{X y w:Nat}{u:Wd}(h1:X≤w)(h2:w≤y)(hu:ws[w]?=some u):(rm (iY Wd.flushed X y ws)).set w (.bool u.pend)=rm (iY Wd.flushed X (max y (w+1)) ws):=by
 have hw:w<ws.length:=(aE.1 hu).1
 apply cC
 intro k
 simp only [rm,iY,cN,aD,nO,aH,dB]
 by_cases hk:w=k
 ·subst hk
  rw [if_pos rfl,if_pos hw,hu]
  simp only [Option.map_some,dF]
  rw [if_pos oQ];rfl
 ·rw [if_neg hk]
  cases ws[k]? with
  | none=>rfl
  | some x=>
   simp only [Option.map_some,dF]
   have:(X≤k∧k<y)↔(X≤k∧k<max y (w+1)):=oQ
   simp only [this]
def wI(i t:Nat):Nat:=if t=i then i/64*8 else ((t-1)/64+1)*8
theorem aKD{p:Nat}{σ:Dv}{H:Hp}(hD:lS p σ H)(h8:σ.ws.length%8=0)(x n:Int):Tri prog 232 [.pointer (some ⟨p,0,none⟩),.int .i64 x,.int .i64 n] H (fun _=>True)
  (fun v' H'=>v'=.int .i64 (σ.actR x n)∧lS p (σ.flush x n) H'):=by
 have hr:=xH hD x n
 refine Tri.mk func232 rfl ntmps232 rfl fun w hw=>?_
 refine W.k ?_
 refine W.cq hr ?_
 by_cases h0:σ.rdy x n=0
 ·obtain⟨hdn,hx0,hn0,hn,hxn⟩:=sK h0
  have ha:=aEn hD hdn 2 x n
  rw [h0]
  refine W.k ?_
  refine aG ha ?_
  rintro _ H1 ⟨rfl,hD1⟩
  by_cases h1:σ.actE=0
  ·rw [h1]
   refine W.k ?_
   have hwl:(σ.act (2,x,n)).ws.length=σ.ws.length:=rB _ _
   have hres:σ.flush x n=(σ.act (2,x,n)).setWs (kO (σ.act (2,x,n)).ws x.toNat n.toNat):=by unfold Dv.flush;rw [if_pos h0,if_pos h1]
   have hresE:σ.actR x n=0:=by unfold Dv.actR;rw [if_pos h0,h1]
   rw [hres,hresE]
   have hlen:σ.len=8*σ.ws.length:=rfl
   generalize σ.act (2,x,n)=τ at hD1 hwl ⊢
   obtain⟨i,rfl⟩:∃ i:Nat,x=i:=⟨x.toNat,by omega⟩
   obtain⟨m,rfl⟩:∃ m:Nat,n=m:=⟨n.toNat,by omega⟩
   rw [aU,aU]
   have hN:=hD1.1.n
   have hlenτ:τ.len=8*τ.ws.length:=rfl
   obtain⟨hO,bl,bn,bp,bm,vp,va,Hq,Ha,h2,h3,rfl⟩:=hD1
   refine cV [0,1,2] [bm] (fun t:Nat=>[(8,.int .i64 t)]) (fun t=>[(bm,cl (rm (iY Wd.flushed (i/64*8) (wI i t) τ.ws)) 4)]) (fun t=>i+m-t) (fun t=>i≤t∧t≤i+m) i ⟨Nat.le_refl _,by omega⟩ ?_ (by rw [wI,if_pos rfl,rL])
   rintro t ⟨ht1,ht2⟩
   have hu1:t/64*8≤wI i t:=by unfold wI;split <;> omega
   have hu2:wI i t≤(t/64+1)*8:=by unfold wI;split <;> omega
   have hu3:wI i (t+1)=(t/64+1)*8:=by unfold wI;rw [if_neg oQ];rfl
   by_cases htl:t<i+m
   ·refine W.j ?_
    refine SW.cut [0,1,2,8] [bm] (fun _:Unit=>[]) (fun _=>[(bm,cl (rm (iY Wd.flushed (i/64*8) (wI i (t+1)) τ.ws)) 4)]) (fun _=>True) ?_ ?_
    ·refine W.k ?_
     refine cV [0,1,2,8] [bm] (fun j:Nat=>[(9,.int .i64 j)]) (fun j=>[(bm,cl (rm (iY Wd.flushed (i/64*8) (max (wI i t) (t/64*8+j)) τ.ws)) 4)]) (fun j=>8-j) (fun j=>j≤8) 0 (Nat.zero_le _) ?_ (by rw [kJ,Nat.max_eq_left hu1])
     intro j hj
     by_cases hj8:j<8
     ·have hw:t/64*8+j<τ.ws.length:=oQ
      obtain⟨u,hu⟩:∃ u,τ.ws[t/64*8+j]?=some u:=⟨_,aA hw⟩
      have hp:(rp τ.ws)[t/64*8+j]?=some (.bool u.pend):=by unfold rp;rw [aH,hu];rfl
      have hst:=aGt (X:=i/64*8) (y:=max (wI i t) (t/64*8+j)) oQ oQ hu
      have hmx:max (max (wI i t) (t/64*8+j)) (t/64*8+j+1)=max (wI i t) (t/64*8+(j+1)):=oQ
      rw [hmx] at hst
      have hlt:t/64*8+j<(rm (iY Wd.flushed (i/64*8) (max (wI i t) (t/64*8+j)) τ.ws)).length:=by rw [xD,oW];exact hw
      refine W.k ?_
      (refine SW.l [13] [0,1,2,3,4,5,6,7,8,9,10,11,12] ?_;refine bV 13 ?_;refine W.i ?_;refine SS.dn ?_)
      rw [hst]
      refine W.k ?_
      refine aQ.mk (j+1) ?_
      omega
     ·have:j=8:=oQ
      subst this
      have e:max (wI i t) (t/64*8+8)=wI i (t+1):=oQ
      rw [e]
      refine W.k ?_
      refine bZ.mk () ?_
      trivial
    ·intro _ _
     refine W.k ?_
     refine aQ.mk (t+1) ?_
     omega
   ·have:t=i+m:=oQ
    subst this
    have e:iY Wd.flushed (i/64*8) (wI i (i+m)) τ.ws=kO τ.ws i m:=by
     unfold kO wI
     by_cases hm:m=0
     ·subst hm;rw [if_pos oQ,if_pos rfl,rL]
     ·rw [if_neg oQ,if_neg hm]
    have hfl:(kO τ.ws i m).length=τ.ws.length:=by rw [← e,oW]
    have hfo:∀ w∈kO τ.ws i m,w.Ok:=by rw [← e];exact xW (fun w=>Wd.flushed_ok) _ _ hO.ok
    have q1:rl (kO τ.ws i m)=rl τ.ws:=by rw [← e];exact aAv (h:=Wd.flushed) (fun w=>w.lasts.map bv) (fun w=>rfl) _ _ _
    have q2:rn (kO τ.ws i m)=rn τ.ws:=by rw [← e];exact aAv (h:=Wd.flushed) (fun w=>w.now.map bv) (fun w=>rfl) _ _ _
    have q3:rp (kO τ.ws i m)=rp τ.ws:=by rw [← e];exact aFq (h:=Wd.flushed) (fun w=>Value.bool w.pend) (fun w=>rfl) _ _ _
    rw [e]
    refine W.k ?_
    refine Fin.perm (H':=(p,cl [.slice (some ⟨bl,0,none⟩) τ.len τ.len,.slice (some ⟨bn,0,none⟩) τ.len τ.len,.slice (some ⟨bp,0,none⟩) τ.ws.length τ.ws.length,.slice (some ⟨bm,0,none⟩) τ.ws.length τ.ws.length,.bool τ.down,.int .i64 τ.fuse,vp,va] 214)::(bl,cl (rl τ.ws) 5)::(bn,cl (rn τ.ws) 5)::(bp,cl (rp τ.ws) 4)::(bm,cl (rm (kO τ.ws i m)) 4)::(Hq++Ha)) ?_ (F.f1 ?_)
    ·simp only [aF]
     exact (pF (l₁:=[_,_,_,_]) (a:=(bm,_)) (l₂:=Hq++Ha)).symm
    refine⟨rfl,Dv.setWs_ok hO hfl hfo,bl,bn,bp,bm,vp,va,Hq,Ha,h2,h3,?_⟩
    simp [Dv.setWs,Dv.len,hfl,q1,q2,q3]
  ·refine W.k ?_
   refine F.f1 ?_
   have hres:σ.flush x n=σ.act (2,x,n):=by unfold Dv.flush;rw [if_pos h0,if_neg h1]
   have hresE:σ.actR x n=σ.actE:=by unfold Dv.actR;rw [if_pos h0]
   rw [hres,hresE];refine⟨rfl,?_⟩;simp only [aF];exact hD1
 ·refine W.k ?_
  refine F.f1 ?_
  have hres:σ.flush x n=σ:=by unfold Dv.flush;rw [if_neg h0]
  have hresE:σ.actR x n=σ.rdy x n:=by unfold Dv.actR;rw [if_neg h0]
  rw [hres,hresE];refine⟨rfl,?_⟩;simp only [aF];exact hD
theorem zH(w:Wd):w.fenced.now=w.now:=by unfold Wd.fenced;cases w.mark <;> rfl
theorem aOw{ws:List Wd}{k:Nat}{u u':Wd}(hok:∀ w∈ws,w.Ok)(hu:ws[k]?=some u)(h:u'.lasts.length=8):(rl ws).take (8*k)++u'.lasts.map bv++(rl ws).drop (8*k+(u'.lasts.map bv).length)=rl (ws.set k u'):=by
 have hk:k<ws.length:=(aE.1 hu).1
 have hA:(rl (ws.take k)).length=8*k:=by rw [aGN (fun w hw=>hok w (dZ hw)),aK];congr 1;omega
 have e:rl ws=rl (ws.take k)++(u.lasts.map bv++rl (ws.drop (k+1))):=tY _ ws k u hu
 have hx:(u.lasts.map bv).length=8:=by simpa using (hok u (aS hu)).1.1
 rw [e,aAR hA hx (by simpa using h)]
 exact (aGu _ ws k u' hk).symm
theorem aOy{ws:List Wd}{k:Nat}{u:Wd}(hok:∀ w∈ws,w.Ok)(hu:ws[k]?=some u):((rn ws).drop (8*k)).take (8*1)=u.now.map bv:=by
 have hk:k<ws.length:=(aE.1 hu).1
 have hA:(rn (ws.take k)).length=8*k:=by rw [aGP (fun w hw=>hok w (dZ hw)),aK];congr 1;omega
 have e:rn ws=rn (ws.take k)++(u.now.map bv++rn (ws.drop (k+1))):=tY _ ws k u hu
 rw [e,aKH hA (by simpa using (hok u (aS hu)).1.2)]
theorem aAG{p:Nat}{σ:Dv}{H:Hp}(hD:lS p σ H):Tri prog 192 [.pointer (some ⟨p,0,none⟩)] H (fun _=>True)
  (fun v' H'=>v'=.int .i64 (σ.actR 0 0)∧lS p σ.fence H'):=by
 have hr:=xH hD 0 0
 refine Tri.mk func192 rfl ntmps192 rfl fun w hw=>?_
 refine W.k ?_
 refine W.cq hr ?_
 by_cases h0:σ.rdy 0 0=0
 ·obtain⟨hdn,-⟩:=sK h0
  have ha:=aEn hD hdn 3 0 0
  rw [h0]
  refine W.k ?_
  refine aG ha ?_
  rintro _ H1 ⟨rfl,hD1⟩
  by_cases h1:σ.actE=0
  ·rw [h1]
   have hres:σ.fence=(σ.act (3,0,0)).setWs ((σ.act (3,0,0)).ws.map Wd.fenced):=by unfold Dv.fence;rw [if_pos h0,if_pos h1]
   have hresE:σ.actR 0 0=0:=by unfold Dv.actR;rw [if_pos h0,h1]
   rw [hres,hresE]
   generalize σ.act (3,0,0)=τ at hD1 ⊢
   have hN:=hD1.1.n
   have hlenτ:τ.len=8*τ.ws.length:=rfl
   obtain⟨hO,bl,bn,bp,bm,vp,va,Hq,Ha,h2,h3,rfl⟩:=hD1
   refine W.k ?_
   refine cV [0,18] [bl,bp,bm] (fun k:Nat=>[(19,.int .i64 k)]) (fun k=>[(bl,cl (rl (iY Wd.fenced 0 k τ.ws)) 5),(bp,cl (rp (iY Wd.fenced 0 k τ.ws)) 4),(bm,cl (rm (iY Wd.fenced 0 k τ.ws)) 4)]) (fun k=>τ.ws.length-k) (fun k=>k≤τ.ws.length) 0 (Nat.zero_le _) ?_ (by rw [rL])
   intro k hk
   by_cases hkl:k<τ.ws.length
   ·obtain⟨u,hu⟩:∃ u,τ.ws[k]?=some u:=⟨_,aA hkl⟩
    have huO:=hO.ok u (aS hu)
    obtain⟨hk2,hset⟩:=aDB Wd.fenced 0 k τ.ws u (Nat.zero_le _) hu
    have hok2:=xW (fun w=>Wd.fenced_ok) 0 k hO.ok
    have hmk:(rm (iY Wd.fenced 0 k τ.ws))[k]?=some (.bool u.mark):=by unfold rm;rw [aH,hk2];rfl
    have hl2:=vN (iY Wd.fenced 0 k τ.ws)
    have hl3:=xD (iY Wd.fenced 0 k τ.ws)
    have hl1:=aGN hok2
    rw [oW] at hl1 hl2 hl3
    cases hm:u.mark
    ·rw [hm] at hmk
     have hfu:u.fenced=u:=by unfold Wd.fenced;rw [hm];rfl
     have hsame:iY Wd.fenced 0 (k+1) τ.ws=iY Wd.fenced 0 k τ.ws:=by
      rw [← hset,hfu]
      exact aCX hk2
     refine W.k ?_
     rw [← hsame]
     refine aQ.mk (k+1) ?_
     omega
    ·rw [hm] at hmk
     have hfu:u.fenced={ lasts:=u.now,now:=u.now,pend:=false,mark:=false }:=by unfold Wd.fenced;rw [hm];rfl
     have hrow:=aOy hO.ok hu
     have e1:=aOw (u':=u.fenced) hok2 hk2 (by rw [hfu];exact huO.1.2)
     rw [hset] at e1
     have e2:(rp (iY Wd.fenced 0 k τ.ws)).set k (.bool false)=rp (iY Wd.fenced 0 (k+1) τ.ws):=by
      rw [← hset];unfold rp;rw [gJ,hfu]
     have e3:(rm (iY Wd.fenced 0 k τ.ws)).set k (.bool false)=rm (iY Wd.fenced 0 (k+1) τ.ws):=by
      rw [← hset];unfold rm;rw [gJ,hfu]
     have hn8:(u.now.map bv).length=8:=by simpa using huO.1.2
     have hlt2:k<(rp (iY Wd.fenced 0 k τ.ws)).length:=oQ
     have hlt3:k<(rm (iY Wd.fenced 0 k τ.ws)).length:=oQ
     refine W.k ?_
     (refine SW.l [20] [0,1,2,3,4,5,6,7,8] ?_;refine dN 9 rfl (aEj rfl rfl rfl rfl oQ oQ) ?_;refine SG.l [10,11,12,13,14,15,16,17,18] ?_;refine dN 19 rfl (aEj rfl rfl rfl rfl oQ oQ) ?_;refine bV 20 ?_)
     rw [show 8*k+8-8*k=8 by omega]
     refine W.cy (mm:=8) (fun w2 hs=>fB.own hs (b:=bn) hrow hn8) ?_ (hfit:=by omega)
     (refine bK [] ?_;refine SS.dn ?_)
     rw [show u.now.map bv=u.fenced.lasts.map bv by rw [hfu],e1]
     refine W.k ?_
     rw [e2,e3]
     refine aQ.mk (k+1) ?_
     omega
   ·have:k=τ.ws.length:=oQ
    subst this
    have hfl:(iY Wd.fenced 0 τ.ws.length τ.ws).length=τ.ws.length:=oW _ _ _ _
    have hfo:=xW (fun w=>Wd.fenced_ok) 0 τ.ws.length hO.ok
    have q2:rn (iY Wd.fenced 0 τ.ws.length τ.ws)=rn τ.ws:=aAv (h:=Wd.fenced) (fun w=>w.now.map bv) (fun w=>by rw [zH]) _ _ _
    refine W.k ?_
    rw [aFp] at hfl hfo q2 ⊢
    refine Fin.to ((p,cl [.slice (some ⟨bl,0,none⟩) τ.len τ.len,.slice (some ⟨bn,0,none⟩) τ.len τ.len,.slice (some ⟨bp,0,none⟩) τ.ws.length τ.ws.length,.slice (some ⟨bm,0,none⟩) τ.ws.length τ.ws.length,.bool τ.down,.int .i64 τ.fuse,vp,va] 214)::(bl,cl (rl (τ.ws.map Wd.fenced)) 5)::(bn,cl (rn τ.ws) 5)::(bp,cl (rp (τ.ws.map Wd.fenced)) 4)::(bm,cl (rm (τ.ws.map Wd.fenced)) 4)::(Hq++Ha)) ?_
    refine F.f1 ?_
    refine⟨rfl,Dv.setWs_ok hO hfl hfo,bl,bn,bp,bm,vp,va,Hq,Ha,h2,h3,?_⟩
    simp [Dv.setWs,Dv.len,q2]
  ·refine W.k ?_
   refine F.f1 ?_
   have hres:σ.fence=σ.act (3,0,0):=by unfold Dv.fence;rw [if_pos h0,if_neg h1]
   have hresE:σ.actR 0 0=σ.actE:=by unfold Dv.actR;rw [if_pos h0]
   rw [hres,hresE];refine⟨rfl,?_⟩;simp only [aF];exact hD1
 ·refine W.k ?_
  refine F.f1 ?_
  have hres:σ.fence=σ:=by unfold Dv.fence;rw [if_neg h0]
  have hresE:σ.actR 0 0=σ.rdy 0 0:=by unfold Dv.actR;rw [if_neg h0]
  rw [hres,hresE];refine⟨rfl,?_⟩;simp only [aF];exact hD
end
theorem xZ{f:Nat→UInt8→Wd→Wd}{J:Wd→Prop}(hf:∀ j c w,J w→J (f j c w)):∀ (bs:List UInt8) (ws:List Wd) (i:Nat),(∀ w∈ws,J w)→∀ w∈gG f ws i bs,J w
 | [],ws,i,h=>h
 | c::t,ws,i,h=>xZ hf t _ _ (fun w hw=>by
   unfold qL at hw
   obtain⟨k,hk⟩:=cT.1 hw
   rw [kG] at hk
   cases hu:ws[k]? with
   | none=>rw [hu] at hk;simp at hk
   | some u=>
    rw [hu] at hk
    have hm:=h u (aS hu)
    simp only [sZ,Option.map_some,dF] at hk
    rw [← hk]
    split
    ·exact hf _ _ u hm
    ·exact hm)
def spl(l:List UInt8)(i:Nat)(bs:List UInt8):List UInt8:=l.take i++bs++l.drop (i+bs.length)
theorem aHN:∀ (bs:List UInt8) (ws:List Wd) (i:Nat),(∀ w∈ws,w.Ok)→i+bs.length≤8*ws.length →
  kV (gG Wd.ps ws i bs)=spl (kV ws) i bs∧lC (gG Wd.ps ws i bs)=lC ws
 | [],ws,i,_,_=>by simp [gG,spl]
 | c::t,ws,i,hok,hl=>by
  simp only [aW] at hl
  have hm:i/8<ws.length:=oQ
  obtain⟨u,hu⟩:∃ u,ws[i/8]?=some u:=⟨_,aA hm⟩
  have hB:qL Wd.ps ws i c=ws.set (i/8) (u.ps (i%8) c):=pM _ hu
  have hok2:∀ w∈qL Wd.ps ws i c,w.Ok:=by unfold qL;exact aBh (fun w=>Wd.ps_ok _ _) _ hok
  obtain⟨e1,e2⟩:=aHN t (qL Wd.ps ws i c) (i+1) hok2 (by rw [aFr];omega)
  have n1:kV (qL Wd.ps ws i c)=(kV ws).set i c:=by rw [hB];exact (aCz hok hu c rfl).symm
  have n2:lC (qL Wd.ps ws i c)=lC ws:=by rw [hB];exact aBH _ hu rfl
  have l1:=xA hok
  have key:∀ (l:List UInt8),i<l.length→(l.set i c).take (i+1)++t++(l.set i c).drop (i+1+t.length)=l.take i++(c::t)++l.drop (i+(t.length+1)):=fun l hi=>by
   rw [List.take_set,bA,aA hi,dO,cA _ _ (by simp;omega)]
   have e:i-(l.take i).length=0:=by simp;omega
   rw [e,fJ,List.drop_set_of_lt oQ]
   rw [show i+1+t.length=i+(t.length+1) by omega]
   simp only [aV,pE,eH,List.nil_append]
  refine⟨?_,?_⟩
  ·show kV (gG Wd.ps (qL Wd.ps ws i c) (i+1) t)=_
   rw [e1,n1];exact key _ oQ
  ·show lC (gG Wd.ps (qL Wd.ps ws i c) (i+1) t)=_
   rw [e2,n2]
structure Dv.Live(σ:Dv):Prop where
 d:σ.down=false
 f:σ.fuse=0
theorem aMj(σ:Dv)(a:Int×Int×Int):(σ.push a).ws=σ.ws∧(σ.push a).down=σ.down∧(σ.push a).fuse=σ.fuse:=by
 unfold Dv.push
 split <;> exact⟨rfl,rfl,rfl⟩
theorem Dv.Live.act{σ:Dv}(h:σ.Live)(a:Int×Int×Int):(σ.act a).Live∧(σ.act a).ws=σ.ws∧σ.actE=0:=by
 have e:σ.act a=σ.push a:=by unfold Dv.act;rw [if_neg (by rw [h.f];decide)]
 obtain⟨h1,h2,h3⟩:=aMj σ a
 rw [e]
 exact⟨⟨h2.trans h.d,h3.trans h.f⟩,h1,by unfold Dv.actE;rw [if_neg (by rw [h.f];decide)]⟩
theorem Dv.Live.rdy{σ:Dv}(h:σ.Live){x n:Int}(hx:0≤x)(hn:0≤n)(hl:x+n≤σ.len):σ.rdy x n=0:=by
 unfold Dv.rdy
 rw [if_neg (by rw [h.d];decide),if_neg oQ]
theorem Dv.Live.store{σ:Dv}(h:σ.Live){i:Nat}{bs:List UInt8}(hl:i+bs.length≤σ.len):(σ.store i bs).Live∧(σ.store i bs).ws=gG Wd.ps σ.ws i bs∧σ.actR i bs.length=0:=by
 have hr:σ.rdy i bs.length=0:=h.rdy oQ oQ oQ
 obtain⟨h1,h2,h3⟩:=h.act (1,(i:Int),(bs.length:Int))
 unfold Dv.store Dv.actR
 rw [if_pos hr,if_pos h3,if_pos hr]
 exact⟨⟨h1.d,h1.f⟩,by show rE _ _ _=_;rw [h2,aU,aDN],h3⟩
theorem Dv.Live.flush{σ:Dv}(h:σ.Live){i n:Nat}(hl:i+n≤σ.len):(σ.flush i n).Live∧(σ.flush i n).ws=kO σ.ws i n∧σ.actR i n=0:=by
 have hr:σ.rdy i n=0:=h.rdy oQ oQ oQ
 obtain⟨h1,h2,h3⟩:=h.act (2,(i:Int),(n:Int))
 unfold Dv.flush Dv.actR
 rw [if_pos hr,if_pos h3,if_pos hr]
 exact⟨⟨h1.d,h1.f⟩,by show kO _ _ _=_;rw [h2,aU,aU],h3⟩
theorem Dv.Live.fence{σ:Dv}(h:σ.Live):σ.fence.Live∧σ.fence.ws=σ.ws.map Wd.fenced∧σ.actR 0 0=0:=by
 have hr:σ.rdy 0 0=0:=h.rdy oQ oQ oQ
 obtain⟨h1,h2,h3⟩:=h.act (3,0,0)
 unfold Dv.fence Dv.actR
 rw [if_pos hr,if_pos h3,if_pos hr]
 exact⟨⟨h1.d,h1.f⟩,by show List.map _ _=_;rw [h2],h3⟩
theorem aGs(ws:List Wd)(i n:Nat):kV (kO ws i n)=kV ws∧lC (kO ws i n)=lC ws:=by
 unfold kO
 split
 ·exact⟨rfl,rfl⟩
 ·exact⟨aAv (h:=Wd.flushed) Wd.now (fun w=>rfl) _ _ _,aAv (h:=Wd.flushed) Wd.lasts (fun w=>rfl) _ _ _⟩
def Wd.Q(w:Wd):Prop:=w.pend=false→w.lasts=w.now
theorem aGr{ws:List Wd}(h:∀ w∈ws,w.Q∧w.mark=w.pend):kV (ws.map Wd.fenced)=kV ws∧lC (ws.map Wd.fenced)=kV ws:=by
 induction ws with
 | nil=>exact⟨rfl,rfl⟩
 | cons w t ih=>
  obtain⟨i1,i2⟩:=ih (fun x hx=>h x (by simp [hx]))
  obtain⟨hq,hm⟩:=h w (by simp)
  unfold kV lC at *
  simp only [dK,dE,i1,i2,zH,true_and]
  congr 1
  unfold Wd.fenced
  cases hp:w.mark
  ·exact hq (by rw [← hm,hp])
  ·rfl
end Go.Proofs.YtnhnpjokpelkbaaGreat
