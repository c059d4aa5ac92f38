/- The document's own device: Store, Load, Pending, Tamper. -/
import Derived.Test.YtmceanmblcadcaaGreatPn17
import Derived.Test.YtmceanmblcadcaaGreatPn16
set_option linter.unusedVariables false
set_option linter.unusedSimpArgs false
set_option linter.unusedSectionVars false
set_option maxHeartbeats 1000000
namespace Go.Proofs.YtmceanmblcadcaaGreat
open Go Go.Proofs.Tryz
theorem aGL(ws:List Wd):rn ws=(lQ ws).map bv:=by simp [rn,lQ,List.map_flatMap]
theorem aLk{α:Type}(f:Wd→List α){ws:List Wd}(hf:∀ w∈ws,(f w).length=8){i:Nat}{u u':Wd}(hu:ws[i/8]?=some u)(c:α)(h8:(f u').length=8)(h:(f u).set (i%8) c=f u'):(ws.flatMap f).set i c=(ws.set (i/8) u').flatMap f:=by
 have hm:i/8<ws.length:=(aD.1 hu).1
 have hf':∀ w∈ws.set (i/8) u',(f w).length=8:=fun w hw=>by
  rcases iV hw with hw|rfl
  ·exact hf w hw
  ·exact h8
 have hl1:=yW f hf
 have hl2:=yW f hf'
 rw [cT] at hl2
 apply cJ
 intro k
 by_cases hk:k<8*ws.length
 ·obtain⟨x,hx⟩:∃ x,ws[k/8]?=some x:=⟨_,aA oQ⟩
  have hj:k%8<8:=Nat.mod_lt _ dQ
  have e:k/8*8+k%8=k:=oQ
  have g1:=fmU f hf hx hj
  rw [e] at g1
  rw [fD,hl1]
  by_cases hki:i/8=k/8
  ·have hx':(ws.set (i/8) u')[k/8]?=some u':=by rw [← hki];exact List.getElem?_set_self hm
   have g2:=fmU f hf' hx' hj
   rw [e] at g2
   rw [← hki,hu] at hx
   cases hx
   rw [g2,← h,fD,g1,hf u (aQ hu)]
   by_cases hik:i=k
   ·subst hik;simp [hj];omega
   ·have:i%8≠k%8:=oQ
    simp [hik,this]
  ·have hx':(ws.set (i/8) u')[k/8]?=some x:=by rw [List.getElem?_set_ne hki];exact hx
   have g2:=fmU f hf' hx' hj
   rw [e] at g2
   rw [g2,g1,if_neg (by intro e2;exact hki (by rw [e2]))]
 ·rw [bE (by rw [cT];omega),bE oQ]
theorem aCJ{ws:List Wd}(hok:∀ w∈ws,w.Ok){i:Nat}{u u':Wd}(hu:ws[i/8]?=some u)(c:UInt8)(h:u.now.set (i%8) c=u'.now):(lQ ws).set i c=lQ (ws.set (i/8) u'):=
 aLk Wd.now (fun w hw=>(hok w hw).1.2) hu c (by rw [← h,cT];exact (hok u (aQ hu)).1.2) h
theorem aBA{α:Type}(f:Wd→α){ws:List Wd}{m:Nat}{u u':Wd}(hu:ws[m]?=some u)(h:f u'=f u):(ws.set m u').map f=ws.map f:=by
 rw [gC,h]
 apply cJ
 intro k
 rw [fD]
 split
 ·rename_i e;subst e
  split
  ·rw [aL,hu];rfl
  ·rename_i h2;simp [(aD.1 hu).1] at h2
 ·rfl
theorem yB{α:Type}(f:Wd→List α){ws:List Wd}{m:Nat}{u u':Wd}(hu:ws[m]?=some u)(h:f u'=f u):(ws.set m u').flatMap f=ws.flatMap f:=by
 rw [fM,fM,aBA f hu h]
def Wd.ps(j:Nat)(c:UInt8)(w:Wd):Wd:=(w.put j c).stored
theorem Wd.ps_ok(j:Nat)(c:UInt8){w:Wd}(h:w.Ok):(w.ps j c).Ok:=Wd.stored_ok (Wd.put_ok j c h)
theorem aBf(ws:List Wd)(i:Nat)(bs:List UInt8):nS ws i bs=gP Wd.ps ws i bs:=by
 have key:∀ l:List UInt8,gP Wd.ps ws i l=gV Wd.stored (i/8) (if l.length=0 then i/8 else (i+l.length-1)/8+1) (gP Wd.put ws i l):=by
  intro l
  induction hn:l.length generalizing l with
  | zero=>
   have:l=[]:=cE hn
   subst this
   show ws=gV _ _ _ ws
   rw [if_pos rfl,oH]
  | succ n ih=>
   obtain⟨l',c,rfl⟩:∃ l' c,l=l'++[c]:=⟨l.dropLast,l.getLast (by intro h;subst h;simp at hn),(List.dropLast_concat_getLast _).symm⟩
   have hl':l'.length=n:=by simp at hn;exact hn
   rw [qN,qN,ih l' hl',hl',if_neg (Nat.succ_ne_zero n)]
   unfold qM
   have e:(i+(n+1)-1)/8=(i+n)/8:=by congr 1
   rw [e]
   apply cJ
   intro k
   simp only [kP,gV,eU]
   cases hk:(gP Wd.put ws i l')[k]? with
   | none=>simp
   | some u=>
    simp only [Option.map_some,pJ,dA]
    by_cases hm:(i+n)/8=k
    ·subst hm
     rw [if_pos rfl,if_pos (c:=i/8≤(i+n)/8∧(i+n)/8<(i+n)/8+1) ⟨by omega,by omega⟩]
     try rw [if_pos rfl]
     by_cases h1:i/8≤(i+n)/8∧(i+n)/8<(if n=0 then i/8 else (i+n-1)/8+1)
     ·rw [if_pos h1];rfl
     ·rw [if_neg h1];rfl
    ·rw [if_neg hm,if_neg hm]
     have:(i/8≤k∧k<(if n=0 then i/8 else (i+n-1)/8+1))↔(i/8≤k∧k<(i+n)/8+1):=by
      split <;> omega
     simp only [this,id]
 unfold nS
 rw [key bs]
 split
 ·rename_i h0
  have:bs=[]:=cE h0
  subst this
  exact (oH _ _ _).symm
 ·rfl
section
attribute [local irreducible] SW SL SQ SH SA SS Pu Fin bU aP
theorem aGO{p:Nat}{σ:Dv}{H:Hp}(hD:jY p σ H)(x:Int)(v:Value)(bs:List UInt8)(hbs:bs.length≤1048576):Tri prog 220 [.pointer (some ⟨p,0,none⟩),.int .i64 x,v] H (fun w=>Rd (H.map Prod.fst) w 1 v (bs.map bv))
  (fun v' H'=>v'=.int .i64 (σ.actR x bs.length)∧jY p (σ.store x bs) H'):=by
 have hr:=tH hD x bs.length
 refine Tri.mk func220 rfl ntmps220 rfl fun w hw=>?_
 obtain⟨aa,len,cap,rfl,hlen,hcap,hrd⟩:=hw.get
 rw [aJ,Nat.mul_one] at hlen
 subst hlen
 refine W.k ?_
 refine W.cq hr ?_
 by_cases h0:σ.rdy x bs.length=0
 ·obtain⟨hdn,hx0,-,hn,hxn⟩:=oZ h0
  have ha:=aBK hD hdn 1 x bs.length
  rw [h0]
  refine W.k ?_
  refine aH ha ?_
  rintro _ H1 ⟨rfl,hD1⟩
  by_cases h1:σ.actE=0
  ·rw [h1]
   refine W.k ?_
   have hwl:(σ.act (1,x,bs.length)).ws.length=σ.ws.length:=nQ _ _
   have hres:σ.store x bs=(σ.act (1,x,bs.length)).setWs (nS (σ.act (1,x,bs.length)).ws x.toNat bs):=by unfold Dv.store;rw [if_pos h0,if_pos h1]
   have hresE:σ.actR x bs.length=0:=by unfold Dv.actR;rw [if_pos h0,h1]
   rw [hres,hresE,aBf]
   have hlen:σ.len=8*σ.ws.length:=rfl
   generalize σ.act (1,x,bs.length)=τ at hD1 hwl ⊢
   obtain⟨i,rfl⟩:∃ i:Nat,x=i:=⟨x.toNat,by omega⟩
   rw [aX]
   have hN:=hD1.1.n
   have hlenτ:τ.len=8*τ.ws.length:=rfl
   obtain⟨hO,bl,bn,bp,bm,vp,va,Hq,Ha,h2,h3,rfl⟩:=hD1
   refine bX [0,1,25,26] [bn,bp,bm] (fun k:Nat=>[(27,.int .i64 k)]) (fun k=>[(bn,cl (rn (gP Wd.ps τ.ws i (bs.take k))) 5),(bp,cl (rp (gP Wd.ps τ.ws i (bs.take k))) 4),(bm,cl (rm (gP Wd.ps τ.ws i (bs.take k))) 4)]) (fun k=>bs.length-k) (fun k=>k≤bs.length∧rl (gP Wd.ps τ.ws i (bs.take k))=rl τ.ws) 0 ⟨Nat.zero_le _,rfl⟩ ?_
   rintro k ⟨hk,hrl⟩
   have hok:=yY (fun j c w=>Wd.ps_ok j c) (bs.take k) τ.ws i hO.ok
   have hml:=nG Wd.ps (bs.take k) τ.ws i
   have l1:=aDB hok
   have l2:=rL (gP Wd.ps τ.ws i (bs.take k))
   have l3:=tD (gP Wd.ps τ.ws i (bs.take k))
   by_cases hkl:k<bs.length
   ·obtain⟨b,o,l,T,fz,rfl,hb,hbk,hys⟩:=hrd oQ
    obtain⟨c,hc⟩:∃ c,bs[k]?=some c:=⟨_,aA hkl⟩
    have hlc:l[o+k]?=some (bv c):=aAF hys (by simp [hc])
    have hm:(i+k)/8<(gP Wd.ps τ.ws i (bs.take k)).length:=oQ
    have hi1:i+k<(rn (gP Wd.ps τ.ws i (bs.take k))).length:=oQ
    have hi2:(i+k)/8<(rp (gP Wd.ps τ.ws i (bs.take k))).length:=oQ
    have hi3:(i+k)/8<(rm (gP Wd.ps τ.ws i (bs.take k))).length:=oQ
    obtain⟨u,hu⟩:∃ u,(gP Wd.ps τ.ws i (bs.take k))[(i+k)/8]?=some u:=⟨_,aA hm⟩
    have hsn:gP Wd.ps τ.ws i (bs.take (k+1))=(gP Wd.ps τ.ws i (bs.take k)).set ((i+k)/8) (u.ps ((i+k)%8) c):=by
     rw [bG,hc,dT,qN,aI,cU hk]
     exact vD _ hu
    have e1:(rn (gP Wd.ps τ.ws i (bs.take k))).set (i+k) (bv c)=rn (gP Wd.ps τ.ws i (bs.take (k+1))):=by
     rw [hsn,aGL,aGL,← gC,aCJ hok hu c (u':=u.ps ((i+k)%8) c) rfl]
    have e2:(rp (gP Wd.ps τ.ws i (bs.take k))).set ((i+k)/8) (.bool true)=rp (gP Wd.ps τ.ws i (bs.take (k+1))):=by
     rw [hsn];unfold rp;rw [gC];rfl
    have e3:(rm (gP Wd.ps τ.ws i (bs.take k))).set ((i+k)/8) (.bool false)=rm (gP Wd.ps τ.ws i (bs.take (k+1))):=by
     rw [hsn];unfold rm;rw [gC];rfl
    have e4:rl (gP Wd.ps τ.ws i (bs.take (k+1)))=rl τ.ws:=by
     rw [hsn,← hrl];exact yB _ hu rfl
    refine W.k ?_
    rw [e1,e2,e3]
    refine aP.mk (k+1) ?_
    exact⟨by omega,e4⟩
   ·have:k=bs.length:=oQ
    subst this
    rw [cK] at hrl hok hml ⊢
    refine W.k ?_
    refine Fin.perm (H':=(p,cl [.slice (some ⟨bl,0,none⟩) τ.len τ.len,.slice (some ⟨bn,0,none⟩) τ.len τ.len,.slice (some ⟨bp,0,none⟩) τ.ws.length τ.ws.length,.slice (some ⟨bm,0,none⟩) τ.ws.length τ.ws.length,.bool τ.down,.int .i64 τ.fuse,vp,va] 213)::(bl,cl (rl τ.ws) 5)::(bn,cl (rn (gP Wd.ps τ.ws i bs)) 5)::(bp,cl (rp (gP Wd.ps τ.ws i bs)) 4)::(bm,cl (rm (gP Wd.ps τ.ws i bs)) 4)::(Hq++Ha)) ?_ (F.f1 ?_)
    ·simp only [aE]
     exact (bT (l₁:=[_,_,_]) (l₂:=_::_::(Hq++Ha))).trans (((bT (l₁:=Hq++Ha)).cons _).cons _)
    refine⟨rfl,Dv.setWs_ok hO hml hok,bl,bn,bp,bm,vp,va,Hq,Ha,h2,h3,?_⟩
    simp [Dv.setWs,Dv.len,hml,hrl]
  ·refine W.k ?_
   refine F.f1 ?_
   have hres:σ.store x bs=σ.act (1,x,bs.length):=by unfold Dv.store;rw [if_pos h0,if_neg h1]
   have hresE:σ.actR x bs.length=σ.actE:=by unfold Dv.actR;rw [if_pos h0]
   rw [hres,hresE];refine⟨rfl,?_⟩;simp only [aE];exact hD1
 ·refine W.k ?_
  refine F.f1 ?_
  have hres:σ.store x bs=σ:=by unfold Dv.store;rw [if_neg h0]
  have hresE:σ.actR x bs.length=σ.rdy x bs.length:=by unfold Dv.actR;rw [if_neg h0]
  rw [hres,hresE];refine⟨rfl,?_⟩;simp only [aE];exact hD
theorem aIf{p:Nat}{σ:Dv}{H:Hp}(hD:jY p σ H)(x n:Int):Tri prog 272 [.pointer (some ⟨p,0,none⟩),.int .i64 x,.int .i64 n] H (fun _=>True)
  (fun v' H'=>∃ sv Hs,v'=.tuple #[sv,.int .i64 (σ.rdy x n)]∧Sl 5 1 sv ((σ.loadB x n).map bv) Hs∧H'=Hs++H):=by
 have hr:=tH hD x n
 refine Tri.mk func272 rfl ntmps272 rfl fun w hw=>?_
 refine W.k ?_
 refine W.cq hr ?_
 by_cases h0:σ.rdy x n=0
 ·obtain⟨hdn,hx0,hn0,hn,hxn⟩:=oZ h0
  have hb:σ.loadB x n=((lQ σ.ws).drop x.toNat).take n.toNat:=by unfold Dv.loadB;rw [if_pos h0]
  rw [h0,hb]
  have hlen:σ.len=8*σ.ws.length:=rfl
  obtain⟨i,rfl⟩:∃ i:Nat,x=i:=⟨x.toNat,by omega⟩
  obtain⟨m,rfl⟩:∃ m:Nat,n=m:=⟨n.toNat,by omega⟩
  rw [aX,aX]
  have hN:=hD.1.n
  obtain⟨hO,bl,bn,bp,bm,vp,va,Hq,Ha,h2,h3,rfl⟩:=hD
  have hnl:=tB hO.ok
  have hml:(((lQ σ.ws).drop i).take m).length=m:=by simp;omega
  by_cases hlt:i<σ.len
  ·refine W.k fun b_=>?_
   refine W.ap (xs:=[]) (ys:=(((lQ σ.ws).drop i).take m).map bv) (mm:=m) (Hs:=[(b_,cl [] 5)]) (.inr ⟨b_,0,0,[],rfl,rfl,rfl,Nat.le_refl _,rfl⟩) (fun w2 hs=>?_) (fun v2 Hs2 hv2=>?_) (hys:=by simp;omega) (hbytes:=by simp;omega)
   ·have e:i+m-i=m:=oQ
    rw [e]
    refine eJ.own hs (b:=bn) (l:=rn σ.ws) (by rw [aGL,Nat.mul_one,iG,jH]) (by simp;omega)
   refine W.k ?_
   refine F.f2 ?_
   refine⟨v2,Hs2,rfl,hv2,?_⟩
   simp
  ·refine W.k fun b_=>?_
   have hm0:m=0:=oQ
   subst hm0
   refine bD (mK (l:=i) (h:=i) rfl rfl (.inr ⟨_,_,_,rfl,rfl,rfl⟩) (.inr ⟨_,_,_,rfl,rfl,by simp⟩) (Nat.le_refl _) oQ (vl:=none) (vh:=none)) rfl rfl ?_
   rw [cZ]
   refine W.ap (xs:=[]) (ys:=[]) (mm:=0) (Hs:=[(b_,cl [] 5)]) (.inr ⟨b_,0,0,[],rfl,rfl,rfl,Nat.le_refl _,rfl⟩) (fun w2 hs=>eJ.empty _ _ _ _) (fun v2 Hs2 hv2=>?_) (hys:=rfl) (hbytes:=by simp)
   refine W.k ?_
   refine F.f2 ?_
   refine⟨v2,Hs2,rfl,by simpa using hv2,?_⟩
   simp
 ·have hb:σ.loadB x n=[]:=by unfold Dv.loadB;rw [if_neg h0]
  refine W.k ?_
  refine F.f2 ?_
  refine⟨_,[],rfl,?_,by simp⟩
  rw [hb];exact Sl.nil _ _
theorem aCF{α:Type}{h:Wd→Wd}(f:Wd→α)(hf:∀ w,f (h w)=f w)(x y:Nat)(ws:List Wd):(gV h x y ws).map f=ws.map f:=by
 apply cJ
 intro i
 simp only [gV,aL,eU]
 cases ws[i]? with
 | none=>rfl
 | some w=>
  simp only [Option.map_some,dA]
  split
  ·exact hf w
  ·rfl
theorem wC{α:Type}{h:Wd→Wd}(f:Wd→List α)(hf:∀ w,f (h w)=f w)(x y:Nat)(ws:List Wd):(gV h x y ws).flatMap f=ws.flatMap f:=by
 rw [fM,fM,aCF f hf]
theorem aDk{ws:List Wd}{X y w:Nat}{u:Wd}(h1:X≤w)(h2:w≤y)(hu:ws[w]?=some u):(rm (gV Wd.flushed X y ws)).set w (.bool u.pend)=rm (gV Wd.flushed X (max y (w+1)) ws):=by
 have hw:w<ws.length:=(aD.1 hu).1
 apply cJ
 intro k
 simp only [rm,gV,fD,aJ,List.length_mapIdx,aL,eU]
 by_cases hk:w=k
 ·subst hk
  rw [if_pos rfl,if_pos hw,hu]
  simp only [Option.map_some,dA]
  rw [if_pos oQ];rfl
 ·rw [if_neg hk]
  cases ws[k]? with
  | none=>rfl
  | some x=>
   simp only [Option.map_some,dA]
   have:(X≤k∧k<y)↔(X≤k∧k<max y (w+1)):=oQ
   simp only [this]
def sH(i t:Nat):Nat:=if t=i then i/64*8 else ((t-1)/64+1)*8
theorem aGI{p:Nat}{σ:Dv}{H:Hp}(hD:jY p σ H)(h8:σ.ws.length%8=0)(x n:Int):Tri prog 221 [.pointer (some ⟨p,0,none⟩),.int .i64 x,.int .i64 n] H (fun _=>True)
  (fun v' H'=>v'=.int .i64 (σ.actR x n)∧jY p (σ.flush x n) H'):=by
 have hr:=tH hD x n
 refine Tri.mk func221 rfl ntmps221 rfl fun w hw=>?_
 refine W.k ?_
 refine W.cq hr ?_
 by_cases h0:σ.rdy x n=0
 ·obtain⟨hdn,hx0,hn0,hn,hxn⟩:=oZ h0
  have ha:=aBK hD hdn 2 x n
  rw [h0]
  refine W.k ?_
  refine aH ha ?_
  rintro _ H1 ⟨rfl,hD1⟩
  by_cases h1:σ.actE=0
  ·rw [h1]
   refine W.k ?_
   have hwl:(σ.act (2,x,n)).ws.length=σ.ws.length:=nQ _ _
   have hres:σ.flush x n=(σ.act (2,x,n)).setWs (jP (σ.act (2,x,n)).ws x.toNat n.toNat):=by unfold Dv.flush;rw [if_pos h0,if_pos h1]
   have hresE:σ.actR x n=0:=by unfold Dv.actR;rw [if_pos h0,h1]
   rw [hres,hresE]
   have hlen:σ.len=8*σ.ws.length:=rfl
   generalize σ.act (2,x,n)=τ at hD1 hwl ⊢
   obtain⟨i,rfl⟩:∃ i:Nat,x=i:=⟨x.toNat,by omega⟩
   obtain⟨m,rfl⟩:∃ m:Nat,n=m:=⟨n.toNat,by omega⟩
   rw [aX,aX]
   have hN:=hD1.1.n
   have hlenτ:τ.len=8*τ.ws.length:=rfl
   obtain⟨hO,bl,bn,bp,bm,vp,va,Hq,Ha,h2,h3,rfl⟩:=hD1
   refine bX [0,1,2] [bm] (fun t:Nat=>[(8,.int .i64 t)]) (fun t=>[(bm,cl (rm (gV Wd.flushed (i/64*8) (sH i t) τ.ws)) 4)]) (fun t=>i+m-t) (fun t=>i≤t∧t≤i+m) i ⟨Nat.le_refl _,by omega⟩ ?_ (by rw [sH,if_pos rfl,oH])
   rintro t ⟨ht1,ht2⟩
   have hu1:t/64*8≤sH i t:=by unfold sH;split <;> omega
   have hu2:sH i t≤(t/64+1)*8:=by unfold sH;split <;> omega
   have hu3:sH i (t+1)=(t/64+1)*8:=by unfold sH;rw [if_neg oQ];rfl
   by_cases htl:t<i+m
   ·refine W.j ?_
    refine SW.cut [0,1,2,8] [bm] (fun _:Unit=>[]) (fun _=>[(bm,cl (rm (gV Wd.flushed (i/64*8) (sH i (t+1)) τ.ws)) 4)]) (fun _=>True) ?_ ?_
    ·refine W.k ?_
     refine bX [0,1,2,8] [bm] (fun j:Nat=>[(9,.int .i64 j)]) (fun j=>[(bm,cl (rm (gV Wd.flushed (i/64*8) (max (sH i t) (t/64*8+j)) τ.ws)) 4)]) (fun j=>8-j) (fun j=>j≤8) 0 (Nat.zero_le _) ?_ (by rw [jD,Nat.max_eq_left hu1])
     intro j hj
     by_cases hj8:j<8
     ·have hw:t/64*8+j<τ.ws.length:=oQ
      obtain⟨u,hu⟩:∃ u,τ.ws[t/64*8+j]?=some u:=⟨_,aA hw⟩
      have hp:(rp τ.ws)[t/64*8+j]?=some (.bool u.pend):=by unfold rp;rw [aL,hu];rfl
      have hst:=aDk (X:=i/64*8) (y:=max (sH i t) (t/64*8+j)) oQ oQ hu
      have hmx:max (max (sH i t) (t/64*8+j)) (t/64*8+j+1)=max (sH i t) (t/64*8+(j+1)):=oQ
      rw [hmx] at hst
      have hlt:t/64*8+j<(rm (gV Wd.flushed (i/64*8) (max (sH i t) (t/64*8+j)) τ.ws)).length:=by rw [tD,mI];exact hw
      refine W.k ?_
      (refine SW.l [13] [0,1,2,3,4,5,6,7,8,9,10,11,12] ?_;refine cQ 13 ?_;refine W.i ?_;refine eH ?_)
      rw [hst]
      refine W.k ?_
      refine aP.mk (j+1) ?_
      omega
     ·have:j=8:=oQ
      subst this
      have e:max (sH i t) (t/64*8+8)=sH i (t+1):=oQ
      rw [e]
      refine W.k ?_
      refine bU.mk () ?_
      trivial
    ·intro _ _
     refine W.k ?_
     refine aP.mk (t+1) ?_
     omega
   ·have:t=i+m:=oQ
    subst this
    have e:gV Wd.flushed (i/64*8) (sH i (i+m)) τ.ws=jP τ.ws i m:=by
     unfold jP sH
     by_cases hm:m=0
     ·subst hm;rw [if_pos oQ,if_pos rfl,oH]
     ·rw [if_neg oQ,if_neg hm]
    have hfl:(jP τ.ws i m).length=τ.ws.length:=by rw [← e,mI]
    have hfo:∀ w∈jP τ.ws i m,w.Ok:=by rw [← e];exact tT (fun w=>Wd.flushed_ok) _ _ hO.ok
    have q1:rl (jP τ.ws i m)=rl τ.ws:=by rw [← e];exact wC (h:=Wd.flushed) (fun w=>w.lasts.map bv) (fun w=>rfl) _ _ _
    have q2:rn (jP τ.ws i m)=rn τ.ws:=by rw [← e];exact wC (h:=Wd.flushed) (fun w=>w.now.map bv) (fun w=>rfl) _ _ _
    have q3:rp (jP τ.ws i m)=rp τ.ws:=by rw [← e];exact aCF (h:=Wd.flushed) (fun w=>Value.bool w.pend) (fun w=>rfl) _ _ _
    rw [e]
    refine W.k ?_
    refine Fin.perm (H':=(p,cl [.slice (some ⟨bl,0,none⟩) τ.len τ.len,.slice (some ⟨bn,0,none⟩) τ.len τ.len,.slice (some ⟨bp,0,none⟩) τ.ws.length τ.ws.length,.slice (some ⟨bm,0,none⟩) τ.ws.length τ.ws.length,.bool τ.down,.int .i64 τ.fuse,vp,va] 213)::(bl,cl (rl τ.ws) 5)::(bn,cl (rn τ.ws) 5)::(bp,cl (rp τ.ws) 4)::(bm,cl (rm (jP τ.ws i m)) 4)::(Hq++Ha)) ?_ (F.f1 ?_)
    ·simp only [aE]
     exact (mP (l₁:=[_,_,_,_]) (a:=(bm,_)) (l₂:=Hq++Ha)).symm
    refine⟨rfl,Dv.setWs_ok hO hfl hfo,bl,bn,bp,bm,vp,va,Hq,Ha,h2,h3,?_⟩
    simp [Dv.setWs,Dv.len,hfl,q1,q2,q3]
  ·refine W.k ?_
   refine F.f1 ?_
   have hres:σ.flush x n=σ.act (2,x,n):=by unfold Dv.flush;rw [if_pos h0,if_neg h1]
   have hresE:σ.actR x n=σ.actE:=by unfold Dv.actR;rw [if_pos h0]
   rw [hres,hresE];refine⟨rfl,?_⟩;simp only [aE];exact hD1
 ·refine W.k ?_
  refine F.f1 ?_
  have hres:σ.flush x n=σ:=by unfold Dv.flush;rw [if_neg h0]
  have hresE:σ.actR x n=σ.rdy x n:=by unfold Dv.actR;rw [if_neg h0]
  rw [hres,hresE];refine⟨rfl,?_⟩;simp only [aE];exact hD
theorem zZ(w:Wd):w.fenced.now=w.now:=by unfold Wd.fenced;cases w.mark <;> rfl
theorem aJ7{ws:List Wd}{k:Nat}{u u':Wd}(hok:∀ w∈ws,w.Ok)(hu:ws[k]?=some u)(h:u'.lasts.length=8):(rl ws).take (8*k)++u'.lasts.map bv++(rl ws).drop (8*k+(u'.lasts.map bv).length)=rl (ws.set k u'):=by
 have hk:k<ws.length:=(aD.1 hu).1
 have hA:(rl (ws.take k)).length=8*k:=by rw [aDz (fun w hw=>hok w (eE hw)),aI];congr 1;omega
 have e:rl ws=rl (ws.take k)++(u.lasts.map bv++rl (ws.drop (k+1))):=sS _ ws k u hu
 have hx:(u.lasts.map bv).length=8:=by simpa using (hok u (aQ hu)).1.1
 rw [e,wO hA hx (by simpa using h)]
 exact (aDl _ ws k u' hk).symm
theorem aJ9{ws:List Wd}{k:Nat}{u:Wd}(hok:∀ w∈ws,w.Ok)(hu:ws[k]?=some u):((rn ws).drop (8*k)).take (8*1)=u.now.map bv:=by
 have hk:k<ws.length:=(aD.1 hu).1
 have hA:(rn (ws.take k)).length=8*k:=by rw [aDB (fun w hw=>hok w (eE hw)),aI];congr 1;omega
 have e:rn ws=rn (ws.take k)++(u.now.map bv++rn (ws.drop (k+1))):=sS _ ws k u hu
 rw [e,aGM hA (by simpa using (hok u (aQ hu)).1.2)]
theorem wG{p:Nat}{σ:Dv}{H:Hp}(hD:jY p σ H):Tri prog 183 [.pointer (some ⟨p,0,none⟩)] H (fun _=>True)
  (fun v' H'=>v'=.int .i64 (σ.actR 0 0)∧jY p σ.fence H'):=by
 have hr:=tH hD 0 0
 refine Tri.mk func183 rfl ntmps183 rfl fun w hw=>?_
 refine W.k ?_
 refine W.cq hr ?_
 by_cases h0:σ.rdy 0 0=0
 ·obtain⟨hdn,-⟩:=oZ h0
  have ha:=aBK hD hdn 3 0 0
  rw [h0]
  refine W.k ?_
  refine aH ha ?_
  rintro _ H1 ⟨rfl,hD1⟩
  by_cases h1:σ.actE=0
  ·rw [h1]
   have hres:σ.fence=(σ.act (3,0,0)).setWs ((σ.act (3,0,0)).ws.map Wd.fenced):=by unfold Dv.fence;rw [if_pos h0,if_pos h1]
   have hresE:σ.actR 0 0=0:=by unfold Dv.actR;rw [if_pos h0,h1]
   rw [hres,hresE]
   generalize σ.act (3,0,0)=τ at hD1 ⊢
   have hN:=hD1.1.n
   have hlenτ:τ.len=8*τ.ws.length:=rfl
   obtain⟨hO,bl,bn,bp,bm,vp,va,Hq,Ha,h2,h3,rfl⟩:=hD1
   refine W.k ?_
   refine bX [0,18] [bl,bp,bm] (fun k:Nat=>[(19,.int .i64 k)]) (fun k=>[(bl,cl (rl (gV Wd.fenced 0 k τ.ws)) 5),(bp,cl (rp (gV Wd.fenced 0 k τ.ws)) 4),(bm,cl (rm (gV Wd.fenced 0 k τ.ws)) 4)]) (fun k=>τ.ws.length-k) (fun k=>k≤τ.ws.length) 0 (Nat.zero_le _) ?_ (by rw [oH])
   intro k hk
   by_cases hkl:k<τ.ws.length
   ·obtain⟨u,hu⟩:∃ u,τ.ws[k]?=some u:=⟨_,aA hkl⟩
    have huO:=hO.ok u (aQ hu)
    obtain⟨hk2,hset⟩:=aA6 Wd.fenced 0 k τ.ws u (Nat.zero_le _) hu
    have hok2:=tT (fun w=>Wd.fenced_ok) 0 k hO.ok
    have hmk:(rm (gV Wd.fenced 0 k τ.ws))[k]?=some (.bool u.mark):=by unfold rm;rw [aL,hk2];rfl
    have hl2:=rL (gV Wd.fenced 0 k τ.ws)
    have hl3:=tD (gV Wd.fenced 0 k τ.ws)
    have hl1:=aDz hok2
    rw [mI] at hl1 hl2 hl3
    cases hm:u.mark
    ·rw [hm] at hmk
     have hfu:u.fenced=u:=by unfold Wd.fenced;rw [hm];rfl
     have hsame:gV Wd.fenced 0 (k+1) τ.ws=gV Wd.fenced 0 k τ.ws:=by
      rw [← hset,hfu]
      exact aGU hk2
     refine W.k ?_
     rw [← hsame]
     refine aP.mk (k+1) ?_
     omega
    ·rw [hm] at hmk
     have hfu:u.fenced={ lasts:=u.now,now:=u.now,pend:=false,mark:=false }:=by unfold Wd.fenced;rw [hm];rfl
     have hrow:=aJ9 hO.ok hu
     have e1:=aJ7 (u':=u.fenced) hok2 hk2 (by rw [hfu];exact huO.1.2)
     rw [hset] at e1
     have e2:(rp (gV Wd.fenced 0 k τ.ws)).set k (.bool false)=rp (gV Wd.fenced 0 (k+1) τ.ws):=by
      rw [← hset];unfold rp;rw [gC,hfu]
     have e3:(rm (gV Wd.fenced 0 k τ.ws)).set k (.bool false)=rm (gV Wd.fenced 0 (k+1) τ.ws):=by
      rw [← hset];unfold rm;rw [gC,hfu]
     have hn8:(u.now.map bv).length=8:=by simpa using huO.1.2
     have hlt2:k<(rp (gV Wd.fenced 0 k τ.ws)).length:=oQ
     have hlt3:k<(rm (gV Wd.fenced 0 k τ.ws)).length:=oQ
     refine W.k ?_
     (refine SW.l [20] [0,1,2,3,4,5,6,7,8] ?_;refine eW 9 rfl (aBH rfl rfl rfl rfl oQ oQ) ?_;refine SG.l [10,11,12,13,14,15,16,17,18] ?_;refine eW 19 rfl (aBH rfl rfl rfl rfl oQ oQ) ?_;refine cQ 20 ?_)
     rw [show 8*k+8-8*k=8 by omega]
     refine W.cy (mm:=8) (fun w2 hs=>eJ.own hs (b:=bn) hrow hn8) ?_ (hfit:=by omega)
     (refine bI [] ?_;refine eH ?_)
     rw [show u.now.map bv=u.fenced.lasts.map bv by rw [hfu],e1]
     refine W.k ?_
     rw [e2,e3]
     refine aP.mk (k+1) ?_
     omega
   ·have:k=τ.ws.length:=oQ
    subst this
    have hfl:(gV Wd.fenced 0 τ.ws.length τ.ws).length=τ.ws.length:=mI _ _ _ _
    have hfo:=tT (fun w=>Wd.fenced_ok) 0 τ.ws.length hO.ok
    have q2:rn (gV Wd.fenced 0 τ.ws.length τ.ws)=rn τ.ws:=wC (h:=Wd.fenced) (fun w=>w.now.map bv) (fun w=>by rw [zZ]) _ _ _
    refine W.k ?_
    rw [aCE] at hfl hfo q2 ⊢
    refine Fin.to ((p,cl [.slice (some ⟨bl,0,none⟩) τ.len τ.len,.slice (some ⟨bn,0,none⟩) τ.len τ.len,.slice (some ⟨bp,0,none⟩) τ.ws.length τ.ws.length,.slice (some ⟨bm,0,none⟩) τ.ws.length τ.ws.length,.bool τ.down,.int .i64 τ.fuse,vp,va] 213)::(bl,cl (rl (τ.ws.map Wd.fenced)) 5)::(bn,cl (rn τ.ws) 5)::(bp,cl (rp (τ.ws.map Wd.fenced)) 4)::(bm,cl (rm (τ.ws.map Wd.fenced)) 4)::(Hq++Ha)) ?_
    refine F.f1 ?_
    refine⟨rfl,Dv.setWs_ok hO hfl hfo,bl,bn,bp,bm,vp,va,Hq,Ha,h2,h3,?_⟩
    simp [Dv.setWs,Dv.len,q2]
  ·refine W.k ?_
   refine F.f1 ?_
   have hres:σ.fence=σ.act (3,0,0):=by unfold Dv.fence;rw [if_pos h0,if_neg h1]
   have hresE:σ.actR 0 0=σ.actE:=by unfold Dv.actR;rw [if_pos h0]
   rw [hres,hresE];refine⟨rfl,?_⟩;simp only [aE];exact hD1
 ·refine W.k ?_
  refine F.f1 ?_
  have hres:σ.fence=σ:=by unfold Dv.fence;rw [if_neg h0]
  have hresE:σ.actR 0 0=σ.rdy 0 0:=by unfold Dv.actR;rw [if_neg h0]
  rw [hres,hresE];refine⟨rfl,?_⟩;simp only [aE];exact hD
end
theorem aA7{f:Nat→UInt8→Wd→Wd}{J:Wd→Prop}(hf:∀ j c w,J w→J (f j c w)):∀ (bs:List UInt8) (ws:List Wd) (i:Nat),(∀ w∈ws,J w)→∀ w∈gP f ws i bs,J w
 | [],ws,i,h=>h
 | c::t,ws,i,h=>aA7 hf t _ _ (fun w hw=>by
   unfold qM at hw
   obtain⟨k,hk⟩:=dI.1 hw
   rw [kP] at hk
   cases hu:ws[k]? with
   | none=>rw [hu] at hk;simp at hk
   | some u=>
    rw [hu] at hk
    have hm:=h u (aQ hu)
    simp only [pJ,Option.map_some,dA] at hk
    rw [← hk]
    split
    ·exact hf _ _ u hm
    ·exact hm)
def spl(l:List UInt8)(i:Nat)(bs:List UInt8):List UInt8:=l.take i++bs++l.drop (i+bs.length)
theorem aEf:∀ (bs:List UInt8) (ws:List Wd) (i:Nat),(∀ w∈ws,w.Ok)→i+bs.length≤8*ws.length →
  lQ (gP Wd.ps ws i bs)=spl (lQ ws) i bs∧aAd (gP Wd.ps ws i bs)=aAd ws
 | [],ws,i,_,_=>by simp [gP,spl]
 | c::t,ws,i,hok,hl=>by
  simp only [aY] at hl
  have hm:i/8<ws.length:=oQ
  obtain⟨u,hu⟩:∃ u,ws[i/8]?=some u:=⟨_,aA hm⟩
  have hB:qM Wd.ps ws i c=ws.set (i/8) (u.ps (i%8) c):=vD _ hu
  have hok2:∀ w∈qM Wd.ps ws i c,w.Ok:=by unfold qM;exact aA8 (fun w=>Wd.ps_ok _ _) _ hok
  obtain⟨e1,e2⟩:=aEf t (qM Wd.ps ws i c) (i+1) hok2 (by rw [aCH];omega)
  have n1:lQ (qM Wd.ps ws i c)=(lQ ws).set i c:=by rw [hB];exact (aCJ hok hu c rfl).symm
  have n2:aAd (qM Wd.ps ws i c)=aAd ws:=by rw [hB];exact yB _ hu rfl
  have l1:=tB hok
  have key:∀ (l:List UInt8),i<l.length→(l.set i c).take (i+1)++t++(l.set i c).drop (i+1+t.length)=l.take i++(c::t)++l.drop (i+(t.length+1)):=fun l hi=>by
   rw [List.take_set,bG,aA hi,dT,bL _ _ (by simp;omega)]
   have e:i-(l.take i).length=0:=by simp;omega
   rw [e,fH,List.drop_set_of_lt oQ]
   rw [show i+1+t.length=i+(t.length+1) by omega]
   simp only [bF,mO,eD,List.nil_append]
  refine⟨?_,?_⟩
  ·show lQ (gP Wd.ps (qM Wd.ps ws i c) (i+1) t)=_
   rw [e1,n1];exact key _ oQ
  ·show aAd (gP Wd.ps (qM Wd.ps ws i c) (i+1) t)=_
   rw [e2,n2]
structure Dv.Live(σ:Dv):Prop where
 d:σ.down=false
 f:σ.fuse=0
theorem aH7(σ:Dv)(a:Int×Int×Int):(σ.push a).ws=σ.ws∧(σ.push a).down=σ.down∧(σ.push a).fuse=σ.fuse:=by
 unfold Dv.push
 split <;> exact⟨rfl,rfl,rfl⟩
theorem Dv.Live.act{σ:Dv}(h:σ.Live)(a:Int×Int×Int):(σ.act a).Live∧(σ.act a).ws=σ.ws∧σ.actE=0:=by
 have e:σ.act a=σ.push a:=by unfold Dv.act;rw [if_neg (by rw [h.f];decide)]
 obtain⟨h1,h2,h3⟩:=aH7 σ a
 rw [e]
 exact⟨⟨h2.trans h.d,h3.trans h.f⟩,h1,by unfold Dv.actE;rw [if_neg (by rw [h.f];decide)]⟩
theorem Dv.Live.rdy{σ:Dv}(h:σ.Live){x n:Int}(hx:0≤x)(hn:0≤n)(hl:x+n≤σ.len):σ.rdy x n=0:=by
 unfold Dv.rdy
 rw [if_neg (by rw [h.d];decide),if_neg oQ]
theorem Dv.Live.store{σ:Dv}(h:σ.Live){i:Nat}{bs:List UInt8}(hl:i+bs.length≤σ.len):(σ.store i bs).Live∧(σ.store i bs).ws=gP Wd.ps σ.ws i bs∧σ.actR i bs.length=0:=by
 have hr:σ.rdy i bs.length=0:=h.rdy oQ oQ oQ
 obtain⟨h1,h2,h3⟩:=h.act (1,(i:Int),(bs.length:Int))
 unfold Dv.store Dv.actR
 rw [if_pos hr,if_pos h3,if_pos hr]
 exact⟨⟨h1.d,h1.f⟩,by show nS _ _ _=_;rw [h2,aX,aBf],h3⟩
theorem Dv.Live.flush{σ:Dv}(h:σ.Live){i n:Nat}(hl:i+n≤σ.len):(σ.flush i n).Live∧(σ.flush i n).ws=jP σ.ws i n∧σ.actR i n=0:=by
 have hr:σ.rdy i n=0:=h.rdy oQ oQ oQ
 obtain⟨h1,h2,h3⟩:=h.act (2,(i:Int),(n:Int))
 unfold Dv.flush Dv.actR
 rw [if_pos hr,if_pos h3,if_pos hr]
 exact⟨⟨h1.d,h1.f⟩,by show jP _ _ _=_;rw [h2,aX,aX],h3⟩
theorem Dv.Live.fence{σ:Dv}(h:σ.Live):σ.fence.Live∧σ.fence.ws=σ.ws.map Wd.fenced∧σ.actR 0 0=0:=by
 have hr:σ.rdy 0 0=0:=h.rdy oQ oQ oQ
 obtain⟨h1,h2,h3⟩:=h.act (3,0,0)
 unfold Dv.fence Dv.actR
 rw [if_pos hr,if_pos h3,if_pos hr]
 exact⟨⟨h1.d,h1.f⟩,by show List.map _ _=_;rw [h2],h3⟩
theorem aDj(ws:List Wd)(i n:Nat):lQ (jP ws i n)=lQ ws∧aAd (jP ws i n)=aAd ws:=by
 unfold jP
 split
 ·exact⟨rfl,rfl⟩
 ·exact⟨wC (h:=Wd.flushed) Wd.now (fun w=>rfl) _ _ _,wC (h:=Wd.flushed) Wd.lasts (fun w=>rfl) _ _ _⟩
end Go.Proofs.YtmceanmblcadcaaGreat
