/- The document's own device: Store, Load, Pending, Tamper. -/
import Derived.Test.YtnhnpjokpelkbaaGreatPp18
import Derived.Test.YtnhnpjokpelkbaaGreatPp19
set_option linter.unusedVariables false
set_option linter.unusedSimpArgs false
set_option linter.unusedSectionVars false
set_option maxHeartbeats 1000000
namespace Go.Proofs.YtnhnpjokpelkbaaGreat
open Go Go.Proofs.Tryz
theorem aDA(ws:List Wd):rn ws=(lZ ws).map bv:=by simp [rn,lZ,List.map_flatMap]
theorem aKy(ws:List Wd):rl ws=(lE ws).map bv:=by simp [rl,lE,List.map_flatMap]
theorem aO5{α:Type}(f:Wd→List α){ws:List Wd}(hf:∀ w∈ws,(f w).length=8){i:Nat}{u u':Wd}(hu:ws[i/8]?=some u)(c:α)(h8:(f u').length=8)(h:(f u).set (i%8) c=f u'):(ws.flatMap f).set i c=(ws.set (i/8) u').flatMap f:=by
 have hm:i/8<ws.length:=(aE.1 hu).1
 have hf':∀ w∈ws.set (i/8) u',(f w).length=8:=fun w hw=>by
  rcases eY hw with hw|rfl
  ·exact hf w hw
  ·exact h8
 have hl1:=aAd f hf
 have hl2:=aAd f hf'
 rw [bS] at hl2
 apply cB
 intro k
 by_cases hk:k<8*ws.length
 ·obtain⟨x,hx⟩:∃ x,ws[k/8]?=some x:=⟨_,aA oQ⟩
  have hj:k%8<8:=Nat.mod_lt _ dQ
  have e:k/8*8+k%8=k:=oQ
  have g1:=fmU f hf hx hj
  rw [e] at g1
  rw [dT,hl1]
  by_cases hki:i/8=k/8
  ·have hx':(ws.set (i/8) u')[k/8]?=some u':=by rw [← hki];exact jP hm
   have g2:=fmU f hf' hx' hj
   rw [e] at g2
   rw [← hki,hu] at hx
   cases hx
   rw [g2,← h,dT,g1,hf u (aT hu)]
   by_cases hik:i=k
   ·subst hik;simp [hj];omega
   ·have:i%8≠k%8:=oQ
    simp [hik,this]
  ·have hx':(ws.set (i/8) u')[k/8]?=some x:=by rw [kM hki];exact hx
   have g2:=fmU f hf' hx' hj
   rw [e] at g2
   rw [g2,g1,if_neg (by intro e2;exact hki (by rw [e2]))]
 ·rw [bB (by rw [bS];omega),bB oQ]
theorem aCu{ws:List Wd}(hok:∀ w∈ws,w.Ok){i:Nat}{u u':Wd}(hu:ws[i/8]?=some u)(c:UInt8)(h:u.now.set (i%8) c=u'.now):(lZ ws).set i c=lZ (ws.set (i/8) u'):=
 aO5 Wd.now (fun w hw=>(hok w hw).1.2) hu c (by rw [← h,bS];exact (hok u (aT hu)).1.2) h
theorem aIv{ws:List Wd}(hok:∀ w∈ws,w.Ok){i:Nat}{u u':Wd}(hu:ws[i/8]?=some u)(c:UInt8)(h:u.lasts.set (i%8) c=u'.lasts):(lE ws).set i c=lE (ws.set (i/8) u'):=
 aO5 Wd.lasts (fun w hw=>(hok w hw).1.1) hu c (by rw [← h,bS];exact (hok u (aT hu)).1.1) h
theorem uZ{α:Type}(f:Wd→α){ws:List Wd}{m:Nat}{u u':Wd}(hu:ws[m]?=some u)(h:f u'=f u):(ws.set m u').map f=ws.map f:=by
 rw [gE,h]
 apply cB
 intro k
 rw [dT]
 split
 ·rename_i e;subst e
  split
  ·rw [aJ,hu];rfl
  ·rename_i h2;simp [(aE.1 hu).1] at h2
 ·rfl
theorem aBn{α:Type}(f:Wd→List α){ws:List Wd}{m:Nat}{u u':Wd}(hu:ws[m]?=some u)(h:f u'=f u):(ws.set m u').flatMap f=ws.flatMap f:=by
 rw [gP,gP,uZ f hu h]
def Wd.ps(j:Nat)(c:UInt8)(w:Wd):Wd:=(w.put j c).stored
theorem Wd.ps_ok(j:Nat)(c:UInt8){w:Wd}(h:w.Ok):(w.ps j c).Ok:=Wd.stored_ok (Wd.put_ok j c h)
theorem aDK(ws:List Wd)(i:Nat)(bs:List UInt8):qX ws i bs=fZ Wd.ps ws i bs:=by
 have key:∀ l:List UInt8,fZ Wd.ps ws i l=jC Wd.stored (i/8) (if l.length=0 then i/8 else (i+l.length-1)/8+1) (fZ Wd.put ws i l):=by
  intro l
  induction hn:l.length generalizing l with
  | zero=>
   have:l=[]:=bJ hn
   subst this
   show ws=jC _ _ _ ws
   rw [if_pos rfl,rH]
  | succ n ih=>
   obtain⟨l',c,rfl⟩:∃ l' c,l=l'++[c]:=⟨l.dropLast,l.getLast (by intro h;subst h;simp at hn),(List.dropLast_concat_getLast _).symm⟩
   have hl':l'.length=n:=by simp at hn;exact hn
   rw [rI,rI,ih l' hl',hl',if_neg (Nat.succ_ne_zero n)]
   unfold nW
   have e:(i+(n+1)-1)/8=(i+n)/8:=by congr 1
   rw [e]
   apply cB
   intro k
   simp only [mN,jC,dC]
   cases hk:(fZ Wd.put ws i l')[k]? with
   | none=>simp
   | some u=>
    simp only [Option.map_some,sN,cV]
    by_cases hm:(i+n)/8=k
    ·subst hm
     rw [if_pos rfl,if_pos (c:=i/8≤(i+n)/8∧(i+n)/8<(i+n)/8+1) ⟨by omega,by omega⟩]
     try rw [if_pos rfl]
     by_cases h1:i/8≤(i+n)/8∧(i+n)/8<(if n=0 then i/8 else (i+n-1)/8+1)
     ·rw [if_pos h1];rfl
     ·rw [if_neg h1];rfl
    ·rw [if_neg hm,if_neg hm]
     have:(i/8≤k∧k<(if n=0 then i/8 else (i+n-1)/8+1))↔(i/8≤k∧k<(i+n)/8+1):=by
      split <;> omega
     simp only [this,id]
 unfold qX
 rw [key bs]
 split
 ·rename_i h0
  have:bs=[]:=bJ h0
  subst this
  exact (rH _ _ _).symm
 ·rfl
section
attribute [local irreducible] SW SL SQ SH SA SS Pu Fin bT aQ
theorem aKA{p:Nat}{σ:Dv}{H:Hp}(hD:iA p σ H)(x:Int)(v:Value)(bs:List UInt8)(hbs:bs.length≤1048576):Tri prog 231 [.pointer (some ⟨p,0,none⟩),.int .i64 x,v] H (fun w=>Rd (H.map Prod.fst) w 1 v (bs.map bv))
  (fun v' H'=>v'=.int .i64 (σ.actR x bs.length)∧iA p (σ.store x bs) H'):=by
 have hr:=wU hD x bs.length
 refine Tri.mk func231 rfl ntmps231 rfl fun w hw=>?_
 obtain⟨aa,len,cap,rfl,hlen,hcap,hrd⟩:=hw.get
 rw [aD,Nat.mul_one] at hlen
 subst hlen
 refine W.k ?_
 refine W.cq hr ?_
 by_cases h0:σ.rdy x bs.length=0
 ·obtain⟨hdn,hx0,-,hn,hxn⟩:=sB h0
  have ha:=aEo hD hdn 1 x bs.length
  rw [h0]
  refine W.k ?_
  refine aF ha ?_
  rintro _ H1 ⟨rfl,hD1⟩
  by_cases h1:σ.actE=0
  ·rw [h1]
   refine W.k ?_
   have hwl:(σ.act (1,x,bs.length)).ws.length=σ.ws.length:=qT _ _
   have hres:σ.store x bs=(σ.act (1,x,bs.length)).setWs (qX (σ.act (1,x,bs.length)).ws x.toNat bs):=by unfold Dv.store;rw [if_pos h0,if_pos h1]
   have hresE:σ.actR x bs.length=0:=by unfold Dv.actR;rw [if_pos h0,h1]
   rw [hres,hresE,aDK]
   have hlen:σ.len=8*σ.ws.length:=rfl
   generalize σ.act (1,x,bs.length)=τ at hD1 hwl ⊢
   obtain⟨i,rfl⟩:∃ i:Nat,x=i:=⟨x.toNat,by omega⟩
   rw [aP]
   have hN:=hD1.1.n
   have hlenτ:τ.len=8*τ.ws.length:=rfl
   obtain⟨hO,bl,bn,bp,bm,vp,va,Hq,Ha,h2,h3,rfl⟩:=hD1
   refine cK [0,1,25,26] [bn,bp,bm] (fun k:Nat=>[(27,.int .i64 k)]) (fun k=>[(bn,cl (rn (fZ Wd.ps τ.ws i (bs.take k))) 5),(bp,cl (rp (fZ Wd.ps τ.ws i (bs.take k))) 4),(bm,cl (rm (fZ Wd.ps τ.ws i (bs.take k))) 4)]) (fun k=>bs.length-k) (fun k=>k≤bs.length∧rl (fZ Wd.ps τ.ws i (bs.take k))=rl τ.ws) 0 ⟨Nat.zero_le _,rfl⟩ ?_
   rintro k ⟨hk,hrl⟩
   have hok:=sU (fun j c w=>Wd.ps_ok j c) (bs.take k) τ.ws i hO.ok
   have hml:=jN Wd.ps (bs.take k) τ.ws i
   have l1:=aEt hok
   have l2:=vC (fZ Wd.ps τ.ws i (bs.take k))
   have l3:=wQ (fZ Wd.ps τ.ws i (bs.take k))
   by_cases hkl:k<bs.length
   ·obtain⟨b,o,l,T,fz,rfl,hb,hbk,hys⟩:=hrd oQ
    obtain⟨c,hc⟩:∃ c,bs[k]?=some c:=⟨_,aA hkl⟩
    have hlc:l[o+k]?=some (bv c):=aAG hys (by simp [hc])
    have hm:(i+k)/8<(fZ Wd.ps τ.ws i (bs.take k)).length:=oQ
    have hi1:i+k<(rn (fZ Wd.ps τ.ws i (bs.take k))).length:=oQ
    have hi2:(i+k)/8<(rp (fZ Wd.ps τ.ws i (bs.take k))).length:=oQ
    have hi3:(i+k)/8<(rm (fZ Wd.ps τ.ws i (bs.take k))).length:=oQ
    obtain⟨u,hu⟩:∃ u,(fZ Wd.ps τ.ws i (bs.take k))[(i+k)/8]?=some u:=⟨_,aA hm⟩
    have hsn:fZ Wd.ps τ.ws i (bs.take (k+1))=(fZ Wd.ps τ.ws i (bs.take k)).set ((i+k)/8) (u.ps ((i+k)%8) c):=by
     rw [aZ,hc,dJ,rI,aG,cR hk]
     exact pP _ hu
    have e1:(rn (fZ Wd.ps τ.ws i (bs.take k))).set (i+k) (bv c)=rn (fZ Wd.ps τ.ws i (bs.take (k+1))):=by
     rw [hsn,aDA,aDA,← gE,aCu hok hu c (u':=u.ps ((i+k)%8) c) rfl]
    have e2:(rp (fZ Wd.ps τ.ws i (bs.take k))).set ((i+k)/8) (.bool true)=rp (fZ Wd.ps τ.ws i (bs.take (k+1))):=by
     rw [hsn];unfold rp;rw [gE];rfl
    have e3:(rm (fZ Wd.ps τ.ws i (bs.take k))).set ((i+k)/8) (.bool false)=rm (fZ Wd.ps τ.ws i (bs.take (k+1))):=by
     rw [hsn];unfold rm;rw [gE];rfl
    have e4:rl (fZ Wd.ps τ.ws i (bs.take (k+1)))=rl τ.ws:=by
     rw [hsn,← hrl];exact aBn _ hu rfl
    refine W.k ?_
    rw [e1,e2,e3]
    refine aQ.mk (k+1) ?_
    exact⟨by omega,e4⟩
   ·have:k=bs.length:=oQ
    subst this
    rw [bN] at hrl hok hml ⊢
    refine W.k ?_
    refine Fin.perm (H':=(p,cl [.slice (some ⟨bl,0,none⟩) τ.len τ.len,.slice (some ⟨bn,0,none⟩) τ.len τ.len,.slice (some ⟨bp,0,none⟩) τ.ws.length τ.ws.length,.slice (some ⟨bm,0,none⟩) τ.ws.length τ.ws.length,.bool τ.down,.int .i64 τ.fuse,vp,va] 214)::(bl,cl (rl τ.ws) 5)::(bn,cl (rn (fZ Wd.ps τ.ws i bs)) 5)::(bp,cl (rp (fZ Wd.ps τ.ws i bs)) 4)::(bm,cl (rm (fZ Wd.ps τ.ws i bs)) 4)::(Hq++Ha)) ?_ (F.f1 ?_)
    ·simp only [aH]
     exact (cD (l₁:=[_,_,_]) (l₂:=_::_::(Hq++Ha))).trans (((cD (l₁:=Hq++Ha)).cons _).cons _)
    refine⟨rfl,Dv.setWs_ok hO hml hok,bl,bn,bp,bm,vp,va,Hq,Ha,h2,h3,?_⟩
    simp [Dv.setWs,Dv.len,hml,hrl]
  ·refine W.k ?_
   refine F.f1 ?_
   have hres:σ.store x bs=σ.act (1,x,bs.length):=by unfold Dv.store;rw [if_pos h0,if_neg h1]
   have hresE:σ.actR x bs.length=σ.actE:=by unfold Dv.actR;rw [if_pos h0]
   rw [hres,hresE];refine⟨rfl,?_⟩;simp only [aH];exact hD1
 ·refine W.k ?_
  refine F.f1 ?_
  have hres:σ.store x bs=σ:=by unfold Dv.store;rw [if_neg h0]
  have hresE:σ.actR x bs.length=σ.rdy x bs.length:=by unfold Dv.actR;rw [if_neg h0]
  rw [hres,hresE];refine⟨rfl,?_⟩;simp only [aH];exact hD
theorem aMc{p:Nat}{σ:Dv}{H:Hp}(hD:iA p σ H):Tri prog 133 [.pointer (some ⟨p,0,none⟩)] H (fun _=>True) (fun v H'=>v=.int .i64 (aBr σ.ws)∧H'=H):=by
 have hN:=hD.1.n
 obtain⟨hO,bl,bn,bp,bm,vp,va,Hq,Ha,h2,h3,rfl⟩:=hD
 refine Tri.mk func133 rfl ntmps133 rfl fun w hw=>?_
 (refine W.k ?_;repeat intro b_)
 refine cK [9,10] [] (fun k:Nat=>[(11,.int .i64 k),(3,.int .i64 (aBr (σ.ws.take k)))]) (fun k=>[]) (fun k=>σ.ws.length-k) (fun k=>k≤σ.ws.length) 0 (Nat.zero_le _) ?_
 intro k hk
 by_cases hkl:k<σ.ws.length
 ·obtain⟨u,hu⟩:∃ u,σ.ws[k]?=some u:=⟨_,aA hkl⟩
  have hp:(rp σ.ws)[k]?=some (.bool u.pend):=by unfold rp;rw [aJ,hu];rfl
  have hstep:=aCy hu
  have hle:=aFO (σ.ws.take k)
  rw [aG] at hle
  cases hpe:u.pend
  ·rw [hpe] at hstep hp
   (refine W.k ?_;repeat intro b_)
   refine aQ.mk (k+1) ?_ (hr:=?_)
   ·omega
   ·refine⟨rfl,?_,rfl,rfl,trivial⟩
    rw [hstep];rfl
  ·rw [hpe] at hstep hp
   (refine W.k ?_;repeat intro b_)
   refine aQ.mk (k+1) ?_ (hr:=?_)
   ·omega
   ·refine⟨rfl,?_,rfl,rfl,trivial⟩
    rw [hstep];rfl
 ·have:k=σ.ws.length:=oQ
  subst this
  (refine W.k ?_;repeat intro b_)
  refine F.f1 ?_
  rw [bN]
  refine⟨rfl,?_⟩
  simp
theorem aEs{p:Nat}{σ:Dv}{H:Hp}(hD:iA p σ H)(x n:Int):Tri prog 134 [.pointer (some ⟨p,0,none⟩),.int .i64 x,.int .i64 n] H (fun _=>True)
  (fun v' H'=>∃ sv Hs,v'=.tuple #[sv,.int .i64 (σ.rdy x n)]∧Sl 5 1 sv ((σ.loadB x n).map bv) Hs∧H'=Hs++H):=by
 have hr:=wU hD x n
 refine Tri.mk func134 rfl ntmps134 rfl fun w hw=>?_
 refine W.k ?_
 refine W.cq hr ?_
 by_cases h0:σ.rdy x n=0
 ·obtain⟨hdn,hx0,hn0,hn,hxn⟩:=sB h0
  have hb:σ.loadB x n=((lZ σ.ws).drop x.toNat).take n.toNat:=by unfold Dv.loadB;rw [if_pos h0]
  rw [h0,hb]
  have hlen:σ.len=8*σ.ws.length:=rfl
  obtain⟨i,rfl⟩:∃ i:Nat,x=i:=⟨x.toNat,by omega⟩
  obtain⟨m,rfl⟩:∃ m:Nat,n=m:=⟨n.toNat,by omega⟩
  rw [aP,aP]
  have hN:=hD.1.n
  obtain⟨hO,bl,bn,bp,bm,vp,va,Hq,Ha,h2,h3,rfl⟩:=hD
  have hnl:=rX hO.ok
  have hml:(((lZ σ.ws).drop i).take m).length=m:=by simp;omega
  by_cases hlt:i<σ.len
  ·refine W.k fun b_=>?_
   refine W.ap (xs:=[]) (ys:=(((lZ σ.ws).drop i).take m).map bv) (mm:=m) (Hs:=[(b_,cl [] 5)]) (.inr ⟨b_,0,0,[],rfl,rfl,rfl,Nat.le_refl _,rfl⟩) (fun w2 hs=>?_) (fun v2 Hs2 hv2=>?_) (hys:=by simp;omega) (hbytes:=by simp;omega)
   ·have e:i+m-i=m:=oQ
    rw [e]
    refine eU.own hs (b:=bn) (l:=rn σ.ws) (by rw [aDA,Nat.mul_one,iB,iJ]) (by simp;omega)
   refine W.k ?_
   refine F.f2 ?_
   refine⟨v2,Hs2,rfl,hv2,?_⟩
   simp
  ·refine W.k fun b_=>?_
   have hm0:m=0:=oQ
   subst hm0
   refine bP (oW (l:=i) (h:=i) rfl rfl (.inr ⟨_,_,_,rfl,rfl,rfl⟩) (.inr ⟨_,_,_,rfl,rfl,by simp⟩) (Nat.le_refl _) oQ (vl:=none) (vh:=none)) rfl rfl ?_
   rw [dW]
   refine W.ap (xs:=[]) (ys:=[]) (mm:=0) (Hs:=[(b_,cl [] 5)]) (.inr ⟨b_,0,0,[],rfl,rfl,rfl,Nat.le_refl _,rfl⟩) (fun w2 hs=>eU.empty _ _ _ _) (fun v2 Hs2 hv2=>?_) (hys:=rfl) (hbytes:=by simp)
   refine W.k ?_
   refine F.f2 ?_
   refine⟨v2,Hs2,rfl,by simpa using hv2,?_⟩
   simp
 ·have hb:σ.loadB x n=[]:=by unfold Dv.loadB;rw [if_neg h0]
  refine W.k ?_
  refine F.f2 ?_
  refine⟨_,[],rfl,?_,by simp⟩
  rw [hb];exact Sl.nil _ _
theorem aHU:∀ (bs:List UInt8) (ws:List Wd) (i:Nat),(∀ w∈ws,w.Ok)→i+bs.length≤8*ws.length →
  lZ (fZ Wd.tam ws i bs)=(lZ ws).take i++bs++(lZ ws).drop (i+bs.length)∧lE (fZ Wd.tam ws i bs)=(lE ws).take i++bs++(lE ws).drop (i+bs.length)∧rp (fZ Wd.tam ws i bs)=rp ws∧rm (fZ Wd.tam ws i bs)=rm ws
 | [],ws,i,_,_=>by simp [fZ]
 | c::t,ws,i,hok,hl=>by
  simp only [aX] at hl
  have hm:i/8<ws.length:=oQ
  obtain⟨u,hu⟩:∃ u,ws[i/8]?=some u:=⟨_,aA hm⟩
  have hB:nW Wd.tam ws i c=ws.set (i/8) (u.tam (i%8) c):=pP _ hu
  have hok2:∀ w∈nW Wd.tam ws i c,w.Ok:=by unfold nW;exact xK (fun w=>Wd.tam_ok _ _) _ hok
  obtain⟨e1,e2,e3,e4⟩:=aHU t (nW Wd.tam ws i c) (i+1) hok2 (by rw [aCt];omega)
  have n1:lZ (nW Wd.tam ws i c)=(lZ ws).set i c:=by rw [hB];exact (aCu hok hu c rfl).symm
  have n2:lE (nW Wd.tam ws i c)=(lE ws).set i c:=by rw [hB];exact (aIv hok hu c rfl).symm
  have l1:=rX hok
  have l2:=aAX hok
  have key:∀ (l:List UInt8),i<l.length→(l.set i c).take (i+1)++t++(l.set i c).drop (i+1+t.length)=l.take i++(c::t)++l.drop (i+(t.length+1)):=fun l hi=>by
   rw [List.take_set,aZ,aA hi,dJ,bY _ _ (by simp;omega)]
   have e:i-(l.take i).length=0:=by simp;omega
   rw [e,fF,List.drop_set_of_lt oQ]
   rw [show i+1+t.length=i+(t.length+1) by omega]
   simp only [aM,mD,eE,List.nil_append]
  refine⟨?_,?_,?_,?_⟩
  ·show lZ (fZ Wd.tam (nW Wd.tam ws i c) (i+1) t)=_
   rw [e1,n1];exact key _ oQ
  ·show lE (fZ Wd.tam (nW Wd.tam ws i c) (i+1) t)=_
   rw [e2,n2];exact key _ oQ
  ·show rp (fZ Wd.tam (nW Wd.tam ws i c) (i+1) t)=_
   rw [e3,hB];exact uZ _ hu rfl
  ·show rm (fZ Wd.tam (nW Wd.tam ws i c) (i+1) t)=_
   rw [e4,hB];exact uZ _ hu rfl
theorem aOm{p:Nat}{σ:Dv}{H:Hp}(hD:iA p σ H)(x:Int)(v:Value)(bs:List UInt8)(hbs:bs.length≤1048576)(hx : -9223372036854775808≤x∧x≤9223372036854775807):Tri prog 79 [.pointer (some ⟨p,0,none⟩),.int .i64 x,v] H (fun w=>Rd (H.map Prod.fst) w 1 v (bs.map bv))
  (fun v' H'=>v'=.bool (σ.tamB x bs.length)∧iA p (σ.tam x bs) H'):=by
 refine Tri.mk func79 rfl ntmps79 rfl fun w hw=>?_
 have hrd0:=hw
 obtain⟨aa,len,cap,rfl,hlen,hcap,hrd⟩:=hw.get
 rw [aD,Nat.mul_one] at hlen
 subst hlen
 have hlen:σ.len=8*σ.ws.length:=rfl
 have hN:=hD.1.n
 have hD0:=hD
 obtain⟨hO,bl,bn,bp,bm,vp,va,Hq,Ha,h4,h3,rfl⟩:=hD
 by_cases hb:0≤x∧bs.length≤σ.len∧x≤(σ.len:Int)-bs.length
 ·have ht:σ.tamB x bs.length=true:=by unfold Dv.tamB;exact decide_eq_true hb
  have hts:σ.tam x bs=σ.setWs (fZ Wd.tam σ.ws x.toNat bs):=by unfold Dv.tam;rw [ht];rfl
  rw [ht,hts]
  obtain⟨i,rfl⟩:∃ i:Nat,x=i:=⟨x.toNat,by omega⟩
  rw [aP]
  obtain⟨e1,e2,e3,e4⟩:=aHU bs σ.ws i hO.ok oQ
  have l1:=aEt hO.ok
  have l2:=aEr hO.ok
  have hsrc:∀ {H2:Hp} (w2:World),St _ w H2 w2→eU prog w2 (.slice aa bs.length cap) 1 bs.length (bs.map bv):=fun w2 hs=>hrd0.srcAt hs
  have f1:∀ j,j=i∨bs.length=0→(rn σ.ws).take j++bs.map bv++(rn σ.ws).drop (j+(bs.map bv).length)=rn (fZ Wd.tam σ.ws i bs):=fun j hj=>by
   rw [aDA,aDA,e1,aV,aV,iB,iJ,aD]
   rcases hj with rfl|hj
   ·rfl
   ·have:bs=[]:=bJ hj
    subst this;simp
  have f2:∀ j,j=i∨bs.length=0→(rl σ.ws).take j++bs.map bv++(rl σ.ws).drop (j+(bs.map bv).length)=rl (fZ Wd.tam σ.ws i bs):=fun j hj=>by
   rw [aKy,aKy,e2,aV,aV,iB,iJ,aD]
   rcases hj with rfl|hj
   ·rfl
   ·have:bs=[]:=bJ hj
    subst this;simp
  by_cases hlt:i<σ.len
  ·(refine W.k ?_;repeat intro b_)
   refine W.cy (fun w2 hs=>hsrc w2 hs) ?_ (hfit:=by simp;omega)
   (refine W.k ?_;repeat intro b_)
   refine W.cy (fun w2 hs=>hsrc w2 hs) ?_ (hfit:=by simp;omega)
   rw [f1 _ (.inl rfl),f2 _ (.inl rfl)]
   (refine W.k ?_;repeat intro b_)
   refine F.f1 ?_
   refine⟨rfl,Dv.setWs_ok hO (jN _ _ _ _) (sU (fun j c w=>Wd.tam_ok j c) bs σ.ws i hO.ok),bl,bn,bp,bm,vp,va,Hq,Ha,h4,h3,?_⟩
   simp [Dv.setWs,Dv.len,jN,e3,e4]
  ·have hz:bs.length=0:=oQ
   (refine W.k ?_;repeat intro b_)
   refine W.cy (fun w2 hs=>hsrc w2 hs) ?_ (hfit:=by simp;omega)
   (refine W.k ?_;repeat intro b_)
   refine W.cy (fun w2 hs=>hsrc w2 hs) ?_ (hfit:=by simp;omega)
   rw [f1 _ (.inr hz),f2 _ (.inr hz)]
   (refine W.k ?_;repeat intro b_)
   refine F.f1 ?_
   refine⟨rfl,Dv.setWs_ok hO (jN _ _ _ _) (sU (fun j c w=>Wd.tam_ok j c) bs σ.ws i hO.ok),bl,bn,bp,bm,vp,va,Hq,Ha,h4,h3,?_⟩
   simp [Dv.setWs,Dv.len,jN,e3,e4]
 ·have ht:σ.tamB x bs.length=false:=by unfold Dv.tamB;exact decide_eq_false hb
  have hts:σ.tam x bs=σ:=by unfold Dv.tam;rw [ht];rfl
  rw [ht,hts]
  repeat' (first|(refine W.go ?_;try intro b_)  | (refine W.cs (fun h_=>?_) (fun h_=>?_) <;> dsimp only [xX] at h_)|(refine aAM rfl (fun h_=>?_) (fun h_=>?_) <;> (try dsimp only [xX] at h_))|refine jK rfl (fun h_=>?_) (fun h_=>?_))
  all_goals first|(exfalso;omega)|skip
  all_goals (refine F.f1 ?_;exact⟨rfl,hD0⟩)
theorem aFB{α:Type}{h:Wd→Wd}(f:Wd→α)(hf:∀ w,f (h w)=f w)(x y:Nat)(ws:List Wd):(jC h x y ws).map f=ws.map f:=by
 apply cB
 intro i
 simp only [jC,aJ,dC]
 cases ws[i]? with
 | none=>rfl
 | some w=>
  simp only [Option.map_some,cV]
  split
  ·exact hf w
  ·rfl
theorem aAj{α:Type}{h:Wd→Wd}(f:Wd→List α)(hf:∀ w,f (h w)=f w)(x y:Nat)(ws:List Wd):(jC h x y ws).flatMap f=ws.flatMap f:=by
 rw [gP,gP,aFB f hf]
theorem aGt{ws:List Wd}{X y w:Nat}{u:Wd}(h1:X≤w)(h2:w≤y)(hu:ws[w]?=some u):(rm (jC Wd.flushed X y ws)).set w (.bool u.pend)=rm (jC Wd.flushed X (max y (w+1)) ws):=by
 have hw:w<ws.length:=(aE.1 hu).1
 apply cB
 intro k
 simp only [rm,jC,dT,aD,lL,aJ,dC]
 by_cases hk:w=k
 ·subst hk
  rw [if_pos rfl,if_pos hw,hu]
  simp only [Option.map_some,cV]
  rw [if_pos oQ];rfl
 ·rw [if_neg hk]
  cases ws[k]? with
  | none=>rfl
  | some x=>
   simp only [Option.map_some,cV]
   have:(X≤k∧k<y)↔(X≤k∧k<max y (w+1)):=oQ
   simp only [this]
def vX(i t:Nat):Nat:=if t=i then i/64*8 else ((t-1)/64+1)*8
theorem aKw{p:Nat}{σ:Dv}{H:Hp}(hD:iA p σ H)(h8:σ.ws.length%8=0)(x n:Int):Tri prog 232 [.pointer (some ⟨p,0,none⟩),.int .i64 x,.int .i64 n] H (fun _=>True)
  (fun v' H'=>v'=.int .i64 (σ.actR x n)∧iA p (σ.flush x n) H'):=by
 have hr:=wU hD x n
 refine Tri.mk func232 rfl ntmps232 rfl fun w hw=>?_
 refine W.k ?_
 refine W.cq hr ?_
 by_cases h0:σ.rdy x n=0
 ·obtain⟨hdn,hx0,hn0,hn,hxn⟩:=sB h0
  have ha:=aEo hD hdn 2 x n
  rw [h0]
  refine W.k ?_
  refine aF ha ?_
  rintro _ H1 ⟨rfl,hD1⟩
  by_cases h1:σ.actE=0
  ·rw [h1]
   refine W.k ?_
   have hwl:(σ.act (2,x,n)).ws.length=σ.ws.length:=qT _ _
   have hres:σ.flush x n=(σ.act (2,x,n)).setWs (lC (σ.act (2,x,n)).ws x.toNat n.toNat):=by unfold Dv.flush;rw [if_pos h0,if_pos h1]
   have hresE:σ.actR x n=0:=by unfold Dv.actR;rw [if_pos h0,h1]
   rw [hres,hresE]
   have hlen:σ.len=8*σ.ws.length:=rfl
   generalize σ.act (2,x,n)=τ at hD1 hwl ⊢
   obtain⟨i,rfl⟩:∃ i:Nat,x=i:=⟨x.toNat,by omega⟩
   obtain⟨m,rfl⟩:∃ m:Nat,n=m:=⟨n.toNat,by omega⟩
   rw [aP,aP]
   have hN:=hD1.1.n
   have hlenτ:τ.len=8*τ.ws.length:=rfl
   obtain⟨hO,bl,bn,bp,bm,vp,va,Hq,Ha,h2,h3,rfl⟩:=hD1
   refine cK [0,1,2] [bm] (fun t:Nat=>[(8,.int .i64 t)]) (fun t=>[(bm,cl (rm (jC Wd.flushed (i/64*8) (vX i t) τ.ws)) 4)]) (fun t=>i+m-t) (fun t=>i≤t∧t≤i+m) i ⟨Nat.le_refl _,by omega⟩ ?_ (by rw [vX,if_pos rfl,rH])
   rintro t ⟨ht1,ht2⟩
   have hu1:t/64*8≤vX i t:=by unfold vX;split <;> omega
   have hu2:vX i t≤(t/64+1)*8:=by unfold vX;split <;> omega
   have hu3:vX i (t+1)=(t/64+1)*8:=by unfold vX;rw [if_neg oQ];rfl
   by_cases htl:t<i+m
   ·refine W.j ?_
    refine SW.cut [0,1,2,8] [bm] (fun _:Unit=>[]) (fun _=>[(bm,cl (rm (jC Wd.flushed (i/64*8) (vX i (t+1)) τ.ws)) 4)]) (fun _=>True) ?_ ?_
    ·refine W.k ?_
     refine cK [0,1,2,8] [bm] (fun j:Nat=>[(9,.int .i64 j)]) (fun j=>[(bm,cl (rm (jC Wd.flushed (i/64*8) (max (vX i t) (t/64*8+j)) τ.ws)) 4)]) (fun j=>8-j) (fun j=>j≤8) 0 (Nat.zero_le _) ?_ (by rw [jQ,Nat.max_eq_left hu1])
     intro j hj
     by_cases hj8:j<8
     ·have hw:t/64*8+j<τ.ws.length:=oQ
      obtain⟨u,hu⟩:∃ u,τ.ws[t/64*8+j]?=some u:=⟨_,aA hw⟩
      have hp:(rp τ.ws)[t/64*8+j]?=some (.bool u.pend):=by unfold rp;rw [aJ,hu];rfl
      have hst:=aGt (X:=i/64*8) (y:=max (vX i t) (t/64*8+j)) oQ oQ hu
      have hmx:max (max (vX i t) (t/64*8+j)) (t/64*8+j+1)=max (vX i t) (t/64*8+(j+1)):=oQ
      rw [hmx] at hst
      have hlt:t/64*8+j<(rm (jC Wd.flushed (i/64*8) (max (vX i t) (t/64*8+j)) τ.ws)).length:=by rw [wQ,oU];exact hw
      refine W.k ?_
      (refine SW.l [13] [0,1,2,3,4,5,6,7,8,9,10,11,12] ?_;refine bO 13 ?_;refine W.i ?_;refine SS.dn ?_)
      rw [hst]
      refine W.k ?_
      refine aQ.mk (j+1) ?_
      omega
     ·have:j=8:=oQ
      subst this
      have e:max (vX i t) (t/64*8+8)=vX i (t+1):=oQ
      rw [e]
      refine W.k ?_
      refine bT.mk () ?_
      trivial
    ·intro _ _
     refine W.k ?_
     refine aQ.mk (t+1) ?_
     omega
   ·have:t=i+m:=oQ
    subst this
    have e:jC Wd.flushed (i/64*8) (vX i (i+m)) τ.ws=lC τ.ws i m:=by
     unfold lC vX
     by_cases hm:m=0
     ·subst hm;rw [if_pos oQ,if_pos rfl,rH]
     ·rw [if_neg oQ,if_neg hm]
    have hfl:(lC τ.ws i m).length=τ.ws.length:=by rw [← e,oU]
    have hfo:∀ w∈lC τ.ws i m,w.Ok:=by rw [← e];exact xI (fun w=>Wd.flushed_ok) _ _ hO.ok
    have q1:rl (lC τ.ws i m)=rl τ.ws:=by rw [← e];exact aAj (h:=Wd.flushed) (fun w=>w.lasts.map bv) (fun w=>rfl) _ _ _
    have q2:rn (lC τ.ws i m)=rn τ.ws:=by rw [← e];exact aAj (h:=Wd.flushed) (fun w=>w.now.map bv) (fun w=>rfl) _ _ _
    have q3:rp (lC τ.ws i m)=rp τ.ws:=by rw [← e];exact aFB (h:=Wd.flushed) (fun w=>Value.bool w.pend) (fun w=>rfl) _ _ _
    rw [e]
    refine W.k ?_
    refine Fin.perm (H':=(p,cl [.slice (some ⟨bl,0,none⟩) τ.len τ.len,.slice (some ⟨bn,0,none⟩) τ.len τ.len,.slice (some ⟨bp,0,none⟩) τ.ws.length τ.ws.length,.slice (some ⟨bm,0,none⟩) τ.ws.length τ.ws.length,.bool τ.down,.int .i64 τ.fuse,vp,va] 214)::(bl,cl (rl τ.ws) 5)::(bn,cl (rn τ.ws) 5)::(bp,cl (rp τ.ws) 4)::(bm,cl (rm (lC τ.ws i m)) 4)::(Hq++Ha)) ?_ (F.f1 ?_)
    ·simp only [aH]
     exact (gR (l₁:=[_,_,_,_]) (a:=(bm,_)) (l₂:=Hq++Ha)).symm
    refine⟨rfl,Dv.setWs_ok hO hfl hfo,bl,bn,bp,bm,vp,va,Hq,Ha,h2,h3,?_⟩
    simp [Dv.setWs,Dv.len,hfl,q1,q2,q3]
  ·refine W.k ?_
   refine F.f1 ?_
   have hres:σ.flush x n=σ.act (2,x,n):=by unfold Dv.flush;rw [if_pos h0,if_neg h1]
   have hresE:σ.actR x n=σ.actE:=by unfold Dv.actR;rw [if_pos h0]
   rw [hres,hresE];refine⟨rfl,?_⟩;simp only [aH];exact hD1
 ·refine W.k ?_
  refine F.f1 ?_
  have hres:σ.flush x n=σ:=by unfold Dv.flush;rw [if_neg h0]
  have hresE:σ.actR x n=σ.rdy x n:=by unfold Dv.actR;rw [if_neg h0]
  rw [hres,hresE];refine⟨rfl,?_⟩;simp only [aH];exact hD
theorem aCh(w:Wd):w.fenced.now=w.now:=by unfold Wd.fenced;cases w.mark <;> rfl
theorem aOf{ws:List Wd}{k:Nat}{u u':Wd}(hok:∀ w∈ws,w.Ok)(hu:ws[k]?=some u)(h:u'.lasts.length=8):(rl ws).take (8*k)++u'.lasts.map bv++(rl ws).drop (8*k+(u'.lasts.map bv).length)=rl (ws.set k u'):=by
 have hk:k<ws.length:=(aE.1 hu).1
 have hA:(rl (ws.take k)).length=8*k:=by rw [aEr (fun w hw=>hok w (dU hw)),aG];congr 1;omega
 have e:rl ws=rl (ws.take k)++(u.lasts.map bv++rl (ws.drop (k+1))):=qE _ ws k u hu
 have hx:(u.lasts.map bv).length=8:=by simpa using (hok u (aT hu)).1.1
 rw [e,aAD hA hx (by simpa using h)]
 exact (aGu _ ws k u' hk).symm
theorem aOh{ws:List Wd}{k:Nat}{u:Wd}(hok:∀ w∈ws,w.Ok)(hu:ws[k]?=some u):((rn ws).drop (8*k)).take (8*1)=u.now.map bv:=by
 have hk:k<ws.length:=(aE.1 hu).1
 have hA:(rn (ws.take k)).length=8*k:=by rw [aEt (fun w hw=>hok w (dU hw)),aG];congr 1;omega
 have e:rn ws=rn (ws.take k)++(u.now.map bv++rn (ws.drop (k+1))):=qE _ ws k u hu
 rw [e,aKz hA (by simpa using (hok u (aT hu)).1.2)]
theorem wP{p:Nat}{σ:Dv}{H:Hp}(hD:iA p σ H):Tri prog 192 [.pointer (some ⟨p,0,none⟩)] H (fun _=>True)
  (fun v' H'=>v'=.int .i64 (σ.actR 0 0)∧iA p σ.fence H'):=by
 have hr:=wU hD 0 0
 refine Tri.mk func192 rfl ntmps192 rfl fun w hw=>?_
 refine W.k ?_
 refine W.cq hr ?_
 by_cases h0:σ.rdy 0 0=0
 ·obtain⟨hdn,-⟩:=sB h0
  have ha:=aEo hD hdn 3 0 0
  rw [h0]
  refine W.k ?_
  refine aF ha ?_
  rintro _ H1 ⟨rfl,hD1⟩
  by_cases h1:σ.actE=0
  ·rw [h1]
   have hres:σ.fence=(σ.act (3,0,0)).setWs ((σ.act (3,0,0)).ws.map Wd.fenced):=by unfold Dv.fence;rw [if_pos h0,if_pos h1]
   have hresE:σ.actR 0 0=0:=by unfold Dv.actR;rw [if_pos h0,h1]
   rw [hres,hresE]
   generalize σ.act (3,0,0)=τ at hD1 ⊢
   have hN:=hD1.1.n
   have hlenτ:τ.len=8*τ.ws.length:=rfl
   obtain⟨hO,bl,bn,bp,bm,vp,va,Hq,Ha,h2,h3,rfl⟩:=hD1
   refine W.k ?_
   refine cK [0,18] [bl,bp,bm] (fun k:Nat=>[(19,.int .i64 k)]) (fun k=>[(bl,cl (rl (jC Wd.fenced 0 k τ.ws)) 5),(bp,cl (rp (jC Wd.fenced 0 k τ.ws)) 4),(bm,cl (rm (jC Wd.fenced 0 k τ.ws)) 4)]) (fun k=>τ.ws.length-k) (fun k=>k≤τ.ws.length) 0 (Nat.zero_le _) ?_ (by rw [rH])
   intro k hk
   by_cases hkl:k<τ.ws.length
   ·obtain⟨u,hu⟩:∃ u,τ.ws[k]?=some u:=⟨_,aA hkl⟩
    have huO:=hO.ok u (aT hu)
    obtain⟨hk2,hset⟩:=aDr Wd.fenced 0 k τ.ws u (Nat.zero_le _) hu
    have hok2:=xI (fun w=>Wd.fenced_ok) 0 k hO.ok
    have hmk:(rm (jC Wd.fenced 0 k τ.ws))[k]?=some (.bool u.mark):=by unfold rm;rw [aJ,hk2];rfl
    have hl2:=vC (jC Wd.fenced 0 k τ.ws)
    have hl3:=wQ (jC Wd.fenced 0 k τ.ws)
    have hl1:=aEr hok2
    rw [oU] at hl1 hl2 hl3
    cases hm:u.mark
    ·rw [hm] at hmk
     have hfu:u.fenced=u:=by unfold Wd.fenced;rw [hm];rfl
     have hsame:jC Wd.fenced 0 (k+1) τ.ws=jC Wd.fenced 0 k τ.ws:=by
      rw [← hset,hfu]
      exact aF4 hk2
     refine W.k ?_
     rw [← hsame]
     refine aQ.mk (k+1) ?_
     omega
    ·rw [hm] at hmk
     have hfu:u.fenced={ lasts:=u.now,now:=u.now,pend:=false,mark:=false }:=by unfold Wd.fenced;rw [hm];rfl
     have hrow:=aOh hO.ok hu
     have e1:=aOf (u':=u.fenced) hok2 hk2 (by rw [hfu];exact huO.1.2)
     rw [hset] at e1
     have e2:(rp (jC Wd.fenced 0 k τ.ws)).set k (.bool false)=rp (jC Wd.fenced 0 (k+1) τ.ws):=by
      rw [← hset];unfold rp;rw [gE,hfu]
     have e3:(rm (jC Wd.fenced 0 k τ.ws)).set k (.bool false)=rm (jC Wd.fenced 0 (k+1) τ.ws):=by
      rw [← hset];unfold rm;rw [gE,hfu]
     have hn8:(u.now.map bv).length=8:=by simpa using huO.1.2
     have hlt2:k<(rp (jC Wd.fenced 0 k τ.ws)).length:=oQ
     have hlt3:k<(rm (jC Wd.fenced 0 k τ.ws)).length:=oQ
     refine W.k ?_
     (refine SW.l [20] [0,1,2,3,4,5,6,7,8] ?_;refine dZ 9 rfl (aEk rfl rfl rfl rfl oQ oQ) ?_;refine SG.l [10,11,12,13,14,15,16,17,18] ?_;refine dZ 19 rfl (aEk rfl rfl rfl rfl oQ oQ) ?_;refine bO 20 ?_)
     rw [show 8*k+8-8*k=8 by omega]
     refine W.cy (mm:=8) (fun w2 hs=>eU.own hs (b:=bn) hrow hn8) ?_ (hfit:=by omega)
     (refine bC [] ?_;refine SS.dn ?_)
     rw [show u.now.map bv=u.fenced.lasts.map bv by rw [hfu],e1]
     refine W.k ?_
     rw [e2,e3]
     refine aQ.mk (k+1) ?_
     omega
   ·have:k=τ.ws.length:=oQ
    subst this
    have hfl:(jC Wd.fenced 0 τ.ws.length τ.ws).length=τ.ws.length:=oU _ _ _ _
    have hfo:=xI (fun w=>Wd.fenced_ok) 0 τ.ws.length hO.ok
    have q2:rn (jC Wd.fenced 0 τ.ws.length τ.ws)=rn τ.ws:=aAj (h:=Wd.fenced) (fun w=>w.now.map bv) (fun w=>by rw [aCh]) _ _ _
    refine W.k ?_
    rw [aFA] at hfl hfo q2 ⊢
    refine Fin.to ((p,cl [.slice (some ⟨bl,0,none⟩) τ.len τ.len,.slice (some ⟨bn,0,none⟩) τ.len τ.len,.slice (some ⟨bp,0,none⟩) τ.ws.length τ.ws.length,.slice (some ⟨bm,0,none⟩) τ.ws.length τ.ws.length,.bool τ.down,.int .i64 τ.fuse,vp,va] 214)::(bl,cl (rl (τ.ws.map Wd.fenced)) 5)::(bn,cl (rn τ.ws) 5)::(bp,cl (rp (τ.ws.map Wd.fenced)) 4)::(bm,cl (rm (τ.ws.map Wd.fenced)) 4)::(Hq++Ha)) ?_
    refine F.f1 ?_
    refine⟨rfl,Dv.setWs_ok hO hfl hfo,bl,bn,bp,bm,vp,va,Hq,Ha,h2,h3,?_⟩
    simp [Dv.setWs,Dv.len,q2]
  ·refine W.k ?_
   refine F.f1 ?_
   have hres:σ.fence=σ.act (3,0,0):=by unfold Dv.fence;rw [if_pos h0,if_neg h1]
   have hresE:σ.actR 0 0=σ.actE:=by unfold Dv.actR;rw [if_pos h0]
   rw [hres,hresE];refine⟨rfl,?_⟩;simp only [aH];exact hD1
 ·refine W.k ?_
  refine F.f1 ?_
  have hres:σ.fence=σ:=by unfold Dv.fence;rw [if_neg h0]
  have hresE:σ.actR 0 0=σ.rdy 0 0:=by unfold Dv.actR;rw [if_neg h0]
  rw [hres,hresE];refine⟨rfl,?_⟩;simp only [aH];exact hD
end
theorem aDs{f:Nat→UInt8→Wd→Wd}{J:Wd→Prop}(hf:∀ j c w,J w→J (f j c w)):∀ (bs:List UInt8) (ws:List Wd) (i:Nat),(∀ w∈ws,J w)→∀ w∈fZ f ws i bs,J w
 | [],ws,i,h=>h
 | c::t,ws,i,h=>aDs hf t _ _ (fun w hw=>by
   unfold nW at hw
   obtain⟨k,hk⟩:=cC.1 hw
   rw [mN] at hk
   cases hu:ws[k]? with
   | none=>rw [hu] at hk;simp at hk
   | some u=>
    rw [hu] at hk
    have hm:=h u (aT hu)
    simp only [sN,Option.map_some,cV] at hk
    rw [← hk]
    split
    ·exact hf _ _ u hm
    ·exact hm)
def spl(l:List UInt8)(i:Nat)(bs:List UInt8):List UInt8:=l.take i++bs++l.drop (i+bs.length)
theorem aHF:∀ (bs:List UInt8) (ws:List Wd) (i:Nat),(∀ w∈ws,w.Ok)→i+bs.length≤8*ws.length →
  lZ (fZ Wd.ps ws i bs)=spl (lZ ws) i bs∧lE (fZ Wd.ps ws i bs)=lE ws
 | [],ws,i,_,_=>by simp [fZ,spl]
 | c::t,ws,i,hok,hl=>by
  simp only [aX] at hl
  have hm:i/8<ws.length:=oQ
  obtain⟨u,hu⟩:∃ u,ws[i/8]?=some u:=⟨_,aA hm⟩
  have hB:nW Wd.ps ws i c=ws.set (i/8) (u.ps (i%8) c):=pP _ hu
  have hok2:∀ w∈nW Wd.ps ws i c,w.Ok:=by unfold nW;exact xK (fun w=>Wd.ps_ok _ _) _ hok
  obtain⟨e1,e2⟩:=aHF t (nW Wd.ps ws i c) (i+1) hok2 (by rw [aCt];omega)
  have n1:lZ (nW Wd.ps ws i c)=(lZ ws).set i c:=by rw [hB];exact (aCu hok hu c rfl).symm
  have n2:lE (nW Wd.ps ws i c)=lE ws:=by rw [hB];exact aBn _ hu rfl
  have l1:=rX hok
  have key:∀ (l:List UInt8),i<l.length→(l.set i c).take (i+1)++t++(l.set i c).drop (i+1+t.length)=l.take i++(c::t)++l.drop (i+(t.length+1)):=fun l hi=>by
   rw [List.take_set,aZ,aA hi,dJ,bY _ _ (by simp;omega)]
   have e:i-(l.take i).length=0:=by simp;omega
   rw [e,fF,List.drop_set_of_lt oQ]
   rw [show i+1+t.length=i+(t.length+1) by omega]
   simp only [aM,mD,eE,List.nil_append]
  refine⟨?_,?_⟩
  ·show lZ (fZ Wd.ps (nW Wd.ps ws i c) (i+1) t)=_
   rw [e1,n1];exact key _ oQ
  ·show lE (fZ Wd.ps (nW Wd.ps ws i c) (i+1) t)=_
   rw [e2,n2]
structure Dv.Live(σ:Dv):Prop where
 d:σ.down=false
 f:σ.fuse=0
theorem aL0(σ:Dv)(a:Int×Int×Int):(σ.push a).ws=σ.ws∧(σ.push a).down=σ.down∧(σ.push a).fuse=σ.fuse:=by
 unfold Dv.push
 split <;> exact⟨rfl,rfl,rfl⟩
theorem Dv.Live.act{σ:Dv}(h:σ.Live)(a:Int×Int×Int):(σ.act a).Live∧(σ.act a).ws=σ.ws∧σ.actE=0:=by
 have e:σ.act a=σ.push a:=by unfold Dv.act;rw [if_neg (by rw [h.f];decide)]
 obtain⟨h1,h2,h3⟩:=aL0 σ a
 rw [e]
 exact⟨⟨h2.trans h.d,h3.trans h.f⟩,h1,by unfold Dv.actE;rw [if_neg (by rw [h.f];decide)]⟩
theorem Dv.Live.rdy{σ:Dv}(h:σ.Live){x n:Int}(hx:0≤x)(hn:0≤n)(hl:x+n≤σ.len):σ.rdy x n=0:=by
 unfold Dv.rdy
 rw [if_neg (by rw [h.d];decide),if_neg oQ]
theorem Dv.Live.store{σ:Dv}(h:σ.Live){i:Nat}{bs:List UInt8}(hl:i+bs.length≤σ.len):(σ.store i bs).Live∧(σ.store i bs).ws=fZ Wd.ps σ.ws i bs∧σ.actR i bs.length=0:=by
 have hr:σ.rdy i bs.length=0:=h.rdy oQ oQ oQ
 obtain⟨h1,h2,h3⟩:=h.act (1,(i:Int),(bs.length:Int))
 unfold Dv.store Dv.actR
 rw [if_pos hr,if_pos h3,if_pos hr]
 exact⟨⟨h1.d,h1.f⟩,by show qX _ _ _=_;rw [h2,aP,aDK],h3⟩
theorem Dv.Live.flush{σ:Dv}(h:σ.Live){i n:Nat}(hl:i+n≤σ.len):(σ.flush i n).Live∧(σ.flush i n).ws=lC σ.ws i n∧σ.actR i n=0:=by
 have hr:σ.rdy i n=0:=h.rdy oQ oQ oQ
 obtain⟨h1,h2,h3⟩:=h.act (2,(i:Int),(n:Int))
 unfold Dv.flush Dv.actR
 rw [if_pos hr,if_pos h3,if_pos hr]
 exact⟨⟨h1.d,h1.f⟩,by show lC _ _ _=_;rw [h2,aP,aP],h3⟩
theorem Dv.Live.fence{σ:Dv}(h:σ.Live):σ.fence.Live∧σ.fence.ws=σ.ws.map Wd.fenced∧σ.actR 0 0=0:=by
 have hr:σ.rdy 0 0=0:=h.rdy oQ oQ oQ
 obtain⟨h1,h2,h3⟩:=h.act (3,0,0)
 unfold Dv.fence Dv.actR
 rw [if_pos hr,if_pos h3,if_pos hr]
 exact⟨⟨h1.d,h1.f⟩,by show List.map _ _=_;rw [h2],h3⟩
theorem aGs(ws:List Wd)(i n:Nat):lZ (lC ws i n)=lZ ws∧lE (lC ws i n)=lE ws:=by
 unfold lC
 split
 ·exact⟨rfl,rfl⟩
 ·exact⟨aAj (h:=Wd.flushed) Wd.now (fun w=>rfl) _ _ _,aAj (h:=Wd.flushed) Wd.lasts (fun w=>rfl) _ _ _⟩
section
attribute [local irreducible] SW SL SQ SH SA SS Pu Fin bT aQ
def i64(x:Int):Prop := -9223372036854775808≤x∧x≤9223372036854775807
def rhd(bl bn bp bm:Nat)(σ:Dv)(vp:Value)(aa:Option Addr)(ca:Nat):List Value:=[.slice (some ⟨bl,0,none⟩) σ.len σ.len,.slice (some ⟨bn,0,none⟩) σ.len σ.len,.slice (some ⟨bp,0,none⟩) σ.ws.length σ.ws.length,.slice (some ⟨bm,0,none⟩) σ.ws.length σ.ws.length,.bool σ.down,.int .i64 σ.fuse,vp,.slice aa σ.acts.length ca]
theorem iA.hd2{p:Nat}{σ:Dv}{H:Hp}(h:iA p σ H):∃ bl bn bp bm vp aa ca,At H p (cl (rhd bl bn bp bm σ vp aa ca) 214)∧At H bl (cl (rl σ.ws) 5)∧At H bn (cl (rn σ.ws) 5) ∧
  (0<σ.acts.length→∃ ba junk,aa=some ⟨ba,0,none⟩∧At H ba (cl (σ.acts.flatMap ac++junk) 247)):=by
 obtain⟨hO,bl,bn,bp,bm,vp,va,Hq,Ha,h1,h2,rfl⟩:=h
 obtain⟨aa,la,ca,rfl,hla⟩:=h2.form
 have hla2:la=σ.acts.length:=by rw [mE ac 3 _ (fun x _=>rfl)] at hla;omega
 subst hla2
 refine⟨bl,bn,bp,bm,vp,aa,ca,by unfold rhd;infer_instance,inferInstance,inferInstance,fun h0=>?_⟩
 rcases h2 with ⟨h3,h4,-⟩|⟨b,len,cap,junk,h3,-,-,-,rfl⟩
 ·injection h3 with e1 e2 e3;omega
 ·injection h3 with e1 e2 e3;exact⟨b,junk,e1,inferInstance⟩
theorem aE4{acts:List (Int×Int×Int)}{k:Nat}{a:Int×Int×Int}(h:acts[k]?=some a)(junk:List Value):((acts.flatMap ac++junk).drop (k*3)).take 3=ac a∧∀ j,j<3→(acts.flatMap ac++junk)[k*3+j]?=(ac a)[j]?:=by
 have hk:k<acts.length:=(aE.1 h).1
 have hA:((acts.take k).flatMap ac).length=k*3:=by rw [mE ac 3 _ (fun x _=>rfl),aG];congr 1;omega
 rw [qE ac acts k a h,aM,aM]
 constructor
 ·rw [eW hA,cW (show (ac a).length=3 from rfl)]
 ·intro j hj
  rw [aY oQ,hA,dA,aL hj]
theorem aOr{p e:Nat}{σ:Dv}{Hx Hy:Hp}(hD:fD p σ Hx)(hE:iA e σ Hy):Tri prog 70 [.pointer (some ⟨p,0,none⟩),.pointer (some ⟨e,0,none⟩)] (Hx++Hy) (fun _=>True) (fun v H'=>v=.bool true∧H'=Hx++Hy):=by
 obtain⟨bl,bn,bp,bm,vp,aa,ca,hat,hatl,hatn,hacts⟩:=hE.hd2
 unfold rhd at hat
 have hok:=hE.1.ok
 have hN:=hE.1.n
 have hAc:=hE.1.a
 have hlen:σ.len=8*σ.ws.length:=rfl
 have ll:=aAX hok
 have nl:=rX hok
 have hyl:((rl σ.ws).drop 0).take σ.len=cbs (lE σ.ws):=by rw [aKy,bR,aK (by simp;omega)];rfl
 have hyn:((rn σ.ws).drop 0).take σ.len=cbs (lZ σ.ws):=by rw [aDA,bR,aK (by simp;omega)];rfl
 have hld:σ.rdy 0 σ.len=(if σ.down=true then 8 else 0):=by
  unfold Dv.rdy;split
  ·rfl
  ·rw [if_neg oQ]
 refine Tri.mk func70 rfl ntmps70 rfl fun w hw=>?_
 (refine W.k ?_;repeat intro b_)
 (refine SW.l [19,21] [0,2,3,4,5] ?_;refine bA 1 ?_)
 refine aF (aHv hD) ?_
 rintro _ Hx ⟨rfl,rfl⟩
 (refine bC [] ?_;refine dZ 6 rfl (aGI rfl rfl rfl rfl) ?_;refine SG.l [7,8,10,11,12,13,14] ?_;(first|refine dB 9 rfl ?_;refine SG.l [15,16,17,18,20] ?_;(first|refine dB 19 rfl ?_;(first|refine dB 21 rfl ?_;refine SG.l [22,23,24,25,28,29,30,31,32] ?_;(first|refine dB 26 rfl ?_;refine SG.l [27,33,34,35] ?_|refine bA 26 ?_)|refine bO 21 ?_)|refine bO 19 ?_)|refine bA 9 ?_))
 refine aF (aCm hD) ?_
 rintro _ Hx ⟨rfl,rfl⟩
 (refine SL.l [15,16,17,18,20] ?_;(first|refine dB 19 rfl ?_;(first|refine dB 21 rfl ?_;refine SG.l [22,23,24,25,28,29,30,31,32] ?_;(first|refine dB 26 rfl ?_;refine SG.l [27,33,34,35] ?_|refine bA 26 ?_)|refine bO 21 ?_)|refine bO 19 ?_))
 refine aF (aN4 hD) ?_
 rintro _ Hx ⟨rfl,rfl⟩
 (refine bC [] ?_;(first|refine dB 21 rfl ?_;refine SG.l [22,23,24,25,28,29,30,31,32] ?_;(first|refine dB 26 rfl ?_;refine SG.l [27,33,34,35] ?_|refine bA 26 ?_)|refine bO 21 ?_))
 refine aF (aMc hE) ?_
 rintro _ Hy ⟨rfl,rfl⟩
 (refine SL.l [22,23,24,25,28,29,30,31] ?_;(first|refine dB 32 rfl ?_|refine aK9 32 [] rfl (bs:=lE σ.ws) hyl oQ ?_);(first|refine dB 26 rfl ?_;refine SG.l [27,33,34,35] ?_|refine bA 26 ?_))
 refine aF (aLH hD) ?_
 rintro iv _ ⟨Hi,hi,rfl⟩
 have hio:=hi.one
 (refine bC [] ?_;(first|refine dB 27 rfl ?_|refine aG6 hi 27 [] rfl ?_);(first|refine dB 33 rfl ?_|refine dZ 33 rfl (aHB rfl rfl rfl rfl) ?_);refine SG.l [34,35] ?_)
 (refine W.k ?_;repeat intro b_)
 refine aF (aJl hD) ?_
 rintro _ _ ⟨Hs,rfl,h3⟩
 obtain⟨ab,lb,cb,rfl,hlb⟩:=h3.form
 have hlb2:lb=σ.acts.length:=by rw [mE ac 3 _ (fun x _=>rfl)] at hlb;omega
 subst hlb2
 (refine W.j ?_;repeat intro b_)
 refine SW.cut [0,1] [] (fun _:Unit=>[]) (fun _=>[]) (fun _=>True) ?_ ?_
 ·(refine W.k ?_;repeat intro b_)
  refine cK [0,1,5,60,61] [] (fun k:Nat=>[(62,.int .i64 k)]) (fun k=>[]) (fun k=>σ.acts.length-k) (fun k=>k≤σ.acts.length) 0 (Nat.zero_le _) ?_
  intro k hk
  by_cases hkl:k<σ.acts.length
  ·obtain⟨ba,junk,rfl,hatA⟩:=hacts oQ
   obtain⟨x,hx⟩:∃ x,σ.acts[k]?=some x:=⟨_,aA hkl⟩
   obtain⟨r1,r2⟩:=aE4 hx junk
   rcases h3 with ⟨h4,-⟩|⟨bb,len2,cap2,junk2,h4,-,-,-,rfl⟩
   ·injection h4 with e1 e2 e3;omega
   injection h4 with e1 e2 e3
   subst e1 e2 e3
   obtain⟨q1,q2⟩:=aE4 hx junk2
   have q20:=q2 0 oQ
   have q21:=q2 1 oQ
   have q22:=q2 2 oQ
   rw [jQ] at q20
   have q20':(σ.acts.flatMap ac++junk2)[k*3]?=some (.int .i64 x.1):=q20
   have q21':(σ.acts.flatMap ac++junk2)[k*3+1]?=some (.int .i64 x.2.1):=q21
   have q22':(σ.acts.flatMap ac++junk2)[k*3+2]?=some (.int .i64 x.2.2):=q22
   have hxl:(ac x).length=3:=rfl
   (refine W.k ?_;repeat intro b_)
   (refine SW.l [] [0,1,2,3,4,5,6,7,8,9,10,11,12,13,14,15,16,17,18,19,20,21,22,23,24,25,26,27,28] ?_)
   (refine W.k ?_;repeat intro b_)
   refine aQ.mk (k+1) ?_
   omega
  ·have:k=σ.acts.length:=oQ
   subst this
   (refine W.k ?_;repeat intro b_)
   refine bT.mk () ?_
   trivial
 ·intro _ _
  (refine W.k ?_;repeat intro b_)
  refine aF (aCm hD) ?_
  rintro _ Hx ⟨rfl,rfl⟩
  (refine W.k ?_;repeat intro b_)
  refine aF (aGE hD 0 σ.len) ?_
  rintro _ _ ⟨s1,Hs1,rfl,hs1,rfl⟩
  have ho1:=hs1.one
  (refine W.k ?_;repeat intro b_)
  refine aF (aEs hE 0 σ.len) ?_
  rintro _ _ ⟨s2,Hs2,rfl,hs2,rfl⟩
  have ho2:=hs2.one
  (refine W.k ?_;repeat intro b_)
  refine aDW (bs:=σ.loadB 0 σ.len) hs1 ?_
  (refine W.k ?_;repeat intro b_)
  refine aDW (bs:=σ.loadB 0 σ.len) hs2 ?_
  (refine W.k ?_;repeat intro b_)
  refine Fin.to (Hx++Hy) ?_
  refine F.f1 ?_
  exact⟨by simp,rfl⟩
end
end Go.Proofs.YtnhnpjokpelkbaaGreat
