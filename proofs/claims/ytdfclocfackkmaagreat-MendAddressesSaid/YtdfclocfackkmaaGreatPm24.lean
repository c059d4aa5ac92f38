/- The document's own device: Store, Load, Pending, Tamper. -/
import Derived.Test.YtdfclocfackkmaaGreatPm18
import Derived.Test.YtdfclocfackkmaaGreatPm19
set_option linter.unusedVariables false
set_option linter.unusedSimpArgs false
set_option linter.unusedSectionVars false
set_option maxHeartbeats 1000000
namespace Go.Proofs.YtdfclocfackkmaaGreat
open Go Go.Proofs.Tryz
theorem aDT(ws:List Wd):rn ws=(lP ws).map bv:=by simp [rn,lP,List.map_flatMap]
theorem aK8(ws:List Wd):rl ws=(kZ ws).map bv:=by simp [rl,kZ,List.map_flatMap]
theorem aPS{J:Type}(f:Wd->List J){ws:List Wd}(hf:∀ w∈ws,(f w).length=8){i:Nat}{u u':Wd}(hu:ws[i/8]?=some u)(c:J)(h8:(f u').length=8)(h:(f u).set (i%8) c=f u'):(ws.flatMap f).set i c=(ws.set (i/8) u').flatMap f:=by
 have hm:i/8<ws.length:=(aD.1 hu).1;have hf':∀ w∈ws.set (i/8) u',(f w).length=8:=fun w hw=>by
  rcases gT hw with hw|rfl
  ·exact hf w hw
  exact h8
 have hl1:=aAf f hf;have hl2:=aAf f hf';rw [cE] at hl2;apply cM;intro k;by_cases hk:k<8*ws.length
 ·obtain⟨x,hx⟩:∃ x,ws[k/8]?=some x:=⟨_,aA oQ⟩;have hj:k%8<8:=Nat.mod_lt _ dQ;have e:k/8*8+k%8=k:=oQ;have g1:=fmU f hf hx hj;rw [e] at g1;rw [dW,hl1];by_cases hki:i/8=k/8
  ·have hx':(ws.set (i/8) u')[k/8]?=some u':=by rw [<-hki];exact nU hm
   have g2:=fmU f hf' hx' hj;rw [e] at g2;rw [<-hki,hu] at hx;cases hx;rw [g2,<-h,dW,g1,hf u (aP hu)];by_cases hik:i=k
   ·subst hik;simp [hj];omega
   have:i%8≠k%8:=oQ;simp [hik,this]
  have hx':(ws.set (i/8) u')[k/8]?=some x:=by rw [List.getElem?_set_ne hki];exact hx
  have g2:=fmU f hf' hx' hj;rw [e] at g2;rw [g2,g1,if_neg (by intro e2;exact hki (by rw [e2]))]
 rw [bF (by rw [cE];omega),bF oQ]
theorem aCK{ws:List Wd}(hok:∀ w∈ws,w.Ok){i:Nat}{u u':Wd}(hu:ws[i/8]?=some u)(c:UInt8)(h:u.now.set (i%8) c=u'.now):(lP ws).set i c=lP (ws.set (i/8) u'):=
 aPS Wd.now (fun w hw=>(hok w hw).1.2) hu c (by rw [<-h,cE];exact (hok u (aP hu)).1.2) h
theorem aIZ{ws:List Wd}(hok:∀ w∈ws,w.Ok){i:Nat}{u u':Wd}(hu:ws[i/8]?=some u)(c:UInt8)(h:u.lasts.set (i%8) c=u'.lasts):(kZ ws).set i c=kZ (ws.set (i/8) u'):=
 aPS Wd.lasts (fun w hw=>(hok w hw).1.1) hu c (by rw [<-h,cE];exact (hok u (aP hu)).1.1) h
theorem uQ{J:Type}(f:Wd->J){ws:List Wd}{m:Nat}{u u':Wd}(hu:ws[m]?=some u)(h:f u'=f u):(ws.set m u').map f=ws.map f:=by
 rw [gC,h];apply cM;intro k;rw [dW];split
 ·rename_i e;subst e;split
  ·rw [aL,hu];rfl
  rename_i h2;simp [(aD.1 hu).1] at h2
 rfl
theorem aBB{J:Type}(f:Wd->List J){ws:List Wd}{m:Nat}{u u':Wd}(hu:ws[m]?=some u)(h:f u'=f u):(ws.set m u').flatMap f=ws.flatMap f:=by rw [gO,gO,uQ f hu h]
def Wd.ps(j:Nat)(c:UInt8)(w:Wd):Wd:=(w.put j c).stored
theorem Wd.ps_ok(j:Nat)(c:UInt8){w:Wd}(h:w.Ok):(w.ps j c).Ok:=Wd.stored_ok (Wd.put_ok j c h)
theorem aD0(ws:List Wd)(i:Nat)(bs:LB):qU ws i bs=fW Wd.ps ws i bs:=by
 have key:∀ l:LB,fW Wd.ps ws i l=iX Wd.stored (i/8) (if l.length=0 then i/8 else (i+l.length-1)/8+1) (fW Wd.put ws i l):=by
  intro l;induction hn:l.length generalizing l with
  | zero=>
   have:l=[]:=bI hn
   subst this
   show ws=iX _ _ _ ws
   rw [if_pos rfl,rB]
  | succ n ih=>
   obtain⟨l',c,rfl⟩:∃ l' c,l=l'++[c]:=⟨l.dropLast,l.getLast (by intro h;subst h;simp at hn),(List.dropLast_concat_getLast _).symm⟩
   have hl':l'.length=n:=by simp at hn;exact hn
   rw [rC,rC,ih l' hl',hl',if_neg (Nat.succ_ne_zero n)]
   unfold nM
   have e:(i+(n+1)-1)/8=(i+n)/8:=by congr 1
   rw [e]
   apply cM
   intro k
   simp only [mG,iX,fD]
   cases hk:(fW Wd.put ws i l')[k]? with
   | none=>simp
   | some u=>
    simp only [Option.map_some,rZ,cR]
    by_cases hm:(i+n)/8=k
    ·subst hm
     rw [if_pos rfl,if_pos (c:=i/8<=(i+n)/8/\(i+n)/8<(i+n)/8+1) ⟨oQ,oQ⟩]
     try rw [if_pos rfl]
     by_cases h1:i/8<=(i+n)/8/\(i+n)/8<(if n=0 then i/8 else (i+n-1)/8+1)
     ·rw [if_pos h1];rfl
     ·rw [if_neg h1];rfl
    ·rw [if_neg hm,if_neg hm]
     have:(i/8<=k/\k<(if n=0 then i/8 else (i+n-1)/8+1))↔(i/8<=k/\k<(i+n)/8+1):=by
      split <;> omega
     simp only [this,id]
 unfold qU;rw [key bs];split
 ·rename_i h0;have:bs=[]:=bI h0;subst this;exact (rB _ _ _).symm
 rfl
section
attribute [local irreducible] SW SL SQ SH SA SS Pu Fin bS aN
theorem aLb{p:Nat}{C:Dv}{H:Hp}(hD:gS p C H)(x:Int)(v:Value)(bs:LB)(hbs:bs.length<=1048576):Tri prog 196 [.pointer (some ⟨p,0,none⟩),.int .i64 x,v] H (fun w=>Rd (H.map Prod.fst) w 1 v (bs.map bv)) (fun v' H'=>v'=.int .i64 (C.actR x bs.length)/\gS p (C.store x bs) H'):=by
 have hr:=wT hD x bs.length;refine Tri.mt func196 ntmps196 fun w hw=>?_;obtain⟨aa,len,cap,rfl,hlen,hcap,hrd⟩:=hw.get;rw [aC,Nat.mul_one] at hlen;subst hlen;refine W.k ?_;refine W.cq hr ?_;by_cases h0:C.rdy x bs.length=0
 ·obtain⟨hdn,hx0,-,hn,hxn⟩:=rQ h0;have ha:=aEP hD hdn 1 x bs.length;rw [h0];refine W.k ?_;refine aF ha ?_;rintro _ H1 ⟨rfl,hD1⟩;by_cases h1:C.actE=0
  ·rw [h1];refine W.k ?_;have hwl:(C.act (1,x,bs.length)).ws.length=C.ws.length:=qR _ _;have hres:C.store x bs=(C.act (1,x,bs.length)).setWs (qU (C.act (1,x,bs.length)).ws x.toNat bs):=by unfold Dv.store;rw [if_pos h0,if_pos h1]
   have hresE:C.actR x bs.length=0:=by unfold Dv.actR;rw [if_pos h0,h1]
   rw [hres,hresE,aD0];have hlen:C.len=8*C.ws.length:=rfl;generalize C.act (1,x,bs.length)=E at hD1 hwl |-;obtain⟨i,rfl⟩:∃ i:Nat,x=i:=⟨x.toNat,oQ⟩;rw [aS];have hN:=hD1.1.n;have hlenτ:E.len=8*E.ws.length:=rfl;obtain⟨hO,bl,bn,bp,bm,vp,va,Hq,Ha,h2,h3,rfl⟩:=hD1;refine cI [0,1,25,26] [bn,bp,bm] (fun k:Nat=>[(27,.int .i64 k)]) (fun k=>[(bn,cl (rn (fW Wd.ps E.ws i (bs.take k))) 5),(bp,cl (rp (fW Wd.ps E.ws i (bs.take k))) 4),(bm,cl (rm (fW Wd.ps E.ws i (bs.take k))) 4)]) (fun k=>bs.length-k) (fun k=>k<=bs.length/\rl (fW Wd.ps E.ws i (bs.take k))=rl E.ws) 0 ⟨Nat.zero_le _,rfl⟩ ?_;rintro k ⟨hk,hrl⟩;have hok:=sD (fun j c w=>Wd.ps_ok j c) (bs.take k) E.ws i hO.ok;have hml:=jJ Wd.ps (bs.take k) E.ws i;have l1:=aET hok;have l2:=uU (fW Wd.ps E.ws i (bs.take k));have l3:=wP (fW Wd.ps E.ws i (bs.take k));by_cases hkl:k<bs.length
   ·obtain⟨b,o,l,T,fz,rfl,hb,hbk,hys⟩:=hrd oQ;obtain⟨c,hc⟩:∃ c,bs[k]?=some c:=⟨_,aA hkl⟩;have hlc:l[o+k]?=some (bv c):=aAJ hys (by simp [hc]);have hm:(i+k)/8<(fW Wd.ps E.ws i (bs.take k)).length:=oQ;have hi1:i+k<(rn (fW Wd.ps E.ws i (bs.take k))).length:=oQ;have hi2:(i+k)/8<(rp (fW Wd.ps E.ws i (bs.take k))).length:=oQ;have hi3:(i+k)/8<(rm (fW Wd.ps E.ws i (bs.take k))).length:=oQ;obtain⟨u,hu⟩:∃ u,(fW Wd.ps E.ws i (bs.take k))[(i+k)/8]?=some u:=⟨_,aA hm⟩;have hsn:fW Wd.ps E.ws i (bs.take (k+1))=(fW Wd.ps E.ws i (bs.take k)).set ((i+k)/8) (u.ps ((i+k)%8) c):=by rw [aY,hc,dI,rC,aH,cO hk];exact pI _ hu
    have e1:(rn (fW Wd.ps E.ws i (bs.take k))).set (i+k) (bv c)=rn (fW Wd.ps E.ws i (bs.take (k+1))):=by rw [hsn,aDT,aDT,<-gC,aCK hok hu c (u':=u.ps ((i+k)%8) c) rfl]
    have e2:(rp (fW Wd.ps E.ws i (bs.take k))).set ((i+k)/8) (.bool true)=rp (fW Wd.ps E.ws i (bs.take (k+1))):=by rw [hsn];unfold rp;rw [gC];rfl
    have e3:(rm (fW Wd.ps E.ws i (bs.take k))).set ((i+k)/8) (.bool false)=rm (fW Wd.ps E.ws i (bs.take (k+1))):=by rw [hsn];unfold rm;rw [gC];rfl
    have e4:rl (fW Wd.ps E.ws i (bs.take (k+1)))=rl E.ws:=by rw [hsn,<-hrl];exact aBB _ hu rfl
    refine W.k ?_;rw [e1,e2,e3];refine aN.mk (k+1) ?_;exact⟨oQ,e4⟩
   have:k=bs.length:=oQ;subst this;rw [bO] at hrl hok hml |-;refine W.k ?_;refine Fin.perm (H':=(p,cl [.slice (some ⟨bl,0,none⟩) E.len E.len,.slice (some ⟨bn,0,none⟩) E.len E.len,.slice (some ⟨bp,0,none⟩) E.ws.length E.ws.length,.slice (some ⟨bm,0,none⟩) E.ws.length E.ws.length,.bool E.down,.int .i64 E.fuse,vp,va] 133)::(bl,cl (rl E.ws) 5)::(bn,cl (rn (fW Wd.ps E.ws i bs)) 5)::(bp,cl (rp (fW Wd.ps E.ws i bs)) 4)::(bm,cl (rm (fW Wd.ps E.ws i bs)) 4)::(Hq++Ha)) ?_ (F.f1 ?_)
   ·simp only [aG];exact (cA (l₁:=[_,_,_]) (l₂:=_::_::(Hq++Ha))).trans (((cA (l₁:=Hq++Ha)).cons _).cons _)
   refine⟨rfl,Dv.setWs_ok hO hml hok,bl,bn,bp,bm,vp,va,Hq,Ha,h2,h3,?_⟩;simp [Dv.setWs,Dv.len,hml,hrl]
  refine W.k ?_;refine F.f1 ?_;have hres:C.store x bs=C.act (1,x,bs.length):=by unfold Dv.store;rw [if_pos h0,if_neg h1]
  have hresE:C.actR x bs.length=C.actE:=by unfold Dv.actR;rw [if_pos h0]
  rw [hres,hresE];refine⟨rfl,?_⟩;simp only [aG];exact hD1
 refine W.k ?_;refine F.f1 ?_;have hres:C.store x bs=C:=by unfold Dv.store;rw [if_neg h0]
 have hresE:C.actR x bs.length=C.rdy x bs.length:=by unfold Dv.actR;rw [if_neg h0]
 rw [hres,hresE];refine⟨rfl,?_⟩;simp only [aG];exact hD
theorem aMT{p:Nat}{C:Dv}{H:Hp}(hD:gS p C H):Tri prog 128 [.pointer (some ⟨p,0,none⟩)] H NT (fun v H'=>v=.int .i64 (aBE C.ws)/\H'=H):=by
 have hN:=hD.1.n;obtain⟨hO,bl,bn,bp,bm,vp,va,Hq,Ha,h2,h3,rfl⟩:=hD;refine Tri.mt func128 ntmps128 fun w hw=>?_;(refine W.k ?_;repeat intro b_);refine cI [9,10] [] (fun k:Nat=>[(11,.int .i64 k),(3,.int .i64 (aBE (C.ws.take k)))]) (fun k=>[]) (fun k=>C.ws.length-k) (fun k=>k<=C.ws.length) 0 (Nat.zero_le _) ?_;intro k hk;by_cases hkl:k<C.ws.length
 ·obtain⟨u,hu⟩:∃ u,C.ws[k]?=some u:=⟨_,aA hkl⟩;have hp:(rp C.ws)[k]?=some (.bool u.pend):=by unfold rp;rw [aL,hu];rfl
  have hstep:=aCQ hu;have hle:=aGi (C.ws.take k);rw [aH] at hle;cases hpe:u.pend
  ·rw [hpe] at hstep hp;(refine W.k ?_;repeat intro b_);refine aN.mk (k+1) ?_ (hr:=?_)
   ·omega
   refine⟨rfl,?_,rfl,rfl,trivial⟩;rw [hstep];rfl
  rw [hpe] at hstep hp;(refine W.k ?_;repeat intro b_);refine aN.mk (k+1) ?_ (hr:=?_)
  ·omega
  refine⟨rfl,?_,rfl,rfl,trivial⟩;rw [hstep];rfl
 have:k=C.ws.length:=oQ;subst this;(refine W.k ?_;repeat intro b_);refine F.f1 ?_;rw [bO];refine⟨rfl,?_⟩;simp
theorem aES{p:Nat}{C:Dv}{H:Hp}(hD:gS p C H)(x n:Int):Tri prog 112 [.pointer (some ⟨p,0,none⟩),.int .i64 x,.int .i64 n] H NT (fun v' H'=>∃ sv Hs,v'=.tuple #[sv,.int .i64 (C.rdy x n)]/\Sl 5 1 sv ((C.loadB x n).map bv) Hs/\H'=Hs++H):=by
 have hr:=wT hD x n;refine Tri.mt func112 ntmps112 fun w hw=>?_;refine W.k ?_;refine W.cq hr ?_;by_cases h0:C.rdy x n=0
 ·obtain⟨hdn,hx0,hn0,hn,hxn⟩:=rQ h0;have hb:C.loadB x n=((lP C.ws).drop x.toNat).take n.toNat:=by unfold Dv.loadB;rw [if_pos h0]
  rw [h0,hb];have hlen:C.len=8*C.ws.length:=rfl;obtain⟨i,rfl⟩:∃ i:Nat,x=i:=⟨x.toNat,oQ⟩;obtain⟨m,rfl⟩:∃ m:Nat,n=m:=⟨n.toNat,oQ⟩;rw [aS,aS];have hN:=hD.1.n;obtain⟨hO,bl,bn,bp,bm,vp,va,Hq,Ha,h2,h3,rfl⟩:=hD;have hnl:=rM hO.ok;have hml:(((lP C.ws).drop i).take m).length=m:=by simp;omega
  by_cases hlt:i<C.len
  ·refine W.k fun b_=>?_;refine W.ap (xs:=[]) (ys:=(((lP C.ws).drop i).take m).map bv) (mm:=m) (Hs:=[(b_,cl [] 5)]) (.inr ⟨b_,0,0,[],rfl,rfl,rfl,Nat.le_refl _,rfl⟩) (fun w2 hs=>?_) (fun v2 Hs2 hv2=>?_) (hys:=by simp;omega) (hbytes:=by simp;omega)
   ·have e:i+m-i=m:=oQ;rw [e];refine eQ.own hs (b:=bn) (l:=rn C.ws) (by rw [aDT,Nat.mul_one,gX,iD]) (by simp;omega)
   refine W.k ?_;refine F.f2 ?_;refine⟨v2,Hs2,rfl,hv2,?_⟩;simp
  refine W.k fun b_=>?_;have hm0:m=0:=oQ;subst hm0;refine bN (oF (l:=i) (h:=i) rfl rfl (.inr ⟨_,_,_,rfl,rfl,rfl⟩) (.inr ⟨_,_,_,rfl,rfl,by simp⟩) (Nat.le_refl _) oQ (vl:=none) (vh:=none)) rfl rfl ?_;rw [dO];refine W.ap (xs:=[]) (ys:=[]) (mm:=0) (Hs:=[(b_,cl [] 5)]) (.inr ⟨b_,0,0,[],rfl,rfl,rfl,Nat.le_refl _,rfl⟩) (fun w2 hs=>eQ.empty _ _ _ _) (fun v2 Hs2 hv2=>?_) (hys:=rfl) (hbytes:=by simp);refine W.k ?_;refine F.f2 ?_;refine⟨v2,Hs2,rfl,by simpa using hv2,?_⟩;simp
 have hb:C.loadB x n=[]:=by unfold Dv.loadB;rw [if_neg h0]
 refine W.k ?_;refine F.f2 ?_;refine⟨_,[],rfl,?_,by simp⟩;rw [hb];exact Sl.nil _ _
theorem aIs:∀ (bs:LB) (ws:List Wd) (i:Nat),(∀ w∈ws,w.Ok)->i+bs.length<=8*ws.length ->
  lP (fW Wd.tam ws i bs)=(lP ws).take i++bs++(lP ws).drop (i+bs.length)/\kZ (fW Wd.tam ws i bs)=(kZ ws).take i++bs++(kZ ws).drop (i+bs.length)/\rp (fW Wd.tam ws i bs)=rp ws/\rm (fW Wd.tam ws i bs)=rm ws
 | [],ws,i,_,_=>by simp [fW]
 | c::t,ws,i,hok,hl=>by
  simp only [aW] at hl;have hm:i/8<ws.length:=oQ;obtain⟨u,hu⟩:∃ u,ws[i/8]?=some u:=⟨_,aA hm⟩;have hB:nM Wd.tam ws i c=ws.set (i/8) (u.tam (i%8) c):=pI _ hu;have hok2:∀ w∈nM Wd.tam ws i c,w.Ok:=by unfold nM;exact xJ (fun w=>Wd.tam_ok _ _) _ hok
  obtain⟨e1,e2,e3,e4⟩:=aIs t (nM Wd.tam ws i c) (i+1) hok2 (by rw [aCJ];omega);have n1:lP (nM Wd.tam ws i c)=(lP ws).set i c:=by rw [hB];exact (aCK hok hu c rfl).symm
  have n2:kZ (nM Wd.tam ws i c)=(kZ ws).set i c:=by rw [hB];exact (aIZ hok hu c rfl).symm
  have l1:=rM hok;have l2:=aA4 hok;have key:∀ (l:LB),i<l.length->(l.set i c).take (i+1)++t++(l.set i c).drop (i+1+t.length)=l.take i++(c::t)++l.drop (i+(t.length+1)):=fun l hi=>by
   rw [List.take_set,aY,aA hi,dI,bY _ _ (by simp;omega)];have e:i-(l.take i).length=0:=by simp;omega
   rw [e,fR,List.drop_set_of_lt oQ];rw [show i+1+t.length=i+(t.length+1) by omega];simp only [aT,lW,dX,List.nil_append]
  refine⟨?_,?_,?_,?_⟩
  ·show lP (fW Wd.tam (nM Wd.tam ws i c) (i+1) t)=_;rw [e1,n1];exact key _ oQ
  ·show kZ (fW Wd.tam (nM Wd.tam ws i c) (i+1) t)=_;rw [e2,n2];exact key _ oQ
  ·show rp (fW Wd.tam (nM Wd.tam ws i c) (i+1) t)=_;rw [e3,hB];exact uQ _ hu rfl
  show rm (fW Wd.tam (nM Wd.tam ws i c) (i+1) t)=_;rw [e4,hB];exact uQ _ hu rfl
theorem aO6{p:Nat}{C:Dv}{H:Hp}(hD:gS p C H)(x:Int)(v:Value)(bs:LB)(hbs:bs.length<=1048576)(hx : -9223372036854775808<=x/\x<=9223372036854775807):Tri prog 45 [.pointer (some ⟨p,0,none⟩),.int .i64 x,v] H (fun w=>Rd (H.map Prod.fst) w 1 v (bs.map bv)) (fun v' H'=>v'=.bool (C.tamB x bs.length)/\gS p (C.tam x bs) H'):=by
 refine Tri.mt func45 ntmps45 fun w hw=>?_;have hrd0:=hw;obtain⟨aa,len,cap,rfl,hlen,hcap,hrd⟩:=hw.get;rw [aC,Nat.mul_one] at hlen;subst hlen;have hlen:C.len=8*C.ws.length:=rfl;have hN:=hD.1.n;have hD0:=hD;obtain⟨hO,bl,bn,bp,bm,vp,va,Hq,Ha,h4,h3,rfl⟩:=hD;by_cases hb:0<=x/\bs.length<=C.len/\x<=(C.len:Int)-bs.length
 ·have ht:C.tamB x bs.length=true:=by unfold Dv.tamB;exact decide_eq_true hb
  have hts:C.tam x bs=C.setWs (fW Wd.tam C.ws x.toNat bs):=by unfold Dv.tam;rw [ht];rfl
  rw [ht,hts];obtain⟨i,rfl⟩:∃ i:Nat,x=i:=⟨x.toNat,oQ⟩;rw [aS];obtain⟨e1,e2,e3,e4⟩:=aIs bs C.ws i hO.ok oQ;have l1:=aET hO.ok;have l2:=aER hO.ok;have hsrc:∀ {H2:Hp} (w2:World),St _ w H2 w2->eQ prog w2 (.slice aa bs.length cap) 1 bs.length (bs.map bv):=fun w2 hs=>hrd0.srcAt hs;have f1:∀ j,j=i\/bs.length=0->(rn C.ws).take j++bs.map bv++(rn C.ws).drop (j+(bs.map bv).length)=rn (fW Wd.tam C.ws i bs):=fun j hj=>by
   rw [aDT,aDT,e1,aZ,aZ,gX,iD,aC];rcases hj with rfl|hj
   ·rfl
   have:bs=[]:=bI hj;subst this;simp
  have f2:∀ j,j=i\/bs.length=0->(rl C.ws).take j++bs.map bv++(rl C.ws).drop (j+(bs.map bv).length)=rl (fW Wd.tam C.ws i bs):=fun j hj=>by
   rw [aK8,aK8,e2,aZ,aZ,gX,iD,aC];rcases hj with rfl|hj
   ·rfl
   have:bs=[]:=bI hj;subst this;simp
  by_cases hlt:i<C.len
  ·(refine W.k ?_;repeat intro b_);refine W.cy (fun w2 hs=>hsrc w2 hs) ?_ (hfit:=by simp;omega);(refine W.k ?_;repeat intro b_);refine W.cy (fun w2 hs=>hsrc w2 hs) ?_ (hfit:=by simp;omega);rw [f1 _ (.inl rfl),f2 _ (.inl rfl)];(refine W.k ?_;repeat intro b_);refine F.f1 ?_;refine⟨rfl,Dv.setWs_ok hO (jJ _ _ _ _) (sD (fun j c w=>Wd.tam_ok j c) bs C.ws i hO.ok),bl,bn,bp,bm,vp,va,Hq,Ha,h4,h3,?_⟩;simp [Dv.setWs,Dv.len,jJ,e3,e4]
  have hz:bs.length=0:=oQ;(refine W.k ?_;repeat intro b_);refine W.cy (fun w2 hs=>hsrc w2 hs) ?_ (hfit:=by simp;omega);(refine W.k ?_;repeat intro b_);refine W.cy (fun w2 hs=>hsrc w2 hs) ?_ (hfit:=by simp;omega);rw [f1 _ (.inr hz),f2 _ (.inr hz)];(refine W.k ?_;repeat intro b_);refine F.f1 ?_;refine⟨rfl,Dv.setWs_ok hO (jJ _ _ _ _) (sD (fun j c w=>Wd.tam_ok j c) bs C.ws i hO.ok),bl,bn,bp,bm,vp,va,Hq,Ha,h4,h3,?_⟩;simp [Dv.setWs,Dv.len,jJ,e3,e4]
 have ht:C.tamB x bs.length=false:=by unfold Dv.tamB;exact decide_eq_false hb
 have hts:C.tam x bs=C:=by unfold Dv.tam;rw [ht];rfl
 rw [ht,hts];repeat' (first|(refine W.go ?_;try intro b_)  | (refine W.cs (fun h_=>?_) (fun h_=>?_) <;> dsimp only [xX] at h_)|(refine aAP rfl (fun h_=>?_) (fun h_=>?_) <;> (try dsimp only [xX] at h_))|refine jG rfl (fun h_=>?_) (fun h_=>?_))
 all_goals first|(exfalso;omega)|skip
 all_goals (refine F.f1 ?_;exact⟨rfl,hD0⟩)
theorem aF3{J:Type}{h:Wd->Wd}(f:Wd->J)(hf:∀ w,f (h w)=f w)(x y:Nat)(ws:List Wd):(iX h x y ws).map f=ws.map f:=by
 apply cM;intro i;simp only [iX,aL,fD];cases ws[i]? with
 | none=>rfl
 | some w=>
  simp only [Option.map_some,cR]
  split
  ·exact hf w
  ·rfl
theorem aAm{J:Type}{h:Wd->Wd}(f:Wd->List J)(hf:∀ w,f (h w)=f w)(x y:Nat)(ws:List Wd):(iX h x y ws).flatMap f=ws.flatMap f:=by rw [gO,gO,aF3 f hf]
theorem aGY{ws:List Wd}{X y w:Nat}{u:Wd}(h1:X<=w)(h2:w<=y)(hu:ws[w]?=some u):(rm (iX Wd.flushed X y ws)).set w (.bool u.pend)=rm (iX Wd.flushed X (max y (w+1)) ws):=by
 have hw:w<ws.length:=(aD.1 hu).1;apply cM;intro k;simp only [rm,iX,dW,aC,nI,aL,fD];by_cases hk:w=k
 ·subst hk;rw [if_pos rfl,if_pos hw,hu];simp only [Option.map_some,cR];rw [if_pos oQ];rfl
 rw [if_neg hk];cases ws[k]? with
 | none=>rfl
 | some x=>
  simp only [Option.map_some,cR]
  have:(X<=k/\k<y)↔(X<=k/\k<max y (w+1)):=oQ
  simp only [this]
def vQ(i t:Nat):Nat:=if t=i then i/64*8 else ((t-1)/64+1)*8
theorem aK6{p:Nat}{C:Dv}{H:Hp}(hD:gS p C H)(h8:C.ws.length%8=0)(x n:Int):Tri prog 197 [.pointer (some ⟨p,0,none⟩),.int .i64 x,.int .i64 n] H NT (fun v' H'=>v'=.int .i64 (C.actR x n)/\gS p (C.flush x n) H'):=by
 have hr:=wT hD x n;refine Tri.mt func197 ntmps197 fun w hw=>?_;refine W.k ?_;refine W.cq hr ?_;by_cases h0:C.rdy x n=0
 ·obtain⟨hdn,hx0,hn0,hn,hxn⟩:=rQ h0;have ha:=aEP hD hdn 2 x n;rw [h0];refine W.k ?_;refine aF ha ?_;rintro _ H1 ⟨rfl,hD1⟩;by_cases h1:C.actE=0
  ·rw [h1];refine W.k ?_;have hwl:(C.act (2,x,n)).ws.length=C.ws.length:=qR _ _;have hres:C.flush x n=(C.act (2,x,n)).setWs (kW (C.act (2,x,n)).ws x.toNat n.toNat):=by unfold Dv.flush;rw [if_pos h0,if_pos h1]
   have hresE:C.actR x n=0:=by unfold Dv.actR;rw [if_pos h0,h1]
   rw [hres,hresE];have hlen:C.len=8*C.ws.length:=rfl;generalize C.act (2,x,n)=E at hD1 hwl |-;obtain⟨i,rfl⟩:∃ i:Nat,x=i:=⟨x.toNat,oQ⟩;obtain⟨m,rfl⟩:∃ m:Nat,n=m:=⟨n.toNat,oQ⟩;rw [aS,aS];have hN:=hD1.1.n;have hlenτ:E.len=8*E.ws.length:=rfl;obtain⟨hO,bl,bn,bp,bm,vp,va,Hq,Ha,h2,h3,rfl⟩:=hD1;refine cI [0,1,2] [bm] (fun t:Nat=>[(8,.int .i64 t)]) (fun t=>[(bm,cl (rm (iX Wd.flushed (i/64*8) (vQ i t) E.ws)) 4)]) (fun t=>i+m-t) (fun t=>i<=t/\t<=i+m) i ⟨Nat.le_refl _,oQ⟩ ?_ (by rw [vQ,if_pos rfl,rB]);rintro t ⟨ht1,ht2⟩;have hu1:t/64*8<=vQ i t:=by unfold vQ;split <;> omega
   have hu2:vQ i t<=(t/64+1)*8:=by unfold vQ;split <;> omega
   have hu3:vQ i (t+1)=(t/64+1)*8:=by unfold vQ;rw [if_neg oQ];rfl
   by_cases htl:t<i+m
   ·refine W.j ?_;refine SW.cut [0,1,2,8] [bm] (fun _:Unit=>[]) (fun _=>[(bm,cl (rm (iX Wd.flushed (i/64*8) (vQ i (t+1)) E.ws)) 4)]) NT ?_ ?_
    ·refine W.k ?_;refine cI [0,1,2,8] [bm] (fun j:Nat=>[(9,.int .i64 j)]) (fun j=>[(bm,cl (rm (iX Wd.flushed (i/64*8) (max (vQ i t) (t/64*8+j)) E.ws)) 4)]) (fun j=>8-j) (fun j=>j<=8) 0 (Nat.zero_le _) ?_ (by rw [jL,Nat.max_eq_left hu1]);intro j hj;by_cases hj8:j<8
     ·have hw:t/64*8+j<E.ws.length:=oQ;obtain⟨u,hu⟩:∃ u,E.ws[t/64*8+j]?=some u:=⟨_,aA hw⟩;have hp:(rp E.ws)[t/64*8+j]?=some (.bool u.pend):=by unfold rp;rw [aL,hu];rfl
      have hst:=aGY (X:=i/64*8) (y:=max (vQ i t) (t/64*8+j)) oQ oQ hu;have hmx:max (max (vQ i t) (t/64*8+j)) (t/64*8+j+1)=max (vQ i t) (t/64*8+(j+1)):=oQ;rw [hmx] at hst;have hlt:t/64*8+j<(rm (iX Wd.flushed (i/64*8) (max (vQ i t) (t/64*8+j)) E.ws)).length:=by rw [wP,oD];exact hw
      refine W.k ?_;(refine SW.l [13] [0,1,2,3,4,5,6,7,8,9,10,11,12] ?_;refine bL 13 ?_;refine W.i ?_;refine SS.dn ?_);rw [hst];refine W.k ?_;refine aN.mk (j+1) ?_;omega
     have:j=8:=oQ;subst this;have e:max (vQ i t) (t/64*8+8)=vQ i (t+1):=oQ;rw [e];refine W.k ?_;refine bS.mk () ?_;trivial
    intro _ _;refine W.k ?_;refine aN.mk (t+1) ?_;omega
   have:t=i+m:=oQ;subst this;have e:iX Wd.flushed (i/64*8) (vQ i (i+m)) E.ws=kW E.ws i m:=by
    unfold kW vQ;by_cases hm:m=0
    ·subst hm;rw [if_pos oQ,if_pos rfl,rB]
    rw [if_neg oQ,if_neg hm]
   have hfl:(kW E.ws i m).length=E.ws.length:=by rw [<-e,oD]
   have hfo:∀ w∈kW E.ws i m,w.Ok:=by rw [<-e];exact xH (fun w=>Wd.flushed_ok) _ _ hO.ok
   have q1:rl (kW E.ws i m)=rl E.ws:=by rw [<-e];exact aAm (h:=Wd.flushed) (fun w=>w.lasts.map bv) (fun w=>rfl) _ _ _
   have q2:rn (kW E.ws i m)=rn E.ws:=by rw [<-e];exact aAm (h:=Wd.flushed) (fun w=>w.now.map bv) (fun w=>rfl) _ _ _
   have q3:rp (kW E.ws i m)=rp E.ws:=by rw [<-e];exact aF3 (h:=Wd.flushed) (fun w=>Value.bool w.pend) (fun w=>rfl) _ _ _
   rw [e];refine W.k ?_;refine Fin.perm (H':=(p,cl [.slice (some ⟨bl,0,none⟩) E.len E.len,.slice (some ⟨bn,0,none⟩) E.len E.len,.slice (some ⟨bp,0,none⟩) E.ws.length E.ws.length,.slice (some ⟨bm,0,none⟩) E.ws.length E.ws.length,.bool E.down,.int .i64 E.fuse,vp,va] 133)::(bl,cl (rl E.ws) 5)::(bn,cl (rn E.ws) 5)::(bp,cl (rp E.ws) 4)::(bm,cl (rm (kW E.ws i m)) 4)::(Hq++Ha)) ?_ (F.f1 ?_)
   ·simp only [aG];exact (gP (l₁:=[_,_,_,_]) (a:=(bm,_)) (l₂:=Hq++Ha)).symm
   refine⟨rfl,Dv.setWs_ok hO hfl hfo,bl,bn,bp,bm,vp,va,Hq,Ha,h2,h3,?_⟩;simp [Dv.setWs,Dv.len,hfl,q1,q2,q3]
  refine W.k ?_;refine F.f1 ?_;have hres:C.flush x n=C.act (2,x,n):=by unfold Dv.flush;rw [if_pos h0,if_neg h1]
  have hresE:C.actR x n=C.actE:=by unfold Dv.actR;rw [if_pos h0]
  rw [hres,hresE];refine⟨rfl,?_⟩;simp only [aG];exact hD1
 refine W.k ?_;refine F.f1 ?_;have hres:C.flush x n=C:=by unfold Dv.flush;rw [if_neg h0]
 have hresE:C.actR x n=C.rdy x n:=by unfold Dv.actR;rw [if_neg h0]
 rw [hres,hresE];refine⟨rfl,?_⟩;simp only [aG];exact hD
theorem aCv(w:Wd):w.fenced.now=w.now:=by unfold Wd.fenced;cases w.mark <;> rfl
theorem aOZ{ws:List Wd}{k:Nat}{u u':Wd}(hok:∀ w∈ws,w.Ok)(hu:ws[k]?=some u)(h:u'.lasts.length=8):(rl ws).take (8*k)++u'.lasts.map bv++(rl ws).drop (8*k+(u'.lasts.map bv).length)=rl (ws.set k u'):=by
 have hk:k<ws.length:=(aD.1 hu).1;have hA:(rl (ws.take k)).length=8*k:=by rw [aER (fun w hw=>hok w (dM hw)),aH];congr 1;omega
 have e:rl ws=rl (ws.take k)++(u.lasts.map bv++rl (ws.drop (k+1))):=qA _ ws k u hu;have hx:(u.lasts.map bv).length=8:=by simpa using (hok u (aP hu)).1.1
 rw [e,aAI hA hx (by simpa using h)];exact (aGZ _ ws k u' hk).symm
theorem aO1{ws:List Wd}{k:Nat}{u:Wd}(hok:∀ w∈ws,w.Ok)(hu:ws[k]?=some u):((rn ws).drop (8*k)).take (8*1)=u.now.map bv:=by
 have hk:k<ws.length:=(aD.1 hu).1;have hA:(rn (ws.take k)).length=8*k:=by rw [aET (fun w hw=>hok w (dM hw)),aH];congr 1;omega
 have e:rn ws=rn (ws.take k)++(u.now.map bv++rn (ws.drop (k+1))):=qA _ ws k u hu;rw [e,aLa hA (by simpa using (hok u (aP hu)).1.2)]
theorem wO{p:Nat}{C:Dv}{H:Hp}(hD:gS p C H):Tri prog 123 [.pointer (some ⟨p,0,none⟩)] H NT (fun v' H'=>v'=.int .i64 (C.actR 0 0)/\gS p C.fence H'):=by
 have hr:=wT hD 0 0;refine Tri.mt func123 ntmps123 fun w hw=>?_;refine W.k ?_;refine W.cq hr ?_;by_cases h0:C.rdy 0 0=0
 ·obtain⟨hdn,-⟩:=rQ h0;have ha:=aEP hD hdn 3 0 0;rw [h0];refine W.k ?_;refine aF ha ?_;rintro _ H1 ⟨rfl,hD1⟩;by_cases h1:C.actE=0
  ·rw [h1];have hres:C.fence=(C.act (3,0,0)).setWs ((C.act (3,0,0)).ws.map Wd.fenced):=by unfold Dv.fence;rw [if_pos h0,if_pos h1]
   have hresE:C.actR 0 0=0:=by unfold Dv.actR;rw [if_pos h0,h1]
   rw [hres,hresE];generalize C.act (3,0,0)=E at hD1 |-;have hN:=hD1.1.n;have hlenτ:E.len=8*E.ws.length:=rfl;obtain⟨hO,bl,bn,bp,bm,vp,va,Hq,Ha,h2,h3,rfl⟩:=hD1;refine W.k ?_;refine cI [0,18] [bl,bp,bm] (fun k:Nat=>[(19,.int .i64 k)]) (fun k=>[(bl,cl (rl (iX Wd.fenced 0 k E.ws)) 5),(bp,cl (rp (iX Wd.fenced 0 k E.ws)) 4),(bm,cl (rm (iX Wd.fenced 0 k E.ws)) 4)]) (fun k=>E.ws.length-k) (fun k=>k<=E.ws.length) 0 (Nat.zero_le _) ?_ (by rw [rB]);intro k hk;by_cases hkl:k<E.ws.length
   ·obtain⟨u,hu⟩:∃ u,E.ws[k]?=some u:=⟨_,aA hkl⟩;have huO:=hO.ok u (aP hu);obtain⟨hk2,hset⟩:=aDJ Wd.fenced 0 k E.ws u (Nat.zero_le _) hu;have hok2:=xH (fun w=>Wd.fenced_ok) 0 k hO.ok;have hmk:(rm (iX Wd.fenced 0 k E.ws))[k]?=some (.bool u.mark):=by unfold rm;rw [aL,hk2];rfl
    have hl2:=uU (iX Wd.fenced 0 k E.ws);have hl3:=wP (iX Wd.fenced 0 k E.ws);have hl1:=aER hok2;rw [oD] at hl1 hl2 hl3;cases hm:u.mark
    ·rw [hm] at hmk;have hfu:u.fenced=u:=by unfold Wd.fenced;rw [hm];rfl
     have hsame:iX Wd.fenced 0 (k+1) E.ws=iX Wd.fenced 0 k E.ws:=by rw [<-hset,hfu];exact aGx hk2
     refine W.k ?_;rw [<-hsame];refine aN.mk (k+1) ?_;omega
    rw [hm] at hmk;have hfu:u.fenced={ lasts:=u.now,now:=u.now,pend:=false,mark:=false }:=by unfold Wd.fenced;rw [hm];rfl
    have hrow:=aO1 hO.ok hu;have e1:=aOZ (u':=u.fenced) hok2 hk2 (by rw [hfu];exact huO.1.2);rw [hset] at e1;have e2:(rp (iX Wd.fenced 0 k E.ws)).set k (.bool false)=rp (iX Wd.fenced 0 (k+1) E.ws):=by rw [<-hset];unfold rp;rw [gC,hfu]
    have e3:(rm (iX Wd.fenced 0 k E.ws)).set k (.bool false)=rm (iX Wd.fenced 0 (k+1) E.ws):=by rw [<-hset];unfold rm;rw [gC,hfu]
    have hn8:(u.now.map bv).length=8:=by simpa using huO.1.2
    have hlt2:k<(rp (iX Wd.fenced 0 k E.ws)).length:=oQ;have hlt3:k<(rm (iX Wd.fenced 0 k E.ws)).length:=oQ;refine W.k ?_;(refine SW.l [20] [0,1,2,3,4,5,6,7,8] ?_;refine dS 9 rfl (aEL rfl rfl rfl rfl oQ oQ) ?_;refine SG.l [10,11,12,13,14,15,16,17,18] ?_;refine dS 19 rfl (aEL rfl rfl rfl rfl oQ oQ) ?_;refine bL 20 ?_);rw [show 8*k+8-8*k=8 by omega];refine W.cy (mm:=8) (fun w2 hs=>eQ.own hs (b:=bn) hrow hn8) ?_ (hfit:=by omega);(refine bB [] ?_;refine SS.dn ?_);rw [show u.now.map bv=u.fenced.lasts.map bv by rw [hfu],e1];refine W.k ?_;rw [e2,e3];refine aN.mk (k+1) ?_;omega
   have:k=E.ws.length:=oQ;subst this;have hfl:(iX Wd.fenced 0 E.ws.length E.ws).length=E.ws.length:=oD _ _ _ _;have hfo:=xH (fun w=>Wd.fenced_ok) 0 E.ws.length hO.ok;have q2:rn (iX Wd.fenced 0 E.ws.length E.ws)=rn E.ws:=aAm (h:=Wd.fenced) (fun w=>w.now.map bv) (fun w=>by rw [aCv]) _ _ _;refine W.k ?_;rw [aF2] at hfl hfo q2 |-;refine Fin.to ((p,cl [.slice (some ⟨bl,0,none⟩) E.len E.len,.slice (some ⟨bn,0,none⟩) E.len E.len,.slice (some ⟨bp,0,none⟩) E.ws.length E.ws.length,.slice (some ⟨bm,0,none⟩) E.ws.length E.ws.length,.bool E.down,.int .i64 E.fuse,vp,va] 133)::(bl,cl (rl (E.ws.map Wd.fenced)) 5)::(bn,cl (rn E.ws) 5)::(bp,cl (rp (E.ws.map Wd.fenced)) 4)::(bm,cl (rm (E.ws.map Wd.fenced)) 4)::(Hq++Ha)) ?_;refine F.f1 ?_;refine⟨rfl,Dv.setWs_ok hO hfl hfo,bl,bn,bp,bm,vp,va,Hq,Ha,h2,h3,?_⟩;simp [Dv.setWs,Dv.len,q2]
  refine W.k ?_;refine F.f1 ?_;have hres:C.fence=C.act (3,0,0):=by unfold Dv.fence;rw [if_pos h0,if_neg h1]
  have hresE:C.actR 0 0=C.actE:=by unfold Dv.actR;rw [if_pos h0]
  rw [hres,hresE];refine⟨rfl,?_⟩;simp only [aG];exact hD1
 refine W.k ?_;refine F.f1 ?_;have hres:C.fence=C:=by unfold Dv.fence;rw [if_neg h0]
 have hresE:C.actR 0 0=C.rdy 0 0:=by unfold Dv.actR;rw [if_neg h0]
 rw [hres,hresE];refine⟨rfl,?_⟩;simp only [aG];exact hD
end
theorem aDK{f:Nat->UInt8->Wd->Wd}{J:Wd->Prop}(hf:∀ j c w,J w->J (f j c w)):∀ (bs:LB) (ws:List Wd) (i:Nat),(∀ w∈ws,J w)->∀ w∈fW f ws i bs,J w
 | [],ws,i,h=>h
 | c::t,ws,i,h=>aDK hf t _ _ (fun w hw=>by
  unfold nM at hw;obtain⟨k,hk⟩:=cW.1 hw;rw [mG] at hk;cases hu:ws[k]? with
  | none=>rw [hu] at hk;simp at hk
  | some u=>
   rw [hu] at hk
   have hm:=h u (aP hu)
   simp only [rZ,Option.map_some,cR] at hk
   rw [<-hk]
   split
   ·exact hf _ _ u hm
   ·exact hm)
def spl(l:LB)(i:Nat)(bs:LB):LB:=l.take i++bs++l.drop (i+bs.length)
theorem aIc:∀ (bs:LB) (ws:List Wd) (i:Nat),(∀ w∈ws,w.Ok)->i+bs.length<=8*ws.length ->
  lP (fW Wd.ps ws i bs)=spl (lP ws) i bs/\kZ (fW Wd.ps ws i bs)=kZ ws
 | [],ws,i,_,_=>by simp [fW,spl]
 | c::t,ws,i,hok,hl=>by
  simp only [aW] at hl;have hm:i/8<ws.length:=oQ;obtain⟨u,hu⟩:∃ u,ws[i/8]?=some u:=⟨_,aA hm⟩;have hB:nM Wd.ps ws i c=ws.set (i/8) (u.ps (i%8) c):=pI _ hu;have hok2:∀ w∈nM Wd.ps ws i c,w.Ok:=by unfold nM;exact xJ (fun w=>Wd.ps_ok _ _) _ hok
  obtain⟨e1,e2⟩:=aIc t (nM Wd.ps ws i c) (i+1) hok2 (by rw [aCJ];omega);have n1:lP (nM Wd.ps ws i c)=(lP ws).set i c:=by rw [hB];exact (aCK hok hu c rfl).symm
  have n2:kZ (nM Wd.ps ws i c)=kZ ws:=by rw [hB];exact aBB _ hu rfl
  have l1:=rM hok;have key:∀ (l:LB),i<l.length->(l.set i c).take (i+1)++t++(l.set i c).drop (i+1+t.length)=l.take i++(c::t)++l.drop (i+(t.length+1)):=fun l hi=>by
   rw [List.take_set,aY,aA hi,dI,bY _ _ (by simp;omega)];have e:i-(l.take i).length=0:=by simp;omega
   rw [e,fR,List.drop_set_of_lt oQ];rw [show i+1+t.length=i+(t.length+1) by omega];simp only [aT,lW,dX,List.nil_append]
  refine⟨?_,?_⟩
  ·show lP (fW Wd.ps (nM Wd.ps ws i c) (i+1) t)=_;rw [e1,n1];exact key _ oQ
  show kZ (fW Wd.ps (nM Wd.ps ws i c) (i+1) t)=_;rw [e2,n2]
structure Dv.Live(C:Dv):Prop where
 d:C.down=false
 f:C.fuse=0
theorem aMH(C:Dv)(a:Int×Int×Int):(C.push a).ws=C.ws/\(C.push a).down=C.down/\(C.push a).fuse=C.fuse:=by unfold Dv.push;split <;> exact⟨rfl,rfl,rfl⟩
theorem Dv.Live.act{C:Dv}(h:C.Live)(a:Int×Int×Int):(C.act a).Live/\(C.act a).ws=C.ws/\C.actE=0:=by
 have e:C.act a=C.push a:=by unfold Dv.act;rw [if_neg (by rw [h.f];decide)]
 obtain⟨h1,h2,h3⟩:=aMH C a;rw [e];exact⟨⟨h2.trans h.d,h3.trans h.f⟩,h1,by unfold Dv.actE;rw [if_neg (by rw [h.f];decide)]⟩
theorem Dv.Live.rdy{C:Dv}(h:C.Live){x n:Int}(hx:0<=x)(hn:0<=n)(hl:x+n<=C.len):C.rdy x n=0:=by unfold Dv.rdy;rw [if_neg (by rw [h.d];decide),if_neg oQ]
theorem Dv.Live.store{C:Dv}(h:C.Live){i:Nat}{bs:LB}(hl:i+bs.length<=C.len):(C.store i bs).Live/\(C.store i bs).ws=fW Wd.ps C.ws i bs/\C.actR i bs.length=0:=by have hr:C.rdy i bs.length=0:=h.rdy oQ oQ oQ;obtain⟨h1,h2,h3⟩:=h.act (1,(i:Int),(bs.length:Int));unfold Dv.store Dv.actR;rw [if_pos hr,if_pos h3,if_pos hr];exact⟨⟨h1.d,h1.f⟩,by show qU _ _ _=_;rw [h2,aS,aD0],h3⟩
theorem Dv.Live.flush{C:Dv}(h:C.Live){i n:Nat}(hl:i+n<=C.len):(C.flush i n).Live/\(C.flush i n).ws=kW C.ws i n/\C.actR i n=0:=by have hr:C.rdy i n=0:=h.rdy oQ oQ oQ;obtain⟨h1,h2,h3⟩:=h.act (2,(i:Int),(n:Int));unfold Dv.flush Dv.actR;rw [if_pos hr,if_pos h3,if_pos hr];exact⟨⟨h1.d,h1.f⟩,by show kW _ _ _=_;rw [h2,aS,aS],h3⟩
theorem Dv.Live.fence{C:Dv}(h:C.Live):C.fence.Live/\C.fence.ws=C.ws.map Wd.fenced/\C.actR 0 0=0:=by have hr:C.rdy 0 0=0:=h.rdy oQ oQ oQ;obtain⟨h1,h2,h3⟩:=h.act (3,0,0);unfold Dv.fence Dv.actR;rw [if_pos hr,if_pos h3,if_pos hr];exact⟨⟨h1.d,h1.f⟩,by show List.map _ _=_;rw [h2],h3⟩
theorem aGX(ws:List Wd)(i n:Nat):lP (kW ws i n)=lP ws/\kZ (kW ws i n)=kZ ws:=by
 unfold kW;split
 ·exact⟨rfl,rfl⟩
 exact⟨aAm (h:=Wd.flushed) Wd.now (fun w=>rfl) _ _ _,aAm (h:=Wd.flushed) Wd.lasts (fun w=>rfl) _ _ _⟩
section
attribute [local irreducible] SW SL SQ SH SA SS Pu Fin bS aN
def i64(x:Int):Prop := -9223372036854775808<=x/\x<=9223372036854775807
def rhd(bl bn bp bm:Nat)(C:Dv)(vp:Value)(aa:Option Addr)(ca:Nat):LV:=[.slice (some ⟨bl,0,none⟩) C.len C.len,.slice (some ⟨bn,0,none⟩) C.len C.len,.slice (some ⟨bp,0,none⟩) C.ws.length C.ws.length,.slice (some ⟨bm,0,none⟩) C.ws.length C.ws.length,.bool C.down,.int .i64 C.fuse,vp,.slice aa C.acts.length ca]
theorem gS.hd2{p:Nat}{C:Dv}{H:Hp}(h:gS p C H):∃ bl bn bp bm vp aa ca,At H p (cl (rhd bl bn bp bm C vp aa ca) 133)/\At H bl (cl (rl C.ws) 5)/\At H bn (cl (rn C.ws) 5) /\ (0<C.acts.length->∃ ba junk,aa=some ⟨ba,0,none⟩/\At H ba (cl (C.acts.flatMap ac++junk) 245)):=by
 obtain⟨hO,bl,bn,bp,bm,vp,va,Hq,Ha,h1,h2,rfl⟩:=h;obtain⟨aa,la,ca,rfl,hla⟩:=h2.form;have hla2:la=C.acts.length:=by rw [lX ac 3 _ (fun x _=>rfl)] at hla;omega
 subst hla2;refine⟨bl,bn,bp,bm,vp,aa,ca,by unfold rhd;infer_instance,inferInstance,inferInstance,fun h0=>?_⟩;rcases h2 with ⟨h3,h4,-⟩|⟨b,len,cap,junk,h3,-,-,-,rfl⟩
 ·injection h3 with e1 e2 e3;omega
 injection h3 with e1 e2 e3;exact⟨b,junk,e1,inferInstance⟩
theorem aFv{acts:List (Int×Int×Int)}{k:Nat}{a:Int×Int×Int}(h:acts[k]?=some a)(junk:LV):((acts.flatMap ac++junk).drop (k*3)).take 3=ac a/\∀ j,j<3->(acts.flatMap ac++junk)[k*3+j]?=(ac a)[j]?:=by
 have hk:k<acts.length:=(aD.1 h).1;have hA:((acts.take k).flatMap ac).length=k*3:=by rw [lX ac 3 _ (fun x _=>rfl),aH];congr 1;omega
 rw [qA ac acts k a h,aT,aT];constructor
 ·rw [eR hA,cT (show (ac a).length=3 from rfl)]
 intro j hj;rw [aV oQ,hA,dB,aJ hj]
theorem aLf{p e:Nat}{C:Dv}{Hx Hy:Hp}(hD:eX p C Hx)(hE:gS e C Hy):Tri prog 51 [.pointer (some ⟨p,0,none⟩),.pointer (some ⟨e,0,none⟩)] (Hx++Hy) NT (fun v H'=>v=.bool true/\H'=Hx++Hy):=by
 obtain⟨bl,bn,bp,bm,vp,aa,ca,hat,hatl,hatn,hacts⟩:=hE.hd2;unfold rhd at hat;have hok:=hE.1.ok;have hN:=hE.1.n;have hAc:=hE.1.a;have hlen:C.len=8*C.ws.length:=rfl;have ll:=aA4 hok;have nl:=rM hok;have hyl:((rl C.ws).drop 0).take C.len=cbs (kZ C.ws):=by rw [aK8,bQ,aK (by simp;omega)];rfl
 have hyn:((rn C.ws).drop 0).take C.len=cbs (lP C.ws):=by rw [aDT,bQ,aK (by simp;omega)];rfl
 have hld:C.rdy 0 C.len=(if C.down=true then 8 else 0):=by
  unfold Dv.rdy;split
  ·rfl
  rw [if_neg oQ]
 refine Tri.mt func51 ntmps51 fun w hw=>?_;(refine W.k ?_;repeat intro b_);(refine SW.l [19,21] [0,2,3,4,5] ?_;refine aX 1 ?_);refine aF (aHX hD) ?_;rintro _ Hx ⟨rfl,rfl⟩;(refine bB [] ?_;refine dS 6 rfl (aHe rfl rfl rfl rfl) ?_;refine SG.l [7,8,10,11,12,13,14] ?_;(first|refine cY 9 rfl ?_;refine SG.l [15,16,17,18,20] ?_;(first|refine cY 19 rfl ?_;(first|refine cY 21 rfl ?_;refine SG.l [22,23,24,25,28,29,30,31,32] ?_;(first|refine cY 26 rfl ?_;refine SG.l [27,33,34,35] ?_|refine aX 26 ?_)|refine bL 21 ?_)|refine bL 19 ?_)|refine aX 9 ?_));refine aF (aCA hD) ?_;rintro _ Hx ⟨rfl,rfl⟩;(refine SL.l [15,16,17,18,20] ?_;(first|refine cY 19 rfl ?_;(first|refine cY 21 rfl ?_;refine SG.l [22,23,24,25,28,29,30,31,32] ?_;(first|refine cY 26 rfl ?_;refine SG.l [27,33,34,35] ?_|refine aX 26 ?_)|refine bL 21 ?_)|refine bL 19 ?_));refine aF (aOO hD) ?_;rintro _ Hx ⟨rfl,rfl⟩;(refine bB [] ?_;(first|refine cY 21 rfl ?_;refine SG.l [22,23,24,25,28,29,30,31,32] ?_;(first|refine cY 26 rfl ?_;refine SG.l [27,33,34,35] ?_|refine aX 26 ?_)|refine bL 21 ?_));refine aF (aMT hE) ?_;rintro _ Hy ⟨rfl,rfl⟩;(refine SL.l [22,23,24,25,28,29,30,31] ?_;(first|refine cY 32 rfl ?_|refine aLN 32 [] rfl (bs:=kZ C.ws) hyl oQ ?_);(first|refine cY 26 rfl ?_;refine SG.l [27,33,34,35] ?_|refine aX 26 ?_));refine aF (aMm hD) ?_;rintro iv _ ⟨Hi,hi,rfl⟩;have hio:=hi.one;(refine bB [] ?_;(first|refine cY 27 rfl ?_|refine aHA hi 27 [] rfl ?_);(first|refine cY 33 rfl ?_|refine dS 33 rfl (aH4 rfl rfl rfl rfl) ?_);refine SG.l [34,35] ?_);(refine W.k ?_;repeat intro b_);refine aF (aGQ hD) ?_;rintro _ _ ⟨Hs,rfl,h3⟩;obtain⟨ab,lb,cb,rfl,hlb⟩:=h3.form;have hlb2:lb=C.acts.length:=by rw [lX ac 3 _ (fun x _=>rfl)] at hlb;omega
 subst hlb2;(refine W.j ?_;repeat intro b_);refine SW.cut [0,1] [] (fun _:Unit=>[]) (fun _=>[]) NT ?_ ?_
 ·(refine W.k ?_;repeat intro b_);refine cI [0,1,5,60,61] [] (fun k:Nat=>[(62,.int .i64 k)]) (fun k=>[]) (fun k=>C.acts.length-k) (fun k=>k<=C.acts.length) 0 (Nat.zero_le _) ?_;intro k hk;by_cases hkl:k<C.acts.length
  ·obtain⟨ba,junk,rfl,hatA⟩:=hacts oQ;obtain⟨x,hx⟩:∃ x,C.acts[k]?=some x:=⟨_,aA hkl⟩;obtain⟨r1,r2⟩:=aFv hx junk;rcases h3 with ⟨h4,-⟩|⟨bb,len2,cap2,junk2,h4,-,-,-,rfl⟩
   ·injection h4 with e1 e2 e3;omega
   injection h4 with e1 e2 e3;subst e1 e2 e3;obtain⟨q1,q2⟩:=aFv hx junk2;have q20:=q2 0 oQ;have q21:=q2 1 oQ;have q22:=q2 2 oQ;rw [jL] at q20;have q20':(C.acts.flatMap ac++junk2)[k*3]?=some (.int .i64 x.1):=q20;have q21':(C.acts.flatMap ac++junk2)[k*3+1]?=some (.int .i64 x.2.1):=q21;have q22':(C.acts.flatMap ac++junk2)[k*3+2]?=some (.int .i64 x.2.2):=q22;have hxl:(ac x).length=3:=rfl;(refine W.k ?_;repeat intro b_);(refine SW.l [] [0,1,2,3,4,5,6,7,8,9,10,11,12,13,14,15,16,17,18,19,20,21,22,23,24,25,26,27,28] ?_);(refine W.k ?_;repeat intro b_);refine aN.mk (k+1) ?_;omega
  have:k=C.acts.length:=oQ;subst this;(refine W.k ?_;repeat intro b_);refine bS.mk () ?_;trivial
 intro _ _;(refine W.k ?_;repeat intro b_);refine aF (aCA hD) ?_;rintro _ Hx ⟨rfl,rfl⟩;(refine W.k ?_;repeat intro b_);refine aF (aG9 hD 0 C.len) ?_;rintro _ _ ⟨s1,Hs1,rfl,hs1,rfl⟩;have ho1:=hs1.one;(refine W.k ?_;repeat intro b_);refine aF (aES hE 0 C.len) ?_;rintro _ _ ⟨s2,Hs2,rfl,hs2,rfl⟩;have ho2:=hs2.one;(refine W.k ?_;repeat intro b_);refine aEc (bs:=C.loadB 0 C.len) hs1 ?_;(refine W.k ?_;repeat intro b_);refine aEc (bs:=C.loadB 0 C.len) hs2 ?_;(refine W.k ?_;repeat intro b_);refine Fin.to (Hx++Hy) ?_;refine F.f1 ?_;exact⟨by simp,rfl⟩
end
end Go.Proofs.YtdfclocfackkmaaGreat
