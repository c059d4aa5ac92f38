/- The document's own device: Store, Load, Pending, Tamper. -/
import Derived.Test.YtnigolgkkjidiaaGreatPm18
set_option linter.unusedVariables false
set_option linter.unusedSimpArgs false
set_option linter.unusedSectionVars false
namespace Go.Proofs.YtnigolgkkjidiaaGreat
open Go
theorem rn_eq(ws:List Wd):rn ws=(nowB ws).map bv:=by simp [rn,nowB,List.map_flatMap]
theorem ext8{α:Type}(f:Wd→List α){ws:List Wd}(hf:∀ w∈ws,(f w).length=8){i:Nat}{u u':Wd}(hu:ws[i/8]?=some u)(c:α)(h8:(f u').length=8)(h:(f u).set (i%8) c=f u'):(ws.flatMap f).set i c=(ws.set (i/8) u').flatMap f:=by
 have hm:i/8<ws.length:=(List.getElem?_eq_some_iff.1 hu).1
 have hf':∀ w∈ws.set (i/8) u',(f w).length=8:=fun w hw=>by
  rcases List.mem_or_eq_of_mem_set hw with hw|rfl
  ·exact hf w hw
  ·exact h8
 have hl1:=fmU_len f hf
 have hl2:=fmU_len f hf'
 rw [List.length_set] at hl2
 apply List.ext_getElem?
 intro k
 by_cases hk:k<8*ws.length
 ·obtain⟨x,hx⟩:∃ x,ws[k/8]?=some x:=⟨_,List.getElem?_eq_getElem (by omega)⟩
  have hj:k%8<8:=Nat.mod_lt _ (by decide)
  have e:k/8*8+k%8=k:=by omega
  have g1:=fmU f hf hx hj
  rw [e] at g1
  rw [List.getElem?_set,hl1]
  by_cases hki:i/8=k/8
  ·have hx':(ws.set (i/8) u')[k/8]?=some u':=by rw [← hki];exact List.getElem?_set_self hm
   have g2:=fmU f hf' hx' hj
   rw [e] at g2
   rw [← hki,hu] at hx
   cases hx
   rw [g2,← h,List.getElem?_set,g1,hf u (List.mem_of_getElem? hu)]
   by_cases hik:i=k
   ·subst hik;simp [hj];omega
   ·have:i%8≠k%8:=by omega
    simp [hik,this]
  ·have hx':(ws.set (i/8) u')[k/8]?=some x:=by rw [List.getElem?_set_ne hki];exact hx
   have g2:=fmU f hf' hx' hj
   rw [e] at g2
   rw [g2,g1,if_neg (by intro e2;exact hki (by rw [e2]))]
 ·rw [List.getElem?_eq_none (by rw [List.length_set];omega),List.getElem?_eq_none (by omega)]
theorem nowB_set{ws:List Wd}(hok:∀ w∈ws,w.Ok){i:Nat}{u u':Wd}(hu:ws[i/8]?=some u)(c:UInt8)(h:u.now.set (i%8) c=u'.now):(nowB ws).set i c=nowB (ws.set (i/8) u'):=
 ext8 Wd.now (fun w hw=>(hok w hw).1.2) hu c (by rw [← h,List.length_set];exact (hok u (List.mem_of_getElem? hu)).1.2) h
theorem map_set_same{α:Type}(f:Wd→α){ws:List Wd}{m:Nat}{u u':Wd}(hu:ws[m]?=some u)(h:f u'=f u):(ws.set m u').map f=ws.map f:=by
 rw [List.map_set,h]
 apply List.ext_getElem?
 intro k
 rw [List.getElem?_set]
 split
 ·rename_i e;subst e
  split
  ·rw [List.getElem?_map,hu];rfl
  ·rename_i h2;simp [(List.getElem?_eq_some_iff.1 hu).1] at h2
 ·rfl
theorem fm_set_same{α:Type}(f:Wd→List α){ws:List Wd}{m:Nat}{u u':Wd}(hu:ws[m]?=some u)(h:f u'=f u):(ws.set m u').flatMap f=ws.flatMap f:=by
 rw [List.flatMap_def,List.flatMap_def,map_set_same f hu h]
def Wd.ps(j:Nat)(c:UInt8)(w:Wd):Wd:=(w.put j c).stored
theorem Wd.ps_ok(j:Nat)(c:UInt8){w:Wd}(h:w.Ok):(w.ps j c).Ok:=Wd.stored_ok (Wd.put_ok j c h)
theorem storeW_ps(ws:List Wd)(i:Nat)(bs:List UInt8):storeW ws i bs=modL Wd.ps ws i bs:=by
 have key:∀ l:List UInt8,modL Wd.ps ws i l=mapR Wd.stored (i/8) (if l.length=0 then i/8 else (i+l.length-1)/8+1) (modL Wd.put ws i l):=by
  intro l
  induction hn:l.length generalizing l with
  | zero=>
   have:l=[]:=List.eq_nil_of_length_eq_zero hn
   subst this
   show ws=mapR _ _ _ ws
   rw [if_pos rfl,mapR_none]
  | succ n ih=>
   obtain⟨l',c,rfl⟩:∃ l' c,l=l'++[c]:=⟨l.dropLast,l.getLast (by intro h;subst h;simp at hn),(List.dropLast_concat_getLast _).symm⟩
   have hl':l'.length=n:=by simp at hn;exact hn
   rw [modL_snoc,modL_snoc,ih l' hl',hl',if_neg (Nat.succ_ne_zero n)]
   unfold modB
   have e:(i+(n+1)-1)/8=(i+n)/8:=by congr 1
   rw [e]
   apply List.ext_getElem?
   intro k
   simp only [List.getElem?_modify,mapR,List.getElem?_mapIdx]
   cases hk:(modL Wd.put ws i l')[k]? with
   | none=>simp
   | some u=>
    simp only [Option.map_some,Option.map_eq_map,Option.some.injEq]
    by_cases hm:(i+n)/8=k
    ·subst hm
     rw [if_pos rfl,if_pos (c:=i/8≤(i+n)/8∧(i+n)/8<(i+n)/8+1) ⟨by omega,by omega⟩]
     try rw [if_pos rfl]
     by_cases h1:i/8≤(i+n)/8∧(i+n)/8<(if n=0 then i/8 else (i+n-1)/8+1)
     ·rw [if_pos h1];rfl
     ·rw [if_neg h1];rfl
    ·rw [if_neg hm,if_neg hm]
     have:(i/8≤k∧k<(if n=0 then i/8 else (i+n-1)/8+1))↔(i/8≤k∧k<(i+n)/8+1):=by
      split <;> omega
     simp only [this,id]
 unfold storeW
 rw [key bs]
 split
 ·rename_i h0
  have:bs=[]:=List.eq_nil_of_length_eq_zero h0
  subst this
  exact (mapR_none _ _ _).symm
 ·rfl
attribute [local irreducible] SW SL SQ SH SA SS Pu Fin CutF HandF
theorem rstore_p{p:Nat}{σ:Dv}{H:Hp}(hD:DevR p σ H)(x:Int)(v:Value)(bs:List UInt8)(hbs:bs.length≤1048576):Tri Tryz.prog 244 [.pointer (some ⟨p,0,none⟩),.int .i64 x,v] H (fun w=>Rd (H.map Prod.fst) w 1 v (bs.map bv))
  (fun v' H'=>v'=.int .i64 (σ.actR x bs.length)∧DevR p (σ.store x bs) H'):=by
 have hr:=rready_p hD x bs.length
 refine Tri.mk Tryz.func244 rfl Tryz.ntmps244 rfl fun w hw=>?_
 obtain⟨aa,len,cap,rfl,hlen,hcap,hrd⟩:=hw.get
 rw [List.length_map,Nat.mul_one] at hlen
 subst hlen
 repeat' (refine W.go ?_;try intro b_)
 refine W.call hr ?_
 rintro _ _ ⟨rfl,rfl⟩
 by_cases h0:σ.rdy x bs.length=0
 ·obtain⟨hdn,hx0,-,hn,hxn⟩:=rdy_zero h0
  have ha:=ract_p hD hdn 1 x bs.length
  rw [h0]
  repeat' (refine W.go ?_;try intro b_)
  refine W.call ha ?_
  rintro _ H1 ⟨rfl,hD1⟩
  by_cases h1:σ.actE=0
  ·rw [h1]
   repeat' (refine W.go ?_;try intro b_)
   have hwl:(σ.act (1,x,bs.length)).ws.length=σ.ws.length:=act_wl _ _
   have hres:σ.store x bs=(σ.act (1,x,bs.length)).setWs (storeW (σ.act (1,x,bs.length)).ws x.toNat bs):=by unfold Dv.store;rw [if_pos h0,if_pos h1]
   have hresE:σ.actR x bs.length=0:=by unfold Dv.actR;rw [if_pos h0,h1]
   rw [hres,hresE,storeW_ps]
   have hlen:σ.len=8*σ.ws.length:=rfl
   generalize σ.act (1,x,bs.length)=τ at hD1 hwl ⊢
   obtain⟨i,rfl⟩:∃ i:Nat,x=i:=⟨x.toNat,by omega⟩
   rw [Int.toNat_natCast]
   have hN:=hD1.1.n
   have hlenτ:τ.len=8*τ.ws.length:=rfl
   obtain⟨hO,bl,bn,bp,bm,vp,va,Hq,Ha,h2,h3,rfl⟩:=hD1
   refine SW.loopG [0,1,25,26] [bn,bp,bm] (fun k:Nat=>[(27,.int .i64 k)]) (fun k=>[(bn,cl (rn (modL Wd.ps τ.ws i (bs.take k))) 5),(bp,cl (rp (modL Wd.ps τ.ws i (bs.take k))) 4),(bm,cl (rm (modL Wd.ps τ.ws i (bs.take k))) 4)]) (fun k=>bs.length-k) (fun k=>k≤bs.length∧rl (modL Wd.ps τ.ws i (bs.take k))=rl τ.ws) 0 ⟨Nat.zero_le _,rfl⟩ ?_
   rintro k ⟨hk,hrl⟩
   have hok:=modL_ok (fun j c w=>Wd.ps_ok j c) (bs.take k) τ.ws i hO.ok
   have hml:=modL_len Wd.ps (bs.take k) τ.ws i
   have l1:=rn_len hok
   have l2:=rp_len (modL Wd.ps τ.ws i (bs.take k))
   have l3:=rm_len (modL Wd.ps τ.ws i (bs.take k))
   by_cases hkl:k<bs.length
   ·obtain⟨b,o,l,T,fz,rfl,hb,hbk,hys⟩:=hrd (by omega)
    obtain⟨c,hc⟩:∃ c,bs[k]?=some c:=⟨_,List.getElem?_eq_getElem hkl⟩
    have hlc:l[o+k]?=some (bv c):=take_get hys (by simp [hc])
    have hm:(i+k)/8<(modL Wd.ps τ.ws i (bs.take k)).length:=by omega
    have hi1:i+k<(rn (modL Wd.ps τ.ws i (bs.take k))).length:=by omega
    have hi2:(i+k)/8<(rp (modL Wd.ps τ.ws i (bs.take k))).length:=by omega
    have hi3:(i+k)/8<(rm (modL Wd.ps τ.ws i (bs.take k))).length:=by omega
    obtain⟨u,hu⟩:∃ u,(modL Wd.ps τ.ws i (bs.take k))[(i+k)/8]?=some u:=⟨_,List.getElem?_eq_getElem hm⟩
    have hsn:modL Wd.ps τ.ws i (bs.take (k+1))=(modL Wd.ps τ.ws i (bs.take k)).set ((i+k)/8) (u.ps ((i+k)%8) c):=by
     rw [List.take_add_one,hc,Option.toList_some,modL_snoc,List.length_take,Nat.min_eq_left hk]
     exact modify_set _ hu
    have e1:(rn (modL Wd.ps τ.ws i (bs.take k))).set (i+k) (bv c)=rn (modL Wd.ps τ.ws i (bs.take (k+1))):=by
     rw [hsn,rn_eq,rn_eq,← List.map_set,nowB_set hok hu c (u':=u.ps ((i+k)%8) c) rfl]
    have e2:(rp (modL Wd.ps τ.ws i (bs.take k))).set ((i+k)/8) (.bool true)=rp (modL Wd.ps τ.ws i (bs.take (k+1))):=by
     rw [hsn];unfold rp;rw [List.map_set];rfl
    have e3:(rm (modL Wd.ps τ.ws i (bs.take k))).set ((i+k)/8) (.bool false)=rm (modL Wd.ps τ.ws i (bs.take (k+1))):=by
     rw [hsn];unfold rm;rw [List.map_set];rfl
    have e4:rl (modL Wd.ps τ.ws i (bs.take (k+1)))=rl τ.ws:=by
     rw [hsn,← hrl];exact fm_set_same _ hu rfl
    repeat' (refine W.go ?_;try intro b_)
    rw [e1,e2,e3]
    refine HandF.mk (k+1) ?_
    exact⟨by omega,e4⟩
   ·have:k=bs.length:=by omega
    subst this
    rw [List.take_length] at hrl hok hml ⊢
    repeat' (refine W.go ?_;try intro b_)
    refine Fin.perm (H':=(p,cl [.slice (some ⟨bl,0,none⟩) τ.len τ.len,.slice (some ⟨bn,0,none⟩) τ.len τ.len,.slice (some ⟨bp,0,none⟩) τ.ws.length τ.ws.length,.slice (some ⟨bm,0,none⟩) τ.ws.length τ.ws.length,.bool τ.down,.int .i64 τ.fuse,vp,va] 54)::(bl,cl (rl τ.ws) 5)::(bn,cl (rn (modL Wd.ps τ.ws i bs)) 5)::(bp,cl (rp (modL Wd.ps τ.ws i bs)) 4)::(bm,cl (rm (modL Wd.ps τ.ws i bs)) 4)::(Hq++Ha)) ?_ (F.f1 ?_)
    ·simp only [List.append_nil]
     exact (List.perm_append_comm (l₁:=[_,_,_]) (l₂:=_::_::(Hq++Ha))).trans (((List.perm_append_comm (l₁:=Hq++Ha)).cons _).cons _)
    refine⟨rfl,Dv.setWs_ok hO hml hok,bl,bn,bp,bm,vp,va,Hq,Ha,h2,h3,?_⟩
    simp [Dv.setWs,Dv.len,hml,hrl]
  ·repeat' (refine W.go ?_;try intro b_)
   refine F.f1 ?_
   have hres:σ.store x bs=σ.act (1,x,bs.length):=by unfold Dv.store;rw [if_pos h0,if_neg h1]
   have hresE:σ.actR x bs.length=σ.actE:=by unfold Dv.actR;rw [if_pos h0]
   rw [hres,hresE];refine⟨rfl,?_⟩;simp only [List.append_nil];exact hD1
 ·repeat' (refine W.go ?_;try intro b_)
  refine F.f1 ?_
  have hres:σ.store x bs=σ:=by unfold Dv.store;rw [if_neg h0]
  have hresE:σ.actR x bs.length=σ.rdy x bs.length:=by unfold Dv.actR;rw [if_neg h0]
  rw [hres,hresE];refine⟨rfl,?_⟩;simp only [List.append_nil];exact hD
theorem rload_p{p:Nat}{σ:Dv}{H:Hp}(hD:DevR p σ H)(x n:Int):Tri Tryz.prog 281 [.pointer (some ⟨p,0,none⟩),.int .i64 x,.int .i64 n] H (fun _=>True)
  (fun v' H'=>∃ sv Hs,v'=.tuple #[sv,.int .i64 (σ.rdy x n)]∧Sl 5 1 sv ((σ.loadB x n).map bv) Hs∧H'=Hs++H):=by
 have hr:=rready_p hD x n
 refine Tri.mk Tryz.func281 rfl Tryz.ntmps281 rfl fun w hw=>?_
 repeat' (refine W.go ?_;try intro b_)
 refine W.call hr ?_
 rintro _ _ ⟨rfl,rfl⟩
 by_cases h0:σ.rdy x n=0
 ·obtain⟨hdn,hx0,hn0,hn,hxn⟩:=rdy_zero h0
  have hb:σ.loadB x n=((nowB σ.ws).drop x.toNat).take n.toNat:=by unfold Dv.loadB;rw [if_pos h0]
  rw [h0,hb]
  have hlen:σ.len=8*σ.ws.length:=rfl
  obtain⟨i,rfl⟩:∃ i:Nat,x=i:=⟨x.toNat,by omega⟩
  obtain⟨m,rfl⟩:∃ m:Nat,n=m:=⟨n.toNat,by omega⟩
  rw [Int.toNat_natCast,Int.toNat_natCast]
  have hN:=hD.1.n
  obtain⟨hO,bl,bn,bp,bm,vp,va,Hq,Ha,h2,h3,rfl⟩:=hD
  have hnl:=nowB_len hO.ok
  have hml:(((nowB σ.ws).drop i).take m).length=m:=by simp;omega
  by_cases hlt:i<σ.len
  ·repeat' (refine W.go ?_;try intro b_)
   refine W.ap (xs:=[]) (ys:=(((nowB σ.ws).drop i).take m).map bv) (mm:=m) (Hs:=[(b_,cl [] 5)]) (.inr ⟨b_,0,0,[],rfl,rfl,rfl,Nat.le_refl _,rfl⟩) (fun w2 hs=>?_) (fun v2 Hs2 hv2=>?_) (hys:=by simp;omega) (hbytes:=by simp;omega)
   ·have e:i+m-i=m:=by omega
    rw [e]
    refine SrcOf.own hs (b:=bn) (l:=rn σ.ws) (by rw [rn_eq,Nat.mul_one,List.map_take,List.map_drop]) (by simp;omega)
   repeat' (refine W.go ?_;try intro b_)
   refine F.f2 ?_
   refine⟨v2,Hs2,rfl,hv2,?_⟩
   simp
  ·repeat' (refine W.go ?_;try intro b_)
   have hm0:m=0:=by omega
   subst hm0
   refine SL.pu (p_slice (l:=i) (h:=i) rfl rfl (.inr ⟨_,_,_,rfl,rfl,rfl⟩) (.inr ⟨_,_,_,rfl,rfl,by simp⟩) (Nat.le_refl _) (by omega) (vl:=none) (vh:=none)) rfl rfl ?_
   rw [Nat.sub_self]
   refine W.ap (xs:=[]) (ys:=[]) (mm:=0) (Hs:=[(b_,cl [] 5)]) (.inr ⟨b_,0,0,[],rfl,rfl,rfl,Nat.le_refl _,rfl⟩) (fun w2 hs=>SrcOf.empty _ _ _ _) (fun v2 Hs2 hv2=>?_) (hys:=rfl) (hbytes:=by simp)
   repeat' (refine W.go ?_;try intro b_)
   refine F.f2 ?_
   refine⟨v2,Hs2,rfl,by simpa using hv2,?_⟩
   simp
 ·have hb:σ.loadB x n=[]:=by unfold Dv.loadB;rw [if_neg h0]
  repeat' (refine W.go ?_;try intro b_)
  refine F.f2 ?_
  refine⟨_,[],rfl,?_,by simp⟩
  rw [hb];exact Sl.nil _ _
theorem mapR_map{α:Type}{h:Wd→Wd}(f:Wd→α)(hf:∀ w,f (h w)=f w)(x y:Nat)(ws:List Wd):(mapR h x y ws).map f=ws.map f:=by
 apply List.ext_getElem?
 intro i
 simp only [mapR,List.getElem?_map,List.getElem?_mapIdx]
 cases ws[i]? with
 | none=>rfl
 | some w=>
  simp only [Option.map_some,Option.some.injEq]
  split
  ·exact hf w
  ·rfl
theorem mapR_fm{α:Type}{h:Wd→Wd}(f:Wd→List α)(hf:∀ w,f (h w)=f w)(x y:Nat)(ws:List Wd):(mapR h x y ws).flatMap f=ws.flatMap f:=by
 rw [List.flatMap_def,List.flatMap_def,mapR_map f hf]
theorem flush_step{ws:List Wd}{X y w:Nat}{u:Wd}(h1:X≤w)(h2:w≤y)(hu:ws[w]?=some u):(rm (mapR Wd.flushed X y ws)).set w (.bool u.pend)=rm (mapR Wd.flushed X (max y (w+1)) ws):=by
 have hw:w<ws.length:=(List.getElem?_eq_some_iff.1 hu).1
 apply List.ext_getElem?
 intro k
 simp only [rm,mapR,List.getElem?_set,List.length_map,List.length_mapIdx,List.getElem?_map,List.getElem?_mapIdx]
 by_cases hk:w=k
 ·subst hk
  rw [if_pos rfl,if_pos hw,hu]
  simp only [Option.map_some,Option.some.injEq]
  rw [if_pos (by omega)];rfl
 ·rw [if_neg hk]
  cases ws[k]? with
  | none=>rfl
  | some x=>
   simp only [Option.map_some,Option.some.injEq]
   have:(X≤k∧k<y)↔(X≤k∧k<max y (w+1)):=by omega
   simp only [this]
def upto(i t:Nat):Nat:=if t=i then i/64*8 else ((t-1)/64+1)*8
theorem rflush_p{p:Nat}{σ:Dv}{H:Hp}(hD:DevR p σ H)(h8:σ.ws.length%8=0)(x n:Int):Tri Tryz.prog 245 [.pointer (some ⟨p,0,none⟩),.int .i64 x,.int .i64 n] H (fun _=>True)
  (fun v' H'=>v'=.int .i64 (σ.actR x n)∧DevR p (σ.flush x n) H'):=by
 have hr:=rready_p hD x n
 refine Tri.mk Tryz.func245 rfl Tryz.ntmps245 rfl fun w hw=>?_
 repeat' (first|(refine W.go ?_;try intro b_)|fail)
 refine W.call hr ?_
 rintro _ _ ⟨rfl,rfl⟩
 by_cases h0:σ.rdy x n=0
 ·obtain⟨hdn,hx0,hn0,hn,hxn⟩:=rdy_zero h0
  have ha:=ract_p hD hdn 2 x n
  rw [h0]
  repeat' (first|(refine W.go ?_;try intro b_)|fail)
  refine W.call ha ?_
  rintro _ H1 ⟨rfl,hD1⟩
  by_cases h1:σ.actE=0
  ·rw [h1]
   repeat' (first|(refine W.go ?_;try intro b_)|fail)
   have hwl:(σ.act (2,x,n)).ws.length=σ.ws.length:=act_wl _ _
   have hres:σ.flush x n=(σ.act (2,x,n)).setWs (flushW (σ.act (2,x,n)).ws x.toNat n.toNat):=by unfold Dv.flush;rw [if_pos h0,if_pos h1]
   have hresE:σ.actR x n=0:=by unfold Dv.actR;rw [if_pos h0,h1]
   rw [hres,hresE]
   have hlen:σ.len=8*σ.ws.length:=rfl
   generalize σ.act (2,x,n)=τ at hD1 hwl ⊢
   obtain⟨i,rfl⟩:∃ i:Nat,x=i:=⟨x.toNat,by omega⟩
   obtain⟨m,rfl⟩:∃ m:Nat,n=m:=⟨n.toNat,by omega⟩
   rw [Int.toNat_natCast,Int.toNat_natCast]
   have hN:=hD1.1.n
   have hlenτ:τ.len=8*τ.ws.length:=rfl
   obtain⟨hO,bl,bn,bp,bm,vp,va,Hq,Ha,h2,h3,rfl⟩:=hD1
   refine SW.loopG [0,1,2] [bm] (fun t:Nat=>[(8,.int .i64 t)]) (fun t=>[(bm,cl (rm (mapR Wd.flushed (i/64*8) (upto i t) τ.ws)) 4)]) (fun t=>i+m-t) (fun t=>i≤t∧t≤i+m) i ⟨Nat.le_refl _,by omega⟩ ?_ (by rw [upto,if_pos rfl,mapR_none])
   rintro t ⟨ht1,ht2⟩
   have hu1:t/64*8≤upto i t:=by unfold upto;split <;> omega
   have hu2:upto i t≤(t/64+1)*8:=by unfold upto;split <;> omega
   have hu3:upto i (t+1)=(t/64+1)*8:=by unfold upto;rw [if_neg (by omega)];rfl
   by_cases htl:t<i+m
   ·repeat' (first|(refine W.gb ?_;try intro b_)|fail)
    refine SW.cut [0,1,2,8] [bm] (fun _:Unit=>[]) (fun _=>[(bm,cl (rm (mapR Wd.flushed (i/64*8) (upto i (t+1)) τ.ws)) 4)]) (fun _=>True) ?_ ?_
    ·repeat' (first|(refine W.go ?_;try intro b_)|fail)
     refine SW.loopG [0,1,2,8] [bm] (fun j:Nat=>[(9,.int .i64 j)]) (fun j=>[(bm,cl (rm (mapR Wd.flushed (i/64*8) (max (upto i t) (t/64*8+j)) τ.ws)) 4)]) (fun j=>8-j) (fun j=>j≤8) 0 (Nat.zero_le _) ?_ (by rw [Nat.add_zero,Nat.max_eq_left hu1])
     intro j hj
     by_cases hj8:j<8
     ·have hw:t/64*8+j<τ.ws.length:=by omega
      obtain⟨u,hu⟩:∃ u,τ.ws[t/64*8+j]?=some u:=⟨_,List.getElem?_eq_getElem hw⟩
      have hp:(rp τ.ws)[t/64*8+j]?=some (.bool u.pend):=by unfold rp;rw [List.getElem?_map,hu];rfl
      have hst:=flush_step (X:=i/64*8) (y:=max (upto i t) (t/64*8+j)) (by omega) (by omega) hu
      have hmx:max (max (upto i t) (t/64*8+j)) (t/64*8+j+1)=max (upto i t) (t/64*8+(j+1)):=by omega
      rw [hmx] at hst
      have hlt:t/64*8+j<(rm (mapR Wd.flushed (i/64*8) (max (upto i t) (t/64*8+j)) τ.ws)).length:=by rw [rm_len,mapR_len];exact hw
      repeat' (first|(refine W.go ?_;try intro b_)|fail)
      (refine SW.regionS [13] ?_ (by kernel_rfl);refine SS.T 0 rfl ?_;refine SS.T 1 rfl ?_;refine SS.T 2 rfl ?_;(first|refine SS.ls 3 [13] rfl ?_|refine SS.sR 3 rfl ?_);refine SS.T 4 rfl ?_;refine SS.T 5 rfl ?_;refine SS.T 6 rfl ?_;refine SS.T 7 rfl ?_;(first|refine SS.ls 8 [13] rfl ?_|refine SS.sR 8 rfl ?_);refine SS.T 9 rfl ?_;refine SS.T 10 rfl ?_;(first|refine SS.ls 11 [13] rfl ?_|refine SS.sR 11 rfl ?_);refine SS.T 12 rfl ?_;refine SS.effB 13 ?_ rfl (by kernel_rfl);(repeat' (first|(refine W.g1 ?_;try intro b_)|fail));refine SS.done ?_ (by kernel_rfl))
      rw [hst]
      repeat' (first|(refine W.go ?_;try intro b_)|fail)
      refine HandF.mk (j+1) ?_
      omega
     ·have:j=8:=by omega
      subst this
      have e:max (upto i t) (t/64*8+8)=upto i (t+1):=by omega
      rw [e]
      repeat' (first|(refine W.go ?_;try intro b_)|fail)
      refine CutF.mk () ?_
      trivial
    ·intro _ _
     repeat' (first|(refine W.go ?_;try intro b_)|fail)
     refine HandF.mk (t+1) ?_
     omega
   ·have:t=i+m:=by omega
    subst this
    have e:mapR Wd.flushed (i/64*8) (upto i (i+m)) τ.ws=flushW τ.ws i m:=by
     unfold flushW upto
     by_cases hm:m=0
     ·subst hm;rw [if_pos (by omega),if_pos rfl,mapR_none]
     ·rw [if_neg (by omega),if_neg hm]
    have hfl:(flushW τ.ws i m).length=τ.ws.length:=by rw [← e,mapR_len]
    have hfo:∀ w∈flushW τ.ws i m,w.Ok:=by rw [← e];exact mapR_ok (fun w=>Wd.flushed_ok) _ _ hO.ok
    have q1:rl (flushW τ.ws i m)=rl τ.ws:=by rw [← e];exact mapR_fm (h:=Wd.flushed) (fun w=>w.lasts.map bv) (fun w=>rfl) _ _ _
    have q2:rn (flushW τ.ws i m)=rn τ.ws:=by rw [← e];exact mapR_fm (h:=Wd.flushed) (fun w=>w.now.map bv) (fun w=>rfl) _ _ _
    have q3:rp (flushW τ.ws i m)=rp τ.ws:=by rw [← e];exact mapR_map (h:=Wd.flushed) (fun w=>Value.bool w.pend) (fun w=>rfl) _ _ _
    rw [e]
    repeat' (first|(refine W.go ?_;try intro b_)|fail)
    refine Fin.perm (H':=(p,cl [.slice (some ⟨bl,0,none⟩) τ.len τ.len,.slice (some ⟨bn,0,none⟩) τ.len τ.len,.slice (some ⟨bp,0,none⟩) τ.ws.length τ.ws.length,.slice (some ⟨bm,0,none⟩) τ.ws.length τ.ws.length,.bool τ.down,.int .i64 τ.fuse,vp,va] 54)::(bl,cl (rl τ.ws) 5)::(bn,cl (rn τ.ws) 5)::(bp,cl (rp τ.ws) 4)::(bm,cl (rm (flushW τ.ws i m)) 4)::(Hq++Ha)) ?_ (F.f1 ?_)
    ·simp only [List.append_nil]
     exact (List.perm_middle (l₁:=[_,_,_,_]) (a:=(bm,_)) (l₂:=Hq++Ha)).symm
    refine⟨rfl,Dv.setWs_ok hO hfl hfo,bl,bn,bp,bm,vp,va,Hq,Ha,h2,h3,?_⟩
    simp [Dv.setWs,Dv.len,hfl,q1,q2,q3]
  ·repeat' (first|(refine W.go ?_;try intro b_)|fail)
   refine F.f1 ?_
   have hres:σ.flush x n=σ.act (2,x,n):=by unfold Dv.flush;rw [if_pos h0,if_neg h1]
   have hresE:σ.actR x n=σ.actE:=by unfold Dv.actR;rw [if_pos h0]
   rw [hres,hresE];refine⟨rfl,?_⟩;simp only [List.append_nil];exact hD1
 ·repeat' (first|(refine W.go ?_;try intro b_)|fail)
  refine F.f1 ?_
  have hres:σ.flush x n=σ:=by unfold Dv.flush;rw [if_neg h0]
  have hresE:σ.actR x n=σ.rdy x n:=by unfold Dv.actR;rw [if_neg h0]
  rw [hres,hresE];refine⟨rfl,?_⟩;simp only [List.append_nil];exact hD
theorem fenced_now(w:Wd):w.fenced.now=w.now:=by unfold Wd.fenced;cases w.mark <;> rfl
theorem rl_put{ws:List Wd}{k:Nat}{u u':Wd}(hok:∀ w∈ws,w.Ok)(hu:ws[k]?=some u)(h:u'.lasts.length=8):(rl ws).take (8*k)++u'.lasts.map bv++(rl ws).drop (8*k+(u'.lasts.map bv).length)=rl (ws.set k u'):=by
 have hk:k<ws.length:=(List.getElem?_eq_some_iff.1 hu).1
 have hA:(rl (ws.take k)).length=8*k:=by rw [rl_len (fun w hw=>hok w (List.mem_of_mem_take hw)),List.length_take];congr 1;omega
 have e:rl ws=rl (ws.take k)++(u.lasts.map bv++rl (ws.drop (k+1))):=fm_split _ ws k u hu
 have hx:(u.lasts.map bv).length=8:=by simpa using (hok u (List.mem_of_getElem? hu)).1.1
 rw [e,splice8 hA hx (by simpa using h)]
 exact (fm_set _ ws k u' hk).symm
theorem rn_row{ws:List Wd}{k:Nat}{u:Wd}(hok:∀ w∈ws,w.Ok)(hu:ws[k]?=some u):((rn ws).drop (8*k)).take (8*1)=u.now.map bv:=by
 have hk:k<ws.length:=(List.getElem?_eq_some_iff.1 hu).1
 have hA:(rn (ws.take k)).length=8*k:=by rw [rn_len (fun w hw=>hok w (List.mem_of_mem_take hw)),List.length_take];congr 1;omega
 have e:rn ws=rn (ws.take k)++(u.now.map bv++rn (ws.drop (k+1))):=fm_split _ ws k u hu
 rw [e,row8 hA (by simpa using (hok u (List.mem_of_getElem? hu)).1.2)]
theorem rfence_p{p:Nat}{σ:Dv}{H:Hp}(hD:DevR p σ H):Tri Tryz.prog 201 [.pointer (some ⟨p,0,none⟩)] H (fun _=>True)
  (fun v' H'=>v'=.int .i64 (σ.actR 0 0)∧DevR p σ.fence H'):=by
 have hr:=rready_p hD 0 0
 refine Tri.mk Tryz.func201 rfl Tryz.ntmps201 rfl fun w hw=>?_
 repeat' (first|(refine W.go ?_;try intro b_)|fail)
 refine W.call hr ?_
 rintro _ _ ⟨rfl,rfl⟩
 by_cases h0:σ.rdy 0 0=0
 ·obtain⟨hdn,-⟩:=rdy_zero h0
  have ha:=ract_p hD hdn 3 0 0
  rw [h0]
  repeat' (first|(refine W.go ?_;try intro b_)|fail)
  refine W.call ha ?_
  rintro _ H1 ⟨rfl,hD1⟩
  by_cases h1:σ.actE=0
  ·rw [h1]
   have hres:σ.fence=(σ.act (3,0,0)).setWs ((σ.act (3,0,0)).ws.map Wd.fenced):=by unfold Dv.fence;rw [if_pos h0,if_pos h1]
   have hresE:σ.actR 0 0=0:=by unfold Dv.actR;rw [if_pos h0,h1]
   rw [hres,hresE]
   generalize σ.act (3,0,0)=τ at hD1 ⊢
   have hN:=hD1.1.n
   have hlenτ:τ.len=8*τ.ws.length:=rfl
   obtain⟨hO,bl,bn,bp,bm,vp,va,Hq,Ha,h2,h3,rfl⟩:=hD1
   repeat' (first|(refine W.go ?_;try intro b_)|fail)
   refine SW.loopG [0,18] [bl,bp,bm] (fun k:Nat=>[(19,.int .i64 k)]) (fun k=>[(bl,cl (rl (mapR Wd.fenced 0 k τ.ws)) 5),(bp,cl (rp (mapR Wd.fenced 0 k τ.ws)) 4),(bm,cl (rm (mapR Wd.fenced 0 k τ.ws)) 4)]) (fun k=>τ.ws.length-k) (fun k=>k≤τ.ws.length) 0 (Nat.zero_le _) ?_ (by rw [mapR_none])
   intro k hk
   by_cases hkl:k<τ.ws.length
   ·obtain⟨u,hu⟩:∃ u,τ.ws[k]?=some u:=⟨_,List.getElem?_eq_getElem hkl⟩
    have huO:=hO.ok u (List.mem_of_getElem? hu)
    obtain⟨hk2,hset⟩:=mapR_step Wd.fenced 0 k τ.ws u (Nat.zero_le _) hu
    have hok2:=mapR_ok (fun w=>Wd.fenced_ok) 0 k hO.ok
    have hmk:(rm (mapR Wd.fenced 0 k τ.ws))[k]?=some (.bool u.mark):=by unfold rm;rw [List.getElem?_map,hk2];rfl
    have hl2:=rp_len (mapR Wd.fenced 0 k τ.ws)
    have hl3:=rm_len (mapR Wd.fenced 0 k τ.ws)
    have hl1:=rl_len hok2
    rw [mapR_len] at hl1 hl2 hl3
    cases hm:u.mark
    ·rw [hm] at hmk
     have hfu:u.fenced=u:=by unfold Wd.fenced;rw [hm];rfl
     have hsame:mapR Wd.fenced 0 (k+1) τ.ws=mapR Wd.fenced 0 k τ.ws:=by
      rw [← hset,hfu]
      exact set_same hk2
     repeat' (first|(refine W.go ?_;try intro b_)|fail)
     rw [← hsame]
     refine HandF.mk (k+1) ?_
     omega
    ·rw [hm] at hmk
     have hfu:u.fenced={ lasts:=u.now,now:=u.now,pend:=false,mark:=false }:=by unfold Wd.fenced;rw [hm];rfl
     have hrow:=rn_row hO.ok hu
     have e1:=rl_put (u':=u.fenced) hok2 hk2 (by rw [hfu];exact huO.1.2)
     rw [hset] at e1
     have e2:(rp (mapR Wd.fenced 0 k τ.ws)).set k (.bool false)=rp (mapR Wd.fenced 0 (k+1) τ.ws):=by
      rw [← hset];unfold rp;rw [List.map_set,hfu]
     have e3:(rm (mapR Wd.fenced 0 k τ.ws)).set k (.bool false)=rm (mapR Wd.fenced 0 (k+1) τ.ws):=by
      rw [← hset];unfold rm;rw [List.map_set,hfu]
     have hn8:(u.now.map bv).length=8:=by simpa using huO.1.2
     have hlt2:k<(rp (mapR Wd.fenced 0 k τ.ws)).length:=by omega
     have hlt3:k<(rm (mapR Wd.fenced 0 k τ.ws)).length:=by omega
     repeat' (first|(refine W.go ?_;try intro b_)|fail)
     (refine SW.regionS [20] ?_ (by kernel_rfl);refine SS.T 0 rfl ?_;refine SS.T 1 rfl ?_;refine SS.T 2 rfl ?_;(first|refine SS.ls 3 [9,20] rfl ?_|refine SS.sR 3 rfl ?_);refine SS.T 4 rfl ?_;refine SS.T 5 rfl ?_;refine SS.T 6 rfl ?_;refine SS.T 7 rfl ?_;refine SS.T 8 rfl ?_;refine SS.tw 9 rfl (p_sl11 rfl rfl rfl rfl (by omega) (by omega)) ?_;refine SS.T 10 rfl ?_;refine SS.T 11 rfl ?_;refine SS.T 12 rfl ?_;(first|refine SS.ls 13 [19,20] rfl ?_|refine SS.sR 13 rfl ?_);refine SS.T 14 rfl ?_;refine SS.T 15 rfl ?_;refine SS.T 16 rfl ?_;refine SS.T 17 rfl ?_;refine SS.T 18 rfl ?_;refine SS.tw 19 rfl (p_sl11 rfl rfl rfl rfl (by omega) (by omega)) ?_;refine SS.effB 20 ?_ rfl (by kernel_rfl))
     rw [show 8*k+8-8*k=8 by omega]
     refine W.cy (mm:=8) (fun w2 hs=>SrcOf.own hs (b:=bn) hrow hn8) ?_ (hfit:=by omega)
     (refine SL.nilB ?_;refine SS.done ?_ (by kernel_rfl))
     rw [show u.now.map bv=u.fenced.lasts.map bv by rw [hfu],e1]
     repeat' (first|(refine W.go ?_;try intro b_)|fail)
     rw [e2,e3]
     refine HandF.mk (k+1) ?_
     omega
   ·have:k=τ.ws.length:=by omega
    subst this
    have hfl:(mapR Wd.fenced 0 τ.ws.length τ.ws).length=τ.ws.length:=mapR_len _ _ _ _
    have hfo:=mapR_ok (fun w=>Wd.fenced_ok) 0 τ.ws.length hO.ok
    have q2:rn (mapR Wd.fenced 0 τ.ws.length τ.ws)=rn τ.ws:=mapR_fm (h:=Wd.fenced) (fun w=>w.now.map bv) (fun w=>by rw [fenced_now]) _ _ _
    repeat' (first|(refine W.go ?_;try intro b_)|fail)
    rw [mapR_all] at hfl hfo q2 ⊢
    refine Fin.to ((p,cl [.slice (some ⟨bl,0,none⟩) τ.len τ.len,.slice (some ⟨bn,0,none⟩) τ.len τ.len,.slice (some ⟨bp,0,none⟩) τ.ws.length τ.ws.length,.slice (some ⟨bm,0,none⟩) τ.ws.length τ.ws.length,.bool τ.down,.int .i64 τ.fuse,vp,va] 54)::(bl,cl (rl (τ.ws.map Wd.fenced)) 5)::(bn,cl (rn τ.ws) 5)::(bp,cl (rp (τ.ws.map Wd.fenced)) 4)::(bm,cl (rm (τ.ws.map Wd.fenced)) 4)::(Hq++Ha)) ?_
    refine F.f1 ?_
    refine⟨rfl,Dv.setWs_ok hO hfl hfo,bl,bn,bp,bm,vp,va,Hq,Ha,h2,h3,?_⟩
    simp [Dv.setWs,Dv.len,q2]
  ·repeat' (first|(refine W.go ?_;try intro b_)|fail)
   refine F.f1 ?_
   have hres:σ.fence=σ.act (3,0,0):=by unfold Dv.fence;rw [if_pos h0,if_neg h1]
   have hresE:σ.actR 0 0=σ.actE:=by unfold Dv.actR;rw [if_pos h0]
   rw [hres,hresE];refine⟨rfl,?_⟩;simp only [List.append_nil];exact hD1
 ·repeat' (first|(refine W.go ?_;try intro b_)|fail)
  refine F.f1 ?_
  have hres:σ.fence=σ:=by unfold Dv.fence;rw [if_neg h0]
  have hresE:σ.actR 0 0=σ.rdy 0 0:=by unfold Dv.actR;rw [if_neg h0]
  rw [hres,hresE];refine⟨rfl,?_⟩;simp only [List.append_nil];exact hD
end Go.Proofs.YtnigolgkkjidiaaGreat
namespace Go.Proofs.YtnigolgkkjidiaaGreat
open Go
theorem modL_prop{f:Nat→UInt8→Wd→Wd}{J:Wd→Prop}(hf:∀ j c w,J w→J (f j c w)):∀ (bs:List UInt8) (ws:List Wd) (i:Nat),(∀ w∈ws,J w)→∀ w∈modL f ws i bs,J w
 | [],ws,i,h=>h
 | c::t,ws,i,h=>modL_prop hf t _ _ (fun w hw=>by
   unfold modB at hw
   obtain⟨k,hk⟩:=List.mem_iff_getElem?.1 hw
   rw [List.getElem?_modify] at hk
   cases hu:ws[k]? with
   | none=>rw [hu] at hk;simp at hk
   | some u=>
    rw [hu] at hk
    have hm:=h u (List.mem_of_getElem? hu)
    simp only [Option.map_eq_map,Option.map_some,Option.some.injEq] at hk
    rw [← hk]
    split
    ·exact hf _ _ u hm
    ·exact hm)
def spl(l:List UInt8)(i:Nat)(bs:List UInt8):List UInt8:=l.take i++bs++l.drop (i+bs.length)
theorem put_eqs:∀ (bs:List UInt8) (ws:List Wd) (i:Nat),(∀ w∈ws,w.Ok)→i+bs.length≤8*ws.length →
  nowB (modL Wd.ps ws i bs)=spl (nowB ws) i bs∧lastB (modL Wd.ps ws i bs)=lastB ws
 | [],ws,i,_,_=>by simp [modL,spl]
 | c::t,ws,i,hok,hl=>by
  simp only [List.length_cons] at hl
  have hm:i/8<ws.length:=by omega
  obtain⟨u,hu⟩:∃ u,ws[i/8]?=some u:=⟨_,List.getElem?_eq_getElem hm⟩
  have hB:modB Wd.ps ws i c=ws.set (i/8) (u.ps (i%8) c):=modify_set _ hu
  have hok2:∀ w∈modB Wd.ps ws i c,w.Ok:=by unfold modB;exact modify_ok (fun w=>Wd.ps_ok _ _) _ hok
  obtain⟨e1,e2⟩:=put_eqs t (modB Wd.ps ws i c) (i+1) hok2 (by rw [modB_len];omega)
  have n1:nowB (modB Wd.ps ws i c)=(nowB ws).set i c:=by rw [hB];exact (nowB_set hok hu c rfl).symm
  have n2:lastB (modB Wd.ps ws i c)=lastB ws:=by rw [hB];exact fm_set_same _ hu rfl
  have l1:=nowB_len hok
  have key:∀ (l:List UInt8),i<l.length→(l.set i c).take (i+1)++t++(l.set i c).drop (i+1+t.length)=l.take i++(c::t)++l.drop (i+(t.length+1)):=fun l hi=>by
   rw [List.take_set,List.take_add_one,List.getElem?_eq_getElem hi,Option.toList_some,List.set_append_right _ _ (by simp;omega)]
   have e:i-(l.take i).length=0:=by simp;omega
   rw [e,List.set_cons_zero,List.drop_set_of_lt (by omega)]
   rw [show i+1+t.length=i+(t.length+1) by omega]
   simp only [List.append_assoc,List.singleton_append,List.cons_append,List.nil_append]
  refine⟨?_,?_⟩
  ·show nowB (modL Wd.ps (modB Wd.ps ws i c) (i+1) t)=_
   rw [e1,n1];exact key _ (by omega)
  ·show lastB (modL Wd.ps (modB Wd.ps ws i c) (i+1) t)=_
   rw [e2,n2]
structure Dv.Live(σ:Dv):Prop where
 d:σ.down=false
 f:σ.fuse=0
theorem push_ws(σ:Dv)(a:Int×Int×Int):(σ.push a).ws=σ.ws∧(σ.push a).down=σ.down∧(σ.push a).fuse=σ.fuse:=by
 unfold Dv.push
 split <;> exact⟨rfl,rfl,rfl⟩
theorem Dv.Live.act{σ:Dv}(h:σ.Live)(a:Int×Int×Int):(σ.act a).Live∧(σ.act a).ws=σ.ws∧σ.actE=0:=by
 have e:σ.act a=σ.push a:=by unfold Dv.act;rw [if_neg (by rw [h.f];decide)]
 obtain⟨h1,h2,h3⟩:=push_ws σ a
 rw [e]
 exact⟨⟨h2.trans h.d,h3.trans h.f⟩,h1,by unfold Dv.actE;rw [if_neg (by rw [h.f];decide)]⟩
theorem Dv.Live.rdy{σ:Dv}(h:σ.Live){x n:Int}(hx:0≤x)(hn:0≤n)(hl:x+n≤σ.len):σ.rdy x n=0:=by
 unfold Dv.rdy
 rw [if_neg (by rw [h.d];decide),if_neg (by omega)]
theorem Dv.Live.store{σ:Dv}(h:σ.Live){i:Nat}{bs:List UInt8}(hl:i+bs.length≤σ.len):(σ.store i bs).Live∧(σ.store i bs).ws=modL Wd.ps σ.ws i bs∧σ.actR i bs.length=0:=by
 have hr:σ.rdy i bs.length=0:=h.rdy (by omega) (by omega) (by omega)
 obtain⟨h1,h2,h3⟩:=h.act (1,(i:Int),(bs.length:Int))
 unfold Dv.store Dv.actR
 rw [if_pos hr,if_pos h3,if_pos hr]
 exact⟨⟨h1.d,h1.f⟩,by show storeW _ _ _=_;rw [h2,Int.toNat_natCast,storeW_ps],h3⟩
theorem Dv.Live.flush{σ:Dv}(h:σ.Live){i n:Nat}(hl:i+n≤σ.len):(σ.flush i n).Live∧(σ.flush i n).ws=flushW σ.ws i n∧σ.actR i n=0:=by
 have hr:σ.rdy i n=0:=h.rdy (by omega) (by omega) (by omega)
 obtain⟨h1,h2,h3⟩:=h.act (2,(i:Int),(n:Int))
 unfold Dv.flush Dv.actR
 rw [if_pos hr,if_pos h3,if_pos hr]
 exact⟨⟨h1.d,h1.f⟩,by show flushW _ _ _=_;rw [h2,Int.toNat_natCast,Int.toNat_natCast],h3⟩
theorem Dv.Live.fence{σ:Dv}(h:σ.Live):σ.fence.Live∧σ.fence.ws=σ.ws.map Wd.fenced∧σ.actR 0 0=0:=by
 have hr:σ.rdy 0 0=0:=h.rdy (by omega) (by omega) (by omega)
 obtain⟨h1,h2,h3⟩:=h.act (3,0,0)
 unfold Dv.fence Dv.actR
 rw [if_pos hr,if_pos h3,if_pos hr]
 exact⟨⟨h1.d,h1.f⟩,by show List.map _ _=_;rw [h2],h3⟩
theorem flushW_now(ws:List Wd)(i n:Nat):nowB (flushW ws i n)=nowB ws∧lastB (flushW ws i n)=lastB ws:=by
 unfold flushW
 split
 ·exact⟨rfl,rfl⟩
 ·exact⟨mapR_fm (h:=Wd.flushed) Wd.now (fun w=>rfl) _ _ _,mapR_fm (h:=Wd.flushed) Wd.lasts (fun w=>rfl) _ _ _⟩
end Go.Proofs.YtnigolgkkjidiaaGreat
