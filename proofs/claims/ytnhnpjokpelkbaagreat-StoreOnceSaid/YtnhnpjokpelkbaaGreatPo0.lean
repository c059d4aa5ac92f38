/- The types and functions of this translation: facts that the kernel reckons. -/
import Derived.Test.YtnhnpjokpelkbaaGreatPs45
set_option linter.unusedVariables false
set_option linter.unusedSimpArgs false
set_option linter.unusedSectionVars false
set_option maxHeartbeats 16000000
namespace Go.Proofs.YtnhnpjokpelkbaaGreat
abbrev aR:=@List.nil_append
open Go Go.Proofs.Tryz
instance:cG prog 45:=⟨⟨_,underlying45,rfl⟩⟩
instance:rF prog 45:=⟨⟨_,underlying45⟩⟩
instance:aY prog 67 0 3 0:=fdT underlying67 rfl rfl rfl
instance:aY prog 67 3 3 3:=fdT underlying67 rfl rfl rfl
instance:aY prog 67 5 3 5:=fdT underlying67 rfl rfl rfl
instance:aY prog 67 7 4 7:=fdT underlying67 rfl rfl rfl
instance:cG prog 158:=⟨⟨_,underlying158,rfl⟩⟩
instance:jV prog 158:=⟨by kernel_rfl⟩
instance:aY prog 160 0 44 0:=⟨⟨_,_,underlying160,rfl,rfl,rfl⟩,⟨5,by kernel_rfl,by decide⟩⟩
instance:aY prog 160 1 95 5:=fdT underlying160 rfl rfl rfl
instance:aY prog 160 2 158 6:=fdT underlying160 rfl rfl rfl
instance:aY prog 160 3 4 7:=fdT underlying160 rfl rfl rfl
instance:aY prog 160 4 24 8:=fdT underlying160 rfl rfl rfl
instance:bD prog 30:=isF func30
instance:bD prog 31:=isF func31
instance:bD prog 73:=isF func73
instance:bD prog 74:=isF func74
instance:bD prog 77:=isF func77
instance:bD prog 78:=isF func78
instance:bD prog 79:=isF func79
instance:bD prog 80:=isF func80
instance:bD prog 81:=isF func81
instance:bD prog 138:=isF func138
instance:bD prog 206:=isF func206
theorem Fin.drop{P:Program}{C:Ctx}{fn:Func}{R:Value→Hp→Prop}{e:Exit}{ρ:Fr}{H r:Hp}(Hs:Hp) [hp:fT H Hs r](h:Fin P C fn R e ρ r):Fin P C fn R e ρ H:=by
 have hq:H.Perm (r++Hs):=hp.perm.trans cK
 cases e <;> first
  | exact h
  | (obtain⟨v,Hc,s,h1,h2,h3⟩:=h;exact⟨v,Hc,s++Hs,by rw [← aV];exact hq.trans (h1.append_right Hs),h2,fun a w hf hs=>h3 a w hf (hs.perm hq).drop⟩)
theorem aQv(l r:Hp)(a b:Nat×Obj):(l++a::b::r).Perm (a::b::(l++r)):=pF.trans (List.perm_middle.cons a)
section
variable {P:Program}{C:Ctx}{Q:Exit→Fr→Hp→Prop}{ρ:Fr}{H H':Hp}{L rest:List Oper}{d:Option Tmp}{ty:TypeId}{pos:String}{af:Array Edge}{g:Option (Nat×Bool)}{t t' e n len cap b i j off c:Nat}{d':Option Nat}{x y z:Operand}{v u:Value}{k kk:IntKind}{m q r:Int}{l l':List Value}{T:TypeId}
theorem W.cs{bo:BinOp}(h1:oJ bo m q→SL P C L Q rest (pt ρ d' (.bool true)) H)(h2:¬ oJ bo m q→SL P C L Q rest (pt ρ d' (.bool false)) H)(hb:aHw bo=true:=by exact rfl)(hx:ev ρ x=some (.int k m):=by exact rfl)(hy:ev ρ y=some (.int k q):=by exact rfl)(hg:gd L ρ ⟨d,.binOp bo t x y t',ty,pos,af,g⟩=some true:=by exact rfl)(hd:dk C.n d=some d':=by exact rfl):SL P C L Q (⟨d,.binOp bo t x y t',ty,pos,af,g⟩::rest) ρ H:=eD (lE rfl hb hx hy) hg hd h1 h2
end
section
attribute [local irreducible] SW SL SQ SH SA Pu Fin
def Dv.on(σ:Dv):Dv:={ σ with down:=false,fuse:=0 }
theorem Dv.on_ok{σ:Dv}(h:σ.Ok):σ.on.Ok:=⟨h.n,h.ok,Int.le_refl _,by simp [Dv.on],h.a⟩
theorem aQ3{p:Nat}{σ:Dv}{H:Hp}(hD:fS p σ H):Tri prog 80 [.pointer (some ⟨p,0,none⟩)] H (fun _=>True) (fun v H'=>v=.tuple #[]∧fS p σ.on H'):=by
 obtain⟨hO,bw,vp,va,Hq,Ha,h1,h2,rfl⟩:=hD
 refine Tri.mk func80 rfl ntmps80 rfl fun w hw=>?_
 (refine W.o ?_;repeat intro b_)
 exact Fin.s0 (.inr rfl) rfl ⟨rfl,Dv.on_ok hO,bw,vp,va,Hq,Ha,h1,h2,rfl⟩
theorem aQF{p:Nat}{σ:Dv}{H:Hp}(hD:fS p σ H)(q:Value)(qs:List UInt8):Tri prog 75 [.pointer (some ⟨p,0,none⟩),q] H (fun w=>Rd (H.map Prod.fst) w 1 q (qs.map bv))
  (fun v H'=>v=.tuple #[]∧fS p (σ.crash qs) H'):=by
 obtain⟨hO,bw,vp,va,Hq,Ha,h1,h2,rfl⟩:=hD
 refine ((aGo (p:=p) (bw:=bw) hO vp va q qs).frame (r:=Hq++Ha) (List.Perm.refl _) (fun w ho hr=>?_)).mono ?_
 ·obtain⟨a,len,cap,rfl,hl,hc,hb⟩:=hr
  refine⟨a,len,cap,rfl,hl,hc,hb.imp id fun⟨b,o,l,T,fz,ha,hb,hk,hy⟩=>⟨b,o,l,T,fz,ha,hb,fun hm=>hk ?_,hy⟩⟩
  simp only [cI,dV,or_false] at hm
  rcases hm with rfl|rfl <;> simp
 ·rintro v H' ⟨H1,rfl,rfl,rfl⟩
  refine⟨rfl,Dv.crash_ok qs hO,bw,vp,va,Hq,Ha,?_,?_,rfl⟩
  ·unfold Dv.crash;cases σ.down <;> exact h1
  ·unfold Dv.crash;cases σ.down <;> exact h2
theorem aQe(v:Value)(ys:List Value) [OC ys](hys:ys.length≤1048576):Tri prog 57 [v] [] (fun w=>Rd [] w 1 v ys) (fun v' H'=>Sl 5 1 v' ys H'):=by
 refine Tri.mk func57 rfl ntmps57 rfl fun w hw=>?_
 obtain⟨a,len,cap,rfl,hlen,hcap,hrd⟩:=hw
 cases a with
 | none=>
  have:ys=[]:=by rcases hrd with h0|⟨b,o,l,T,fz,h,_⟩;exact bL oQ;cases h
  subst this
  refine W.o ?_
  exact Fin.s1 (.inl rfl) rfl rfl (Sl.nil _ _)
 | some a=>
  refine W.o ?_
  refine kN (n:=1) (r:=[]) rfl rfl rfl rfl (by rfl) dQ (by rfl) dQ (fun b_=>?_)
  refine W.o ?_
  refine SL.append (n:=1) (m:=len) (ys:=ys) (xs:=[]) [(b_,cl [] 5)] rfl rfl rfl rfl rfl (.inr ⟨b_,0,0,[],rfl,rfl,rfl,Nat.le_refl _,rfl⟩) (fun w2 hs=>Rd.srcAt ⟨_,_,_,rfl,hlen,hcap,hrd⟩ (hs.tail (H:=(b_,_)::[]) (List.Perm.refl _))) hlen (by rfl) dQ dQ ?_ (fun v2 Ha2 h3=>?_)
  ·dsimp only [List.length_nil];omega
  refine W.o ?_
  rw [aF]
  exact Fin.s1 (.inl rfl) rfl rfl h3
def Dv.arm(σ:Dv)(n:Int)(qs:List UInt8):Dv:={ σ with fuse:=max n 0,picks:=qs }
theorem aQ1{p:Nat}{σ:Dv}{H:Hp}(hD:fS p σ H)(n:Int)(hn:n≤9223372036854775807)(v:Value)(qs:List UInt8)(hq:qs.length≤1048576):Tri prog 77 [.pointer (some ⟨p,0,none⟩),.int .i64 n,v] H (fun w=>Rd (H.map Prod.fst) w 1 v (qs.map bv))
  (fun v H'=>v=.tuple #[]∧fS p (σ.arm n qs) H'):=by
 obtain⟨hO,bw,vp,va,Hq,Ha,h1,h2,rfl⟩:=hD
 refine Tri.mk func77 rfl ntmps77 rfl fun w hw=>?_
 have hc:=aQe v (qs.map bv) (by simpa using hq)
 repeat' (first|(refine vA ?_;refine aBD rfl rfl ?_)|(refine rW ?_;(refine pT [] rfl rfl rfl rfl hc (fun w2 hs=>Rd.ro (Hc:=[]) hw hs) ?_))|(refine W.ow ?_;try intro b_)  | refine eD (qS rfl rfl rfl) rfl rfl (fun h_=>?_) (fun h_=>?_)|refine eD (qR rfl rfl rfl) rfl rfl (fun h_=>?_) (fun h_=>?_)|refine eD (qP rfl rfl rfl) rfl rfl (fun h_=>?_) (fun h_=>?_)|refine eD (qO rfl rfl rfl) rfl rfl (fun h_=>?_) (fun h_=>?_)|refine eD (nJ rfl rfl rfl) rfl rfl (fun h_=>?_) (fun h_=>?_)|refine eD (qT rfl rfl rfl) rfl rfl (fun h_=>?_) (fun h_=>?_)|refine kF rfl (fun h_=>?_) (fun h_=>?_))
 intro v2 Hq2 h3
 have hov:One v2:=h3.one
 (refine W.o ?_;repeat intro b_)
 refine Fin.drop Hq (Fin.perm (aQv _ _ _ _) (Fin.s0 (.inr rfl) rfl ⟨rfl,⟨hO.n,hO.ok,by simp only [Dv.arm];omega,by simp only [Dv.arm];omega,hO.a⟩,bw,v2,va,Hq2,Ha,h3,h2,rfl⟩))
end
section
attribute [local irreducible] SW SL SQ SH SA Pu Fin
theorem aQR{p:Nat}{σ:Dv}{H:Hp}(hD:lS p σ H):Tri prog 81 [.pointer (some ⟨p,0,none⟩)] H (fun _=>True) (fun v H'=>v=.tuple #[]∧lS p σ.on H'):=by
 obtain⟨hO,bl,bn,bp,bm,vp,va,Hq,Ha,h1,h2,rfl⟩:=hD
 have hof:One vp:=h1.one
 have hoa:One va:=h2.one
 refine Tri.mk func81 rfl ntmps81 rfl fun w hw=>?_
 (refine W.o ?_;repeat intro b_)
 exact Fin.s0 (.inr rfl) rfl ⟨rfl,Dv.on_ok hO,bl,bn,bp,bm,vp,va,Hq,Ha,h1,h2,rfl⟩
end
section
attribute [local irreducible] SW SL SQ SH SA Pu Fin
theorem aQh(l r:Hp)(a b c d e:Nat×Obj):(l++a::b::c::d::e::r).Perm (a::b::c::d::e::(l++r)):=
 pF.trans ((pF.trans ((pF.trans ((pF.trans (List.perm_middle.cons d)).cons c)).cons b)).cons a)
theorem aQX{p:Nat}{σ:Dv}{H:Hp}(hD:lS p σ H)(n:Int)(hn:n≤9223372036854775807)(v:Value)(qs:List UInt8)(hq:qs.length≤1048576):Tri prog 78 [.pointer (some ⟨p,0,none⟩),.int .i64 n,v] H (fun w=>Rd (H.map Prod.fst) w 1 v (qs.map bv))
  (fun v H'=>v=.tuple #[]∧lS p (σ.arm n qs) H'):=by
 obtain⟨hO,bl,bn,bp,bm,vp,va,Hq,Ha,h1,h2,rfl⟩:=hD
 have hof:One vp:=h1.one
 have hoa:One va:=h2.one
 refine Tri.mk func78 rfl ntmps78 rfl fun w hw=>?_
 obtain⟨a,len,cap,rfl,hlen,hcap,hrd⟩:=id hw
 have hlen2:qs.length=len:=by simpa using hlen
 by_cases c:n<0
 ·(refine W.o ?_;repeat intro b_)
  refine kN (n:=1) (r:=[]) rfl rfl rfl rfl (by rfl) dQ (by rfl) dQ (fun b2=>?_)
  (refine W.o ?_;repeat intro b_)
  refine SL.append (n:=1) (m:=len) (ys:=qs.map bv) (xs:=[]) [(b2,cl [] 5)] rfl rfl rfl rfl rfl (.inr ⟨b2,0,0,[],rfl,rfl,rfl,Nat.le_refl _,rfl⟩) (fun w2 hs=>Rd.srcAt hw (hs.tail (List.Perm.refl _))) hlen (by rfl) dQ dQ ?_ (fun v2 Ha2 h3=>?_)
  ·dsimp only [List.length_nil];rw [aD];omega
  have hov:One v2:=h3.one
  (refine W.o ?_;repeat intro b_)
  have he:σ.arm n qs=({ σ with fuse:=0,picks:=qs }:Dv):=by simp only [Dv.arm];congr 1;omega
  rw [he]
  exact Fin.drop Hq (Fin.perm (aQh _ _ _ _ _ _ _) (Fin.s0 (.inr rfl) rfl ⟨rfl,⟨hO.n,hO.ok,by dsimp only;omega,by dsimp only;omega,hO.a⟩,bl,bn,bp,bm,v2,va,Ha2,Ha,h3,h2,rfl⟩))
 ·(refine W.o ?_;repeat intro b_)
  refine kN (n:=1) (r:=[]) rfl rfl rfl rfl (by rfl) dQ (by rfl) dQ (fun b2=>?_)
  (refine W.o ?_;repeat intro b_)
  refine SL.append (n:=1) (m:=len) (ys:=qs.map bv) (xs:=[]) [(b2,cl [] 5)] rfl rfl rfl rfl rfl (.inr ⟨b2,0,0,[],rfl,rfl,rfl,Nat.le_refl _,rfl⟩) (fun w2 hs=>Rd.srcAt hw (hs.tail (List.Perm.refl _))) hlen (by rfl) dQ dQ ?_ (fun v2 Ha2 h3=>?_)
  ·dsimp only [List.length_nil];rw [aD];omega
  have hov:One v2:=h3.one
  (refine W.o ?_;repeat intro b_)
  have he:σ.arm n qs=({ σ with fuse:=n,picks:=qs }:Dv):=by simp only [Dv.arm];congr 1;omega
  rw [he]
  exact Fin.drop Hq (Fin.perm (aQh _ _ _ _ _ _ _) (Fin.s0 (.inr rfl) rfl ⟨rfl,⟨hO.n,hO.ok,by dsimp only;omega,by dsimp only;omega,hO.a⟩,bl,bn,bp,bm,v2,va,Ha2,Ha,h3,h2,rfl⟩))
theorem aQD{p:Nat}{σ:Dv}{H:Hp}(hD:lS p σ H)(q:Value)(qs:List UInt8):Tri prog 76 [.pointer (some ⟨p,0,none⟩),q] H (fun w=>Rd (H.map Prod.fst) w 1 q (qs.map bv))
  (fun v H'=>v=.tuple #[]∧lS p (σ.crash qs) H'):=by
 obtain⟨hO,bl,bn,bp,bm,vp,va,Hq,Ha,h1,h2,rfl⟩:=hD
 have hlen:(σ.crash qs).ws.length=σ.ws.length:=by unfold Dv.crash;cases σ.down <;> simp [zE]
 have hk:=aFH (p:=p) (bl:=bl) (bn:=bn) (bp:=bp) (bm:=bm) hO vp va q qs
 unfold aCJ at hk
 refine (hk.frame (r:=Hq++Ha) (List.Perm.refl _) (fun w ho hr=>?_)).mono ?_
 ·obtain⟨a,len,cap,rfl,hl,hc,hb⟩:=hr
  refine⟨a,len,cap,rfl,hl,hc,hb.imp id fun⟨b,o,l,T,fz,ha,hb,hk,hy⟩=>⟨b,o,l,T,fz,ha,hb,fun hm=>hk ?_,hy⟩⟩
  simp only [cI,dV,or_false] at hm
  rcases hm with rfl|rfl|rfl|rfl|rfl <;> simp
 ·rintro v H' ⟨H1,rfl,rfl,rfl⟩
  refine⟨rfl,Dv.crash_ok qs hO,bl,bn,bp,bm,vp,va,Hq,Ha,?_,?_,rfl⟩
  ·unfold Dv.crash;cases σ.down <;> exact h1
  ·unfold Dv.crash;cases σ.down <;> exact h2
end
theorem aQQ(ws:List Wd):rl ws=(lC ws).map bv:=by simp [rl,lC,List.map_flatMap]
theorem aQu{ws:List Wd}(hok:∀ w∈ws,w.Ok){i:Nat}{u u':Wd}(hu:ws[i/8]?=some u)(c:UInt8)(h:u.lasts.set (i%8) c=u'.lasts):(lC ws).set i c=lC (ws.set (i/8) u'):=
 aP2 Wd.lasts (fun w hw=>(hok w hw).1.1) hu c (by rw [← h,bQ];exact (hok u (aS hu)).1.1) h
section
attribute [local irreducible] SW SL SQ SH SA SS Pu Fin bZ aQ
theorem aQs:∀ (bs:List UInt8) (ws:List Wd) (i:Nat),(∀ w∈ws,w.Ok)→i+bs.length≤8*ws.length →
  kV (gG Wd.tam ws i bs)=(kV ws).take i++bs++(kV ws).drop (i+bs.length)∧lC (gG Wd.tam ws i bs)=(lC ws).take i++bs++(lC ws).drop (i+bs.length)∧rp (gG Wd.tam ws i bs)=rp ws∧rm (gG Wd.tam ws i bs)=rm ws
 | [],ws,i,_,_=>by simp [gG]
 | c::t,ws,i,hok,hl=>by
  simp only [aW] at hl
  have hm:i/8<ws.length:=oQ
  obtain⟨u,hu⟩:∃ u,ws[i/8]?=some u:=⟨_,aA hm⟩
  have hB:qL Wd.tam ws i c=ws.set (i/8) (u.tam (i%8) c):=pM _ hu
  have hok2:∀ w∈qL Wd.tam ws i c,w.Ok:=by unfold qL;exact aBh (fun w=>Wd.tam_ok _ _) _ hok
  obtain⟨e1,e2,e3,e4⟩:=aQs t (qL Wd.tam ws i c) (i+1) hok2 (by rw [aFr];omega)
  have n1:kV (qL Wd.tam ws i c)=(kV ws).set i c:=by rw [hB];exact (aCz hok hu c rfl).symm
  have n2:lC (qL Wd.tam ws i c)=(lC ws).set i c:=by rw [hB];exact (aQu hok hu c rfl).symm
  have l1:=xA hok
  have l2:=aIz hok
  have key:∀ (l:List UInt8),i<l.length→(l.set i c).take (i+1)++t++(l.set i c).drop (i+1+t.length)=l.take i++(c::t)++l.drop (i+(t.length+1)):=fun l hi=>by
   rw [List.take_set,bA,aA hi,dO,cA _ _ (by simp;omega)]
   have e:i-(l.take i).length=0:=by simp;omega
   rw [e,fJ,List.drop_set_of_lt oQ]
   rw [show i+1+t.length=i+(t.length+1) by omega]
   simp only [aV,pE,eH,aR]
  refine⟨?_,?_,?_,?_⟩
  ·show kV (gG Wd.tam (qL Wd.tam ws i c) (i+1) t)=_
   rw [e1,n1];exact key _ oQ
  ·show lC (gG Wd.tam (qL Wd.tam ws i c) (i+1) t)=_
   rw [e2,n2];exact key _ oQ
  ·show rp (gG Wd.tam (qL Wd.tam ws i c) (i+1) t)=_
   rw [e3,hB];exact aEd _ hu rfl
  ·show rm (gG Wd.tam (qL Wd.tam ws i c) (i+1) t)=_
   rw [e4,hB];exact aEd _ hu rfl
theorem aQY{p:Nat}{σ:Dv}{H:Hp}(hD:lS p σ H)(x:Int)(v:Value)(bs:List UInt8)(hbs:bs.length≤1048576)(hx : -9223372036854775808≤x∧x≤9223372036854775807):Tri prog 79 [.pointer (some ⟨p,0,none⟩),.int .i64 x,v] H (fun w=>Rd (H.map Prod.fst) w 1 v (bs.map bv))
  (fun v' H'=>v'=.bool (σ.tamB x bs.length)∧lS p (σ.tam x bs) H'):=by
 refine Tri.mk func79 rfl ntmps79 rfl fun w hw=>?_
 have hrd0:=hw
 obtain⟨aa,len,cap,rfl,hlen,hcap,hrd⟩:=hw.get
 rw [aD,Nat.mul_one] at hlen
 subst hlen
 have hlen:σ.len=8*σ.ws.length:=rfl
 have hN:=hD.1.n
 have hD0:=hD
 obtain⟨hO,bl,bn,bp,bm,vp,va,Hq,Ha,h4,h3,rfl⟩:=hD
 by_cases hb:0≤x∧bs.length≤σ.len∧x≤(σ.len:Int)-bs.length
 ·have ht:σ.tamB x bs.length=true:=by unfold Dv.tamB;exact decide_eq_true hb
  have hts:σ.tam x bs=σ.setWs (gG Wd.tam σ.ws x.toNat bs):=by unfold Dv.tam;rw [ht];rfl
  rw [ht,hts]
  obtain⟨i,rfl⟩:∃ i:Nat,x=i:=⟨x.toNat,by omega⟩
  rw [aU]
  obtain⟨e1,e2,e3,e4⟩:=aQs bs σ.ws i hO.ok oQ
  have l1:=aGP hO.ok
  have l2:=aGN hO.ok
  have hsrc:∀ {H2:Hp} (w2:World),St _ w H2 w2→fB prog w2 (.slice aa bs.length cap) 1 bs.length (bs.map bv):=fun w2 hs=>hrd0.srcAt hs
  have f1:∀ j,j=i∨bs.length=0→(rn σ.ws).take j++bs.map bv++(rn σ.ws).drop (j+(bs.map bv).length)=rn (gG Wd.tam σ.ws i bs):=fun j hj=>by
   rw [aKG,aKG,e1,aL,aL,iA,jQ,aD]
   rcases hj with rfl|hj
   ·rfl
   ·have:bs=[]:=bL hj
    subst this;simp
  have f2:∀ j,j=i∨bs.length=0→(rl σ.ws).take j++bs.map bv++(rl σ.ws).drop (j+(bs.map bv).length)=rl (gG Wd.tam σ.ws i bs):=fun j hj=>by
   rw [aQQ,aQQ,e2,aL,aL,iA,jQ,aD]
   rcases hj with rfl|hj
   ·rfl
   ·have:bs=[]:=bL hj
    subst this;simp
  by_cases hlt:i<σ.len
  ·(refine W.k ?_;repeat intro b_)
   refine W.cy (fun w2 hs=>hsrc w2 hs) ?_ (hfit:=by simp;omega)
   (refine W.k ?_;repeat intro b_)
   refine W.cy (fun w2 hs=>hsrc w2 hs) ?_ (hfit:=by simp;omega)
   rw [f1 _ (.inl rfl),f2 _ (.inl rfl)]
   (refine W.k ?_;repeat intro b_)
   refine F.f1 ?_
   refine⟨rfl,Dv.setWs_ok hO (lV _ _ _ _) (xY (fun j c w=>Wd.tam_ok j c) bs σ.ws i hO.ok),bl,bn,bp,bm,vp,va,Hq,Ha,h4,h3,?_⟩
   simp [Dv.setWs,Dv.len,lV,e3,e4]
  ·have hz:bs.length=0:=oQ
   (refine W.k ?_;repeat intro b_)
   refine W.cy (fun w2 hs=>hsrc w2 hs) ?_ (hfit:=by simp;omega)
   (refine W.k ?_;repeat intro b_)
   refine W.cy (fun w2 hs=>hsrc w2 hs) ?_ (hfit:=by simp;omega)
   rw [f1 _ (.inr hz),f2 _ (.inr hz)]
   (refine W.k ?_;repeat intro b_)
   refine F.f1 ?_
   refine⟨rfl,Dv.setWs_ok hO (lV _ _ _ _) (xY (fun j c w=>Wd.tam_ok j c) bs σ.ws i hO.ok),bl,bn,bp,bm,vp,va,Hq,Ha,h4,h3,?_⟩
   simp [Dv.setWs,Dv.len,lV,e3,e4]
 ·have ht:σ.tamB x bs.length=false:=by unfold Dv.tamB;exact decide_eq_false hb
  have hts:σ.tam x bs=σ:=by unfold Dv.tam;rw [ht];rfl
  rw [ht,hts]
  repeat' (first|(refine W.go ?_;try intro b_)  | (refine W.cs (fun h_=>?_) (fun h_=>?_) <;> dsimp only [oJ] at h_)|(refine aDr rfl (fun h_=>?_) (fun h_=>?_) <;> (try dsimp only [oJ] at h_))|refine kF rfl (fun h_=>?_) (fun h_=>?_))
  all_goals first|(exfalso;omega)|skip
  all_goals (refine F.f1 ?_;exact⟨rfl,hD0⟩)
end
theorem aQ0(σ:Dv)(x:Int)(bs:List UInt8):(σ.tam x bs).ws.length=σ.ws.length:=by
 unfold Dv.tam
 split
 ·exact lV _ _ _ _
 ·rfl
section
attribute [local irreducible] SW SL SQ SH SA SS Pu Fin bZ aQ
abbrev lP(d tr s p t:Nat)(ev lv:Value)(w:Bool)(st:Int):List Value:=[ptv d,ptv tr,ptv s,.int .i64 (p:Int),.int .i64 (t:Int),ev,lv,.bool w,.int .i64 st]
theorem Sl.rowD{e:Nat}{v:Value}{L:List (List UInt8)}{Hs:Hp}(h:Sl e 32 v (cbs L.flatten) Hs)(hL:D32 L)(h0:0<L.length):∃ (b cap:Nat) (junk:List Value),v=.slice (some ⟨b,0,none⟩) L.length cap∧L.length≤cap∧Hs=[(b,cl (cbs L.flatten++junk) e)]∧∀ L':List (List UInt8),D32 L'→L'.length=L.length→Sl e 32 v (cbs L'.flatten) [(b,cl (cbs L'.flatten++junk) e)]:=by
 rcases h with ⟨rfl,h2,rfl⟩|⟨b,len,cap,junk,rfl,hx,hj,hlc,rfl⟩
 ·have h3:=congrArg List.length h2
  rw [aI,eN hL,List.length_nil] at h3
  omega
 ·obtain rfl:len=L.length:=by rw [aI,eN hL] at hx;omega
  refine⟨b,cap,junk,rfl,hlc,rfl,fun L' h' hl=>.inr ⟨b,L.length,cap,junk,rfl,?_,hj,hlc,rfl⟩⟩
  rw [aI,eN h',hl]
theorem aQC{p t:Nat}(h:Gm.Ok p t){K:Nat}(hK:(K:Int)<(Gm.sealed p:Nat)):Tri prog 139 [kP p t,.int .i64 3,.int .i64 (K:Int)] [] (fun _=>True) (fun v H=>v=.int .i64 ((Ks p K:Nat):Int)∧H=[]):=by
 have:=aGL h (K:=3) (n:=Gm.sealed p) (base:=1+Gm.epochs p) (.inr (.inl ⟨rfl,rfl,rfl⟩)) (K:Int)
 rwa [show Gm.atK (Gm.sealed p) (1+Gm.epochs p) (K:Int)=((Ks p K:Nat):Int) by unfold Gm.atK;rw [if_pos oQ];show _=((1+Gm.epochs p+K:Nat):Int);omega] at this
theorem aQB{p t:Nat}(h:Gm.Ok p t){q:Nat}(hq:q<Gm.epochs p):Tri prog 139 [kP p t,.int .i64 2,.int .i64 (q:Int)] [] (fun _=>True) (fun v H=>v=.int .i64 ((1+q:Nat):Int)∧H=[]):=by
 have:=aGL h (K:=2) (n:=Gm.epochs p) (base:=1) (.inl ⟨rfl,rfl,rfl⟩) (q:Int)
 rwa [show Gm.atK (Gm.epochs p) 1 (q:Int)=((1+q:Nat):Int) by unfold Gm.atK;rw [if_pos oQ];omega] at this
theorem aQI{sp d tr s p t rc n N:Nat}{ws:List (List UInt8)}(h:Gm.Ok p t){σ:Dv}{x:So}{Hd HT HR:Hp}(hx:x.Ok p)(hD:lS d σ Hd)(hlen:σ.len=256*Gm.total p t)(hS:aLj sp d tr s p t x HT)(hSe:rV s rc n ws N HR)(hKo:qB n ws)(k:Int) :
  Tri prog 74 [ptv sp,.int .i64 k] (HT++(Hd++HR)) (fun _=>True)
  (fun v H=>∃ v1 Hr HT',v=.tuple #[v1,.int .i64 (rdS p (dT (Rg.enc ws n)) k σ x).1]∧Sl 5 1 v1 (cbs (rdS p (dT (Rg.enc ws n)) k σ x).2.1) Hr∧aLj sp d tr s p t (rdS p (dT (Rg.enc ws n)) k σ x).2.2 HT'∧H=HT'++(Hd++(HR++Hr))):=by
 obtain⟨ev,lv,He,Hl,rfl,hE,hL⟩:=hS
 refine Tri.mk func74 rfl ntmps74 rfl fun w hw=>?_
 have oe:=hE.isOne
 have ol:=hL.isOne
 by_cases h0:x.st≠0
 ·have e1:rdS p (dT (Rg.enc ws n)) k σ x=(x.st,[],x):=by unfold rdS;rw [if_pos h0]
  rw [e1]
  dsimp only
  have h0':¬ x.st=0:=h0
  refine W.k ?_
  (refine SW.l [] [0,1,2,3,4,5,6] ?_)
  refine W.k ?_
  refine Fin.to (((sp,cl (lP d tr s p t ev lv x.w x.st) 160)::(He++Hl))++(Hd++(HR++[]))) ?_
  exact F.f2 ⟨_,[],_,rfl,Sl.nil _ _,⟨ev,lv,He,Hl,rfl,hE,hL⟩,rfl⟩
 have h0':x.st=0:=Decidable.not_not.1 h0
 have hsa:=aGL h (K:=3) (n:=Gm.sealed p) (base:=1+Gm.epochs p) (.inr (.inl ⟨rfl,rfl,rfl⟩)) k
 by_cases hk:¬ (0≤k∧k<(Gm.sealed p:Nat))
 ·have e1:rdS p (dT (Rg.enc ws n)) k σ x=(3,[],x):=by unfold rdS;rw [if_neg h0,if_pos hk]
  rw [e1]
  dsimp only
  rw [show Gm.atK (Gm.sealed p) (1+Gm.epochs p) k = -1 by unfold Gm.atK;rw [if_neg hk]] at hsa
  refine W.k ?_
  refine W.cw hsa ?_
  refine Fin.to (((sp,cl (lP d tr s p t ev lv x.w x.st) 160)::(He++Hl))++(Hd++(HR++[]))) ?_
  exact F.f2 ⟨_,[],_,rfl,Sl.nil _ _,⟨ev,lv,He,Hl,rfl,hE,hL⟩,rfl⟩
 have hk2:=Decidable.not_not.1 hk
 obtain⟨j,rfl⟩:∃ j:Nat,k=j:=⟨k.toNat,by omega⟩
 have hsl:=Gm.sealed_le h
 have hel:=Gm.epochs_le h
 have hLe:Gm.leaves p=1+Gm.epochs p+Gm.sealed p:=rfl
 have htot:Gm.total p t=Gm.leaves p+(1+t):=rfl
 have hKs:Ks p j=1+Gm.epochs p+j:=rfl
 rw [show Gm.atK (Gm.sealed p) (1+Gm.epochs p) (j:Int)=((Ks p j:Nat):Int) by unfold Gm.atK;rw [if_pos hk2,hKs];omega] at hsa
 have hKl:Ks p j<Gm.total p t:=oQ
 have hlvl:=hx.lv
 have hld:=aMu hD ((256*Ks p j:Nat):Int) 256
 have hr0:σ.rdy ((256*Ks p j:Nat):Int) 256=if σ.down=true then 8 else 0:=by
  unfold Dv.rdy
  split
  ·rfl
  ·rw [hlen,if_neg oQ]
 rw [hr0] at hld
 have hbk:(σ.blk (Ks p j))=σ.loadB ((256*Ks p j:Nat):Int) 256:=rfl
 have em:(256:Int)*((Ks p j:Nat):Int)=((256*Ks p j:Nat):Int):=oQ
 by_cases hdn:σ.down=true
 ·have e1:rdS p (dT (Rg.enc ws n)) j σ x=(8,[],{ x with st:=8 }):=by unfold rdS;rw [if_neg h0,if_neg hk,if_pos hdn]
  rw [e1]
  dsimp only
  rw [if_pos hdn,← em] at hld
  refine W.k ?_
  refine W.cw hsa ?_
  refine aG hld ?_
  rintro _ _ ⟨sv,Hv,rfl,hsv,rfl⟩
  have hsv1:=hsv.isOne
  refine W.k ?_
  rw [show (lP d tr s p t ev lv x.w x.st).set 8 (.int .i64 8)=lP d tr s p t ev lv x.w 8 from rfl]
  refine Fin.to (((sp,cl (lP d tr s p t ev lv x.w 8) 160)::(He++Hl))++(Hd++(HR++[]))) ?_
  exact F.f2 ⟨_,[],_,rfl,Sl.nil _ _,⟨ev,lv,He,Hl,rfl,hE,hL⟩,rfl⟩
 rw [if_neg hdn,← hbk,← em] at hld
 have hdn2:σ.down=false:=by simpa using hdn
 have hb256:(σ.blk (Ks p j)).length=256:=Dv.blk_256 hD.1 hdn2 hlen hKl
 have hlf:=fun v=>aMt (Ks p j) v (σ.blk (Ks p j)) (by rw [hb256];decide)
 have e1:rdS p (dT (Rg.enc ws n)) j σ x=if Sha.sum (fC (Ks p j) (σ.blk (Ks p j)))≠qK x.lv (Ks p j) then (20,[],{ x with st:=20 }) else (0,dT (Rg.enc ws n) (x.es.getD j 0) j (σ.blk (Ks p j)),x):=by unfold rdS;rw [if_neg h0,if_neg hk,if_neg hdn];rfl
 rw [e1]
 clear e1 hbk hr0
 have hs32:(Sha.sum (fC (Ks p j) (σ.blk (Ks p j)))).length=32:=Sha.sum_len _
 generalize σ.blk (Ks p j)=B at *
 generalize Sha.sum (fC (Ks p j) B)=S1 at *
 obtain⟨lb,lc,lj,rfl,hlc,rfl,hLn⟩:=hL.rowD hx.d oQ
 have hLx:=hLn x.lv hx.d rfl
 clear hLn
 have hxk:x.lv[Ks p j]?=some (qK x.lv ((Ks p j:Nat):Int)):=by
  unfold qK
  rw [if_pos oQ,aU,aC,aA oQ]
  rfl
 have hg:=qE (junk:=lj) hx.d hxk
 have hlv32:(qK x.lv ((Ks p j:Nat):Int)).length=32:=aIB hx.d _
 have hlvc:=oI hlv32
 have hs32c:=oI hs32
 have hfit:Ks p j*32+32≤(cbs x.lv.flatten++lj).length:=by rw [aB,aI,eN hx.d];omega
 refine W.k ?_
 refine W.cw hsa ?_
 refine aG hld ?_
 rintro _ _ ⟨sv,Hv,rfl,hsv,rfl⟩
 have hsv1:=hsv.isOne
 refine W.k ?_
 (refine SW.l [] [0,1,3,4,5,6,7,8,9] ?_;refine aX 2 ?_)
 refine W.cq (hlf sv) ?_ (hpre:=fun w2 hs=>Rd.own (Hc:=[]) hsv hs inferInstance)
 by_cases hne:S1=qK x.lv ((Ks p j:Nat):Int)
 ·rw [if_neg (fun hh=>hh hne)]
  (refine bK [] ?_;refine dN 10 rfl (aHH rfl rfl rfl hs32 hne) ?_;refine SS.dn ?_)
  have hen:x.es.length=Gm.sealed p:=hx.es
  have hE0:=hE
  rcases hE with ⟨-,hz,-⟩|⟨be,elen,ecap,ejunk,rfl,hexl,hej,hec,rfl⟩
  ·have h9:=iE x.es
   rw [hz,List.length_nil] at h9
   omega
  rw [iE] at hexl
  obtain rfl:elen=x.es.length:=by omega
  have hlu:(uv x.es++ejunk)[j]?=some (eX (x.es.getD j 0)):=by rw [aO (by rw [iE];omega)];exact aK8 oQ
  have hso:=fun v=>aHa hSe hKo (x.es.getD j 0) j oQ v B oQ
  refine W.k ?_
  (refine SW.l [14] [0,1,2,3,4,5,6,7,8,9,10,11,12,13] ?_;refine bV 14 ?_)
  refine aG (hso sv) ?_ (hpre:=fun w2 hs=>Rd.own (Hc:=HR) hsv hs inferInstance)
  rintro v1 _ ⟨Hr,hr,rfl⟩
  have hr1:=hr.isOne
  (refine SL.l [15,16,17] ?_)
  refine W.k ?_
  refine Fin.to (((sp,cl (lP d tr s p t (.slice (some ⟨be,0,none⟩) x.es.length ecap) (.slice (some ⟨lb,0,none⟩) x.lv.length lc) x.w x.st) 160)::([(be,cl (uv x.es++ejunk) 33)]++[(lb,cl (cbs x.lv.flatten++lj) 54)]))++(Hd++(HR++Hr))) ?_
  exact F.f2 ⟨_,Hr,_,rfl,hr,⟨_,_,_,_,rfl,hE0,hLx⟩,rfl⟩
 ·rw [if_pos hne]
  (refine bK [] ?_;refine dN 10 rfl (aHI rfl rfl rfl hs32 hlv32 hne) ?_;refine SS.dn ?_)
  refine W.k ?_
  rw [show (lP d tr s p t ev (.slice (some ⟨lb,0,none⟩) x.lv.length lc) x.w x.st).set 8 (.int .i64 20)=lP d tr s p t ev (.slice (some ⟨lb,0,none⟩) x.lv.length lc) x.w 20 from rfl]
  refine Fin.to (((sp,cl (lP d tr s p t ev (.slice (some ⟨lb,0,none⟩) x.lv.length lc) x.w 20) 160)::(He++[(lb,cl (cbs x.lv.flatten++lj) 54)]))++(Hd++(HR++[]))) ?_
  exact F.f2 ⟨_,[],_,rfl,Sl.nil _ _,⟨ev,_,He,_,rfl,hE,hLx⟩,rfl⟩
theorem aQW{sp d tr p t:Nat}(h:Gm.Ok p t){c:UInt64}{Lv nx:Value}{us:List Value}{l:List Ent}{es:List UInt64}{σ:Dv}{Hd He Ht Hn:Hp}(hD:lS d σ Hd)(h8:σ.ws.length%8=0)(hm:gV p t l=true)(hLe:Sl 72 2 Lv (eW us l) He)(hR:RB Ht us (l.map Prod.snd))(hE:Sl 33 1 nx (uv es) Hn) :
  Tri prog 206 [sJ d tr sp p t,.agg #[eX c,Lv],nx] (Hd++((He++Ht)++Hn)) (fun _=>True)
  (fun v H=>v=.int .i64 (aBf p es l σ).1∧∃ Hd',lS d (aBf p es l σ).2 Hd'∧H=Hd'++((He++Ht)++Hn)):=by
 have hll:=Gm.leaves_le h
 have hsl:=Gm.sealed_le h
 have hel:=Gm.epochs_le h
 have hLq:Gm.leaves p=1+Gm.epochs p+Gm.sealed p:=rfl
 have ht:=h.2.2.2
 have hesl:1≤l.length∧l.length≤t:=by unfold gV at hm;rw [bX,decide_eq_true_iff] at hm;exact hm.1
 have hmL:oM p (-1) l=true:=by unfold gV at hm;rw [bX] at hm;exact hm.2
 have hmall:∀ (k:Nat) (x:Ent),l[k]?=some x → -1<x.1∧x.1<(Gm.sealed p:Nat)∧x.2.length=256:=mP hmL
 have htlt:=vQ hm
 have htle:=tG l
 have hul:us.length=l.length:=by rw [hR.1,aD]
 have hoc:=hR.oc
 have hel2:=gE us l hul
 have hE1:=hE.isOne
 obtain⟨na,nl,nc,rfl,-⟩:=hE.form
 have hmt:=fun v=>aIP (p:=p) v us l hul hoc hmL oQ oQ
 have hLe0:=hLe
 rcases hLe with ⟨-,hz,-⟩|⟨eb,elen,ecap,ejunk,rfl,hexl,hej,hec,rfl⟩
 ·rw [hz] at hel2;simp at hel2;omega
 obtain rfl:elen=l.length:=by omega
 have hlay:aBf p es l=(putL (oK p es l)).and feS:=rfl
 rw [hlay]
 have hlen:=aJZ p es l
 have hat:=fun k x hx=>aLY (p:=p) es (l:=l) (k:=k) (x:=x) hx
 have htab:=fun k q hx=>aJ0 (p:=p) es (l:=l) (k:=k) (q:=q) hx
 generalize oK p es l=rows at *
 clear hm hmL
 refine Tri.mk func206 rfl ntmps206 rfl fun w hw=>?_
 refine W.j fun _ b_=>?_
 rename_i b1
 generalize b_=b2
 refine bW [2,3,4] Hd (fun _:Dv×Hp=>[]) (fun x=>x.2) (fun x=>lS d x.1 x.2∧putL (rows.take l.length) σ=(0,x.1)) ?_ ?_
 ·refine W.k ?_
  refine bF [2,3,4,14,15] (fun x:Nat×Dv×Hp=>[(16,.int .i64 (x.1:Int))]) (fun x=>x.2.2) (fun x=>l.length-x.1) (fun x=>x.1≤l.length∧lS d x.2.1 x.2.2∧putL (rows.take x.1) σ=(0,x.2.1)) (0,σ,Hd) ⟨Nat.zero_le _,hD,by rw [cU];rfl⟩ ?_
  rintro⟨k,σ2,Hd⟩ ⟨hk,hD,hp⟩
  dsimp only at hk hD hp ⊢
  by_cases hkn:k<l.length
  ·have hx:=aA hkn
   obtain⟨u,huk,hru⟩:=hR.2 k l[k].2 (by rw [aH,hx];rfl)
   have hrow:=xQ (junk:=ejunk) hul huk hx
   obtain⟨hx1,hx2,hx3⟩:=hmall k _ hx
   obtain⟨hs1,hs2⟩:=aBo hp (hat k _ hx)
   dsimp only at hs1 hs2
   have huo:=hru.one
   have hwl:σ2.ws.length=σ.ws.length:=by have:=kL (rows.take k) σ;rw [hp] at this;exact this
   generalize l[k]=x at *
   obtain⟨K,hKK⟩:∃ K:Nat,x.1=(K:Int):=⟨x.1.toNat,by omega⟩
   rw [hKK] at hrow
   rw [show x.1.toNat=K by omega] at hs1 hs2
   have hsa:=aQC h (show (K:Int)<_ by omega)
   have hpt:=aEr (tr:=tr) (s:=sp) (p:=p) (t:=t) hD (by rw [hwl];exact h8) (Ks p K) (by show 1+Gm.epochs p+K<_;omega) u x.2 oQ
   refine W.k fun b_=>?_
   generalize b_=b3
   (refine SW.l [8] [0,1,2,3,4,6,7] ?_;refine aX 5 ?_)
   refine W.cq hsa ?_
   (refine bK [] ?_;refine bV 8 ?_)
   refine aG hpt ?_ (hpre:=fun w2 hs=>hru.rd (Hc:=Hd) hs)
   rintro _ Hd2 ⟨rfl,hD2⟩
   (refine SL.l [9,10] ?_)
   by_cases h0:(eY (Ks p K) x.2 σ2).1=0
   ·rw [if_pos h0] at hs1
    refine W.k ?_
    refine aQ.mk (k+1,(eY (Ks p K) x.2 σ2).2,Hd2) ?_
    exact⟨hkn,hD2,hs1⟩
   ·have hwd:(putL rows).and feS σ=eY (Ks p K) x.2 σ2:=by
     unfold DS.and
     rw [hs2 h0,if_neg h0]
    rw [hwd]
    refine W.k ?_
    refine Fin.to (Hd2++(([(eb,cl (eW us l++ejunk) 72)]++Ht)++Hn)) ?_
    exact F.f1 ⟨rfl,Hd2,hD2,rfl⟩
  ·have hkl:k=l.length:=oQ
   subst hkl
   refine W.k ?_
   refine bZ.mk (σ2,Hd) ?_
   exact⟨hD,hp⟩
 rintro⟨σ1,Hd⟩ ⟨hD,hp1⟩
 dsimp only at hD hp1 ⊢
 have hwl1:σ1.ws.length=σ.ws.length:=by have:=kL (rows.take l.length) σ;rw [hp1] at this;exact this
 refine W.k ?_
 refine aG (hmt _) ?_ (hpre:=fun w2 hs=>Rd.own (Hc:=[]) hLe0 hs inferInstance)
 rintro _ Hq hT
 have hT1:=hT.isOne
 obtain⟨ta,tl,tc2,rfl,htl⟩:=hT.form
 rw [Nat.mul_one,aD] at htl
 subst htl
 refine W.j ?_
 refine bW [3] Hd (fun _:Dv×Hp=>[]) (fun x=>x.2) (fun x=>lS d x.1 x.2∧putL rows σ=(0,x.1)) ?_ ?_
 ·refine W.k ?_
  refine bF [2,3,35,36] (fun x:Nat×Dv×Hp=>[(37,.int .i64 (x.1:Int))]) (fun x=>x.2.2) (fun x=>(dW l).length-x.1) (fun x=>x.1≤(dW l).length∧lS d x.2.1 x.2.2∧putL (rows.take (l.length+x.1)) σ=(0,x.2.1)) (0,σ1,Hd) ⟨Nat.zero_le _,hD,hp1⟩ ?_
  rintro⟨k,σ2,Hd⟩ ⟨hk,hD,hp⟩
  dsimp only at hk hD hp ⊢
  by_cases hkn:k<(dW l).length
  ·rcases hT with ⟨hz,hz2,-⟩|⟨qb,qlen,qcap,qjunk,hz,hqxl,hqj,hqc,rfl⟩
   ·simp only [Value.slice.injEq] at hz;omega
   simp only [Value.slice.injEq] at hz
   obtain⟨rfl,rfl,rfl⟩:=hz
   have hx:=aA hkn
   have hlu:(nv (dW l)++qjunk)[k]?=some (.int .i64 (((dW l)[k]:Nat):Int)):=by
    rw [aO (by rw [aD];exact hkn),aH,hx];rfl
   have hlt:=htlt _ (cP hkn)
   obtain⟨hs1,hs2⟩:=aBo hp (htab k _ hx)
   dsimp only at hs1 hs2
   rw [nH] at hs1
   have hwl:σ2.ws.length=σ.ws.length:=by have:=kL (rows.take (l.length+k)) σ;rw [hp] at this;exact this
   generalize (dW l)[k]=q at *
   have hsb:=aFF q oQ (.slice na nl nc) es
   have hea:=aQB h hlt
   have hpt:=fun v=>aEr (tr:=tr) (s:=sp) (p:=p) (t:=t) hD (by rw [hwl];exact h8) (1+q) oQ v (epB q es) (by rw [oU];decide)
   generalize epB q es=eb5 at *
   refine W.k ?_
   (refine SW.l [8] [0,1,2,3,5,6] ?_;refine aX 4 ?_)
   refine W.cq hea ?_
   (refine bK [] ?_;refine aX 7 ?_)
   refine aG hsb ?_ (hpre:=fun w2 hs=>Rd.own (Hc:=[]) hE hs inferInstance)
   rintro v5 H5 h5
   have h51:=h5.isOne
   (refine bK [] ?_;refine bV 8 ?_)
   refine aG (hpt v5) ?_ (hpre:=fun w2 hs=>Rd.own (Hc:=Hd) h5 hs inferInstance)
   rintro _ Hd2 ⟨rfl,hD2⟩
   (refine SL.l [9,10] ?_)
   by_cases h0:(eY (1+q) eb5 σ2).1=0
   ·rw [if_pos h0] at hs1
    refine W.k ?_
    refine aQ.mk (k+1,(eY (1+q) eb5 σ2).2,Hd2) ?_
    exact⟨hkn,hD2,hs1⟩
   ·have hwd:(putL rows).and feS σ=eY (1+q) eb5 σ2:=by
     unfold DS.and
     rw [hs2 h0,if_neg h0]
    rw [hwd]
    refine W.k ?_
    refine Fin.to (Hd2++(([(eb,cl (eW us l++ejunk) 72)]++Ht)++Hn)) ?_
    exact F.f1 ⟨rfl,Hd2,hD2,rfl⟩
  ·have hkl:k=(dW l).length:=oQ
   rw [aFD oQ] at hp
   subst hkl
   refine W.k ?_
   refine bZ.mk (σ2,Hd) ?_
   exact⟨hD,hp⟩
 rintro⟨σ2,Hd⟩ ⟨hD,hp⟩
 dsimp only at hD hp ⊢
 have hwd:(putL rows).and feS σ=feS σ2:=DS.and_eq hp
 have hfe:=aAG hD
 rw [hwd]
 refine W.k ?_
 refine aG hfe ?_
 rintro _ Hd2 ⟨rfl,hD2⟩
 refine W.k ?_
 refine Fin.to (Hd2++(([(eb,cl (eW us l++ejunk) 72)]++Ht)++Hn)) ?_
 exact F.f1 ⟨rfl,Hd2,hD2,rfl⟩
theorem aQ4(m:Int)(q:Nat)(hq:q<1000):∃ r:Nat,r≤q∧UAr .and .i64 m (q:Int) (r:Int):=by
 have hq2:(BitVec.ofInt 64 (q:Int)).toNat=q:=by rw [iV];omega
 have hle:(BitVec.ofInt 64 m &&& BitVec.ofInt 64 (q:Int)).toNat≤q:=by rw [tO,hq2];exact Nat.and_le_right
 refine⟨(BitVec.ofInt 64 m &&& BitVec.ofInt 64 (q:Int)).toNat,hle,⟨fun P w t=>?_⟩⟩
 have hw:IntKind.i64.wrap (((BitVec.ofInt 64 m &&& BitVec.ofInt 64 (q:Int)).toNat:Nat):Int)=(((BitVec.ofInt 64 m &&& BitVec.ofInt 64 (q:Int)).toNat:Nat):Int):=w64 oQ
 simp only [binOp,Op.intBits,ne_eq,not_true_eq_false,if_false,Sem.run_pure]
 exact congrArg (fun z=>Result.ok (Value.int .i64 z) w) hw
theorem aG8.rowQ{w:World}{v:Value}{us:List Value}{l:List Ent}(h:aG8 w v us l):∃ (a:Option Addr) (cap:Nat),v=.slice a l.length cap∧l.length≤cap ∧
  ∀ (i:Nat) (x:Ent),l[i]?=some x→∃ (u:Value) (b o:Nat) (lv:List Value) (T:TypeId) (fz:Nat×Nat),us[i]?=some u∧Rd [] w 1 u (cbs x.2)∧a=some ⟨b,o,none⟩∧w.heap[b]?=some (.cells lv.toArray T fz)∧b∉([]:List Nat)∧(lv.drop (o+i*2)).take 2=[.int .i64 x.1,u]:=by
 obtain⟨h1,h2,h3⟩:=h
 unfold eW at h1
 obtain⟨a,ca,rfl,hcap,hg⟩:=h1.rows dQ (nM us l)
 have hzl:(List.zipWith (fun u (x:Ent)=>[Value.int .i64 x.1,u]) us l).length=l.length:=by rw [gF,h2,jB]
 rw [hzl] at hcap ⊢
 refine⟨a,ca,rfl,hcap,fun i x hx=>?_⟩
 obtain⟨u,hu,hru⟩:=h3 i x hx
 obtain⟨b,o,lv,T,fz,ha,hb,hk,hv⟩:=hg i [.int .i64 x.1,u] (by rw [eZ,hu,hx])
 exact⟨u,b,o,lv,T,fz,hu,hru,ha,hb,hk,hv⟩
theorem aQb(K:Int)(a:Option Addr)(n c:Nat):bS (fun i=>some (i*2,2)) (zs [.int .i64 0,.slice none 0 0] 1) [(0,.agg [.int .i64 K,.slice a n c].toArray)]=some [.int .i64 K,.slice a n c]:=rfl
def ctV(n:Nat):Value→Value
 | .slice a len cap=>.slice a (min n len) cap
 | v=>v
theorem aQz{K:List Nat}{w:World}{v:Value}{bs:List UInt8}(h:Rd K w 1 v (cbs bs))(n:Nat):Rd K w 1 (ctV n v) (cbs (bs.take n)):=by
 obtain⟨a,len,cap,rfl,-⟩:=h.get
 exact Rd.pre n h
structure lQ(full:Bool)(HQ:Hp)(us:List Value)(l:List Ent)(us':List Value)(l':List Ent):Prop where
 ul:us'.length=l'.length
 n:l'.length=min 26 l.length
 ent:∀ (i:Nat) (x':Ent),l'[i]?=some x'→∃ u',us'[i]?=some u'∧One u'∧x'.2.length≤260∧((RdH HQ u' x'.2∧x'.2.length=256)∨∃ u x,us[i]?=some u∧l[i]?=some x∧u'=ctV 260 u∧x'=(x.1,x.2.take 260))
theorem lQ.nil(full:Bool)(us:List Value)(l:List Ent)(HQ:Hp):lQ full HQ us (l.take 0) [] []:=⟨rfl,by simp,by simp⟩
theorem lQ.snoc{full:Bool}{HQ:Hp}{us:List Value}{l:List Ent}{k:Nat}{us2:List Value}{l2:List Ent}(h:lQ full HQ us (l.take k) us2 l2)(hk:k<26){z:Ent}(hz:l[k]?=some z){u':Value}{x':Ent}{H1:Hp}(ho:One u')(hn:x'.2.length≤260)
  (hc:(RdH H1 u' x'.2∧x'.2.length=256)∨∃ u x,us[k]?=some u∧l[k]?=some x∧u'=ctV 260 u∧x'=(x.1,x.2.take 260)):lQ full (HQ++H1) us (l.take (k+1)) (us2++[u']) (l2++[x']):=by
 have hkl:k<l.length:=(aE.1 hz).1
 have hl2:l2.length=k:=by have:=h.n;rw [aK] at this;omega
 have hu2:us2.length=k:=by have:=h.ul;omega
 refine⟨by rw [aB,aB,h.ul];rfl,by rw [aB,aK,hl2];simp;omega,fun i y hy=>?_⟩
 by_cases hi:i<k
 ·rw [aO oQ] at hy
  obtain⟨u,h1,h2,h3,h4⟩:=h.ent i y hy
  refine⟨u,by rw [aO oQ];exact h1,h2,h3,h4.imp (fun h5=>⟨h5.1.mono fun z hz=>aN _ hz,h5.2⟩) fun⟨a,b,e1,e2,e3,e4⟩=>⟨a,b,e1,?_,e3,e4⟩⟩
  rw [bI,if_pos oQ]
  rw [bI,if_pos hi] at e2
  exact e2
 ·have hik:i=k:=by
   have:=(aE.1 hy).1
   rw [aB] at this
   simp at this
   omega
  subst hik
  rw [bB oQ,hl2,eB] at hy
  simp only [nZ,dF] at hy
  subst hy
  refine⟨u',by rw [bB oQ,hu2,eB];rfl,ho,hn,hc.imp (fun h5=>⟨h5.1.mono fun z hz=>aM _ hz,h5.2⟩) fun⟨a,b,e1,e2,e3,e4⟩=>⟨a,b,e1,?_,e3,e4⟩⟩
  rw [bI,if_pos oQ]
  exact e2
theorem lQ.all{full:Bool}{HQ:Hp}{us:List Value}{l:List Ent}{k:Nat}{us2:List Value}{l2:List Ent}(h:lQ full HQ us (l.take k) us2 l2)(hk:k=26∨k=l.length):lQ full HQ us l us2 l2:=⟨h.ul,by have:=h.n;rw [aK] at this;omega,fun i y hy=>by
 obtain⟨u,h1,h2,h3,h4⟩:=h.ent i y hy
 refine⟨u,h1,h2,h3,h4.imp id fun⟨a,b,e1,e2,e3,e4⟩=>⟨a,b,e1,?_,e3,e4⟩⟩
 rw [bI] at e2
 split at e2
 ·exact e2
 ·cases e2⟩
theorem aQp(o:lX)(us:List Value)(l:List Ent)(hl:l.length≤maxLen) :
  Tri prog 22 [.agg o.c.toArray] [] (fun w=>aG8 w o.lv us l∧(∃ b,Rd [] w 1 o.bv (cbs b))∧(∃ q,Rd [] w 1 o.pv (cbs q)))
  (fun v H=>∃ (lv':Value) (r:Nat) (us':List Value) (l':List Ent) (HO HQ:Hp),v=.agg (lX.c ⟨o.kind,lv',o.full,o.k,(r:Int),o.at',ctV 300 o.bv,o.wr,ctV 12 o.pv⟩).toArray∧r≤127∧Sl 72 2 lv' (eW us' l') HO∧lQ o.full HQ us l us' l'∧H=HO++HQ):=by
 obtain⟨kind,lv,full,kk,n,at',bv,wr,pv⟩:=o
 dsimp only [lX.c]
 refine Tri.mk func22 rfl ntmps22 rfl fun w hw=>?_
 obtain⟨hE,⟨b,hb⟩,⟨q,hq⟩⟩:=hw
 obtain⟨a,ca,rfl,hcap,hg⟩:=hE.rowQ
 obtain⟨bva,bvl,bvc,rfl,hbl,hbc,-⟩:=hb.get
 obtain⟨pva,pvl,pvc,rfl,hql,hqc,-⟩:=hq.get
 obtain⟨r,hr,hU⟩:=aQ4 n 127 dQ
 haveI n1:eC (260:Int) 260:=⟨rfl⟩
 haveI n2:eC (300:Int) 300:=⟨rfl⟩
 haveI n3:eC (12:Int) 12:=⟨rfl⟩
 have hml:l.length≤9223372036854775807:=fA hl dQ
 have ec:∀ (m:Nat) (a:Option Addr) (n c:Nat),ctV m (.slice a n c)=.slice a (min m n) c:=fun _ _ _ _=>rfl
 rw [ec,ec]
 refine W.j fun _ b_=>?_
 rename_i b1
 refine bW [1,2] [] (fun y:Value×List Value×List Ent×Hp×Hp=>[(3,y.1)]) (fun y=>y.2.2.2.1++y.2.2.2.2) (fun y=>Sl 72 2 y.1 (eW y.2.1 y.2.2.1) y.2.2.2.1∧lQ full y.2.2.2.2 us l y.2.1 y.2.2.1) ?_ ?_
 ·refine W.k ?_
  refine bF [1,2,7,8] (fun y:Nat×Value×List Value×List Ent×Hp×Hp=>[(3,y.2.1),(9,.int .i64 (y.1:Int))]) (fun y=>y.2.2.2.2.1++y.2.2.2.2.2) (fun y=>l.length-y.1) (fun y=>y.1≤l.length∧y.1≤26∧Sl 72 2 y.2.1 (eW y.2.2.1 y.2.2.2.1) y.2.2.2.2.1∧lQ full y.2.2.2.2.2 us (l.take y.1) y.2.2.1 y.2.2.2.1) (0,.slice none 0 0,[],[],[],[]) ⟨Nat.zero_le _,Nat.zero_le _,Sl.nil _ _,lQ.nil _ _ _ _⟩ ?_
  rintro⟨k,ov,us2,l2,HO,HQ⟩ ⟨hk,hk26,hO,hC⟩
  dsimp only at hk hk26 hO hC ⊢
  have oO:=hO.isOne
  have hl2:l2.length=k:=by have:=hC.n;rw [aK] at this;omega
  have hul2:us2.length=l2.length:=hC.ul
  have hecl:=gE us2 l2 hul2
  by_cases hkn:k<l.length
  ·have hx0:=aA hkn
   obtain⟨u,pb,po,plv,T,fz,huk,hru,rfl,hb2,hbk,hv⟩:=hg k _ hx0
   generalize l[k]=z at *
   have huo:=hru.isOne
   obtain⟨ua,ul,uc,rfl,hul3,huc,-⟩:=hru.get
   rw [aI,Nat.mul_one] at hul3
   by_cases h26:k<26
   ·have hsn:=fun (u':Value) (x':Ent) (H1:Hp) ho hn hc=>hC.snoc h26 hx0 (u':=u') (x':=x') (H1:=H1) ho hn hc
    by_cases h260:260<ul
    ·have hR2:=Rd.pre 260 hru
     rw [show min 260 ul=260 by omega] at hR2
     have hcv:ctV 260 (.slice ua ul uc)=.slice ua 260 uc:=by rw [ec,show min 260 ul=260 by omega]
     obtain⟨b0,o0,-,-,-,-,rfl,-⟩:=hru.lastAt oQ
     cases full with
     | true=>
      have hfu:=aJi (.slice (some ⟨b0,o0,none⟩) 260 uc) (z.2.take 260)
      refine W.k fun b_=>?_
      refine aG hfu ?_ (hpre:=fun w2 hs=>hR2.ro (Hc:=[]) hs)
      rintro v1 H1 ⟨ds,hds,h1⟩
      have h11:=h1.isOne
      have hRd:=RdH.of h1
      obtain⟨a1,n1,c1,rfl,-⟩:=h1.form
      have hbe:=aQb z.1 a1 n1 c1
      refine W.k fun b_=>?_
      refine W.ap (ys:=[.int .i64 z.1,.slice a1 n1 c1]) (mm:=1) hO (fun w2 hs=>(Sl.own 72 2 b_ (len:=1) (xs:=[.int .i64 z.1,.slice a1 n1 c1]) rfl).srcAt hs inferInstance) (fun ov2 HO2 hO2=>?_) (hys:=rfl) (hbytes:=by rw [hecl];simp;omega)
      have oO2:=hO2.isOne
      have hLs:=iD hul2 (.slice a1 n1 c1) (z.1,ds)
      dsimp only at hLs
      rw [← hLs] at hO2
      refine W.k ?_
      refine aQ.mk (k+1,ov2,us2++[.slice a1 n1 c1],l2++[(z.1,ds)],HO2,HQ++H1) ?_
      exact⟨hkn,h26,hO2,hsn _ _ _ inferInstance (by dsimp only;omega) (.inl ⟨hRd,hds⟩)⟩
     | false=>
      have hbe:=aQb z.1 (some ⟨b0,o0,none⟩) 260 uc
      refine W.k fun _ b_=>?_
      refine W.ap (ys:=[.int .i64 z.1,.slice (some ⟨b0,o0,none⟩) 260 uc]) (mm:=1) hO (fun w2 hs=>(Sl.own 72 2 b_ (len:=1) (xs:=[.int .i64 z.1,.slice (some ⟨b0,o0,none⟩) 260 uc]) rfl).srcAt hs inferInstance) (fun ov2 HO2 hO2=>?_) (hys:=rfl) (hbytes:=by rw [hecl];simp;omega)
      have oO2:=hO2.isOne
      have hLs:=iD hul2 (.slice (some ⟨b0,o0,none⟩) 260 uc) (z.1,z.2.take 260)
      dsimp only at hLs
      rw [← hLs] at hO2
      refine W.k ?_
      refine aQ.mk (k+1,ov2,us2++[.slice (some ⟨b0,o0,none⟩) 260 uc],l2++[(z.1,z.2.take 260)],HO2,HQ++[]) ?_
      exact⟨hkn,h26,hO2,hsn _ _ _ inferInstance (by dsimp only;rw [aK];omega) (.inr ⟨_,_,huk,hx0,hcv.symm,rfl⟩)⟩
    ·have htk:z.2.take 260=z.2:=aJ oQ
     have hcv:ctV 260 (.slice ua ul uc)=.slice ua ul uc:=by rw [ec,show min 260 ul=ul by omega]
     cases full with
     | true=>
      have hfu:=aJi (.slice ua ul uc) z.2
      refine W.k fun b_=>?_
      refine aG hfu ?_ (hpre:=fun w2 hs=>hru.ro (Hc:=[]) hs)
      rintro v1 H1 ⟨ds,hds,h1⟩
      have h11:=h1.isOne
      have hRd:=RdH.of h1
      obtain⟨a1,n1,c1,rfl,-⟩:=h1.form
      have hbe:=aQb z.1 a1 n1 c1
      refine W.k fun b_=>?_
      refine W.ap (ys:=[.int .i64 z.1,.slice a1 n1 c1]) (mm:=1) hO (fun w2 hs=>(Sl.own 72 2 b_ (len:=1) (xs:=[.int .i64 z.1,.slice a1 n1 c1]) rfl).srcAt hs inferInstance) (fun ov2 HO2 hO2=>?_) (hys:=rfl) (hbytes:=by rw [hecl];simp;omega)
      have oO2:=hO2.isOne
      have hLs:=iD hul2 (.slice a1 n1 c1) (z.1,ds)
      dsimp only at hLs
      rw [← hLs] at hO2
      refine W.k ?_
      refine aQ.mk (k+1,ov2,us2++[.slice a1 n1 c1],l2++[(z.1,ds)],HO2,HQ++H1) ?_
      exact⟨hkn,h26,hO2,hsn _ _ _ inferInstance (by dsimp only;omega) (.inl ⟨hRd,hds⟩)⟩
     | false=>
      have hbe:=aQb z.1 ua ul uc
      refine W.k fun _ b_=>?_
      refine W.ap (ys:=[.int .i64 z.1,.slice ua ul uc]) (mm:=1) hO (fun w2 hs=>(Sl.own 72 2 b_ (len:=1) (xs:=[.int .i64 z.1,.slice ua ul uc]) rfl).srcAt hs inferInstance) (fun ov2 HO2 hO2=>?_) (hys:=rfl) (hbytes:=by rw [hecl];simp;omega)
      have oO2:=hO2.isOne
      have hLs:=iD hul2 (.slice ua ul uc) (z.1,z.2)
      dsimp only at hLs
      rw [← hLs] at hO2
      refine W.k ?_
      refine aQ.mk (k+1,ov2,us2++[.slice ua ul uc],l2++[(z.1,z.2)],HO2,HQ++[]) ?_
      exact⟨hkn,h26,hO2,hsn _ _ _ inferInstance (by dsimp only;omega) (.inr ⟨_,_,huk,hx0,hcv.symm,by rw [htk]⟩)⟩
   ·refine W.k fun b_=>?_
    refine bZ.mk (ov,us2,l2,HO,HQ) ?_
    exact⟨hO,hC.all (.inl oQ)⟩
  ·refine W.k ?_
   refine bZ.mk (ov,us2,l2,HO,HQ) ?_
   exact⟨hO,hC.all (.inr oQ)⟩
 rintro⟨ov,us2,l2,HO,HQ⟩ ⟨hO,hC⟩
 dsimp only at hO hC ⊢
 have oO:=hO.isOne
 clear hg hE
 by_cases hB:300<bvl
 ·obtain⟨b0,o0,-,-,-,-,rfl,-⟩:=hb.lastAt oQ
  rw [show min 300 bvl=300 by omega]
  by_cases hP:12<pvl
  ·obtain⟨b2,o2,-,-,-,-,rfl,-⟩:=hq.lastAt oQ
   rw [show min 12 pvl=12 by omega]
   refine W.k ?_
   refine F.cH (HO++HQ) (lX.c ⟨kind,ov,full,kk,(r:Int),at',.slice (some ⟨b0,o0,none⟩) 300 bvc,wr,.slice (some ⟨b2,o2,none⟩) 12 pvc⟩) ?_
   exact⟨ov,r,us2,l2,HO,HQ,rfl,hr,hO,hC,rfl⟩
  ·rw [show min 12 pvl=pvl by omega]
   refine W.k ?_
   refine F.cH (HO++HQ) (lX.c ⟨kind,ov,full,kk,(r:Int),at',.slice (some ⟨b0,o0,none⟩) 300 bvc,wr,.slice pva pvl pvc⟩) ?_
   exact⟨ov,r,us2,l2,HO,HQ,rfl,hr,hO,hC,rfl⟩
 ·rw [show min 300 bvl=bvl by omega]
  by_cases hP:12<pvl
  ·obtain⟨b2,o2,-,-,-,-,rfl,-⟩:=hq.lastAt oQ
   rw [show min 12 pvl=12 by omega]
   refine W.k ?_
   refine F.cH (HO++HQ) (lX.c ⟨kind,ov,full,kk,(r:Int),at',.slice bva bvl bvc,wr,.slice (some ⟨b2,o2,none⟩) 12 pvc⟩) ?_
   exact⟨ov,r,us2,l2,HO,HQ,rfl,hr,hO,hC,rfl⟩
  ·rw [show min 12 pvl=pvl by omega]
   refine W.k ?_
   refine F.cH (HO++HQ) (lX.c ⟨kind,ov,full,kk,(r:Int),at',.slice bva bvl bvc,wr,.slice pva pvl pvc⟩) ?_
   exact⟨ov,r,us2,l2,HO,HQ,rfl,hr,hO,hC,rfl⟩
def eQ:List Value→List (List UInt8)→Hp→Prop
 | [],[],H=>H=[]
 | u::us,b::bs,H=>∃ H1 H2,H=H1++H2∧Sl 5 1 u (cbs b) H1∧eQ us bs H2
 | _,_,_=>False
theorem eQ.snoc:∀ {us:List Value} {bss:List (List UInt8)} {H:Hp} {u:Value} {b:List UInt8} {H1:Hp},eQ us bss H→Sl 5 1 u (cbs b) H1→eQ (us++[u]) (bss++[b]) (H++H1)
 | [],[],_,u,b,H1,h,h1=>by
  subst h
  exact⟨H1,[],by simp,h1,rfl⟩
 | _::us,_::bss,_,u,b,H1,⟨Ha,Hb,e,h2,h3⟩,h1=>by
  subst e
  exact⟨Ha,Hb++H1,by rw [aV],h2,h3.snoc h1⟩
theorem eQ.rb:∀ {us:List Value} {bss:List (List UInt8)} {H:Hp},eQ us bss H→RB H us bss
 | [],[],_,_=>RB.nil _
 | u::us,b::bss,_,⟨Ha,Hb,e,h2,h3⟩=>by
  subst e
  have ih:=(eQ.rb h3).mono (H':=Ha++Hb) fun y hy=>aM _ hy
  refine⟨by simp [ih.1],fun i c hi=>?_⟩
  cases i with
  | zero=>
   simp only [nZ,dF] at hi ⊢
   subst hi
   exact⟨u,rfl,(RdH.of h2).mono fun y hy=>aN _ hy⟩
  | succ i=>simpa using ih.2 i c (by simpa using hi)
theorem eQ.drop:∀ {us:List Value} {bss:List (List UInt8)} {H:Hp} {k:Nat} {u:Value},eQ (us.drop k) (bss.drop k) H→us[k]?=some u→∃ b H1 H2,H=H1++H2∧bss[k]?=some b∧Sl 5 1 u (cbs b) H1∧eQ (us.drop (k+1)) (bss.drop (k+1)) H2:=by
 intro us bss H k u h hu
 have hk:=(aE.1 hu).1
 rw [bM hk,show us[k]=u from (aE.1 hu).2] at h
 by_cases hb:k<bss.length
 ·rw [bM hb] at h
  obtain⟨H1,H2,e,h1,h2⟩:=h
  exact⟨_,H1,H2,e,aA hb,h1,h2⟩
 ·rw [show bss.drop k=[] from cZ oQ] at h
  simp [eQ] at h
theorem aQo(v:Value)(us:List Value)(l:List Ent)(hn:l.length≤1000)(h2:∀ x∈l,x.2.length≤1000000) :
  Tri prog 23 [v] [] (fun w=>aG8 w v us l)
  (fun r H=>∃ us' HE HQ,Sl 136 2 r (eW us' l) HE∧eQ us' (l.map Prod.snd) HQ∧H=HE++HQ):=by
 refine Tri.mk func23 rfl ntmps23 rfl fun w hw=>?_
 obtain⟨a,ca,rfl,hcap,hg⟩:=hw.rowQ
 refine W.j ?_
 refine bW [] [] (fun y:Value×List Value×Hp×Hp=>[(3,y.1)]) (fun y=>y.2.2.1++y.2.2.2) (fun y=>Sl 136 2 y.1 (eW y.2.1 l) y.2.2.1∧eQ y.2.1 (l.map Prod.snd) y.2.2.2) ?_ ?_
 ·refine W.k ?_
  refine bF [6,7] (fun y:Nat×Value×List Value×Hp×Hp=>[(3,y.2.1),(8,.int .i64 (y.1:Int))]) (fun y=>y.2.2.2.1++y.2.2.2.2) (fun y=>l.length-y.1) (fun y=>y.1≤l.length∧Sl 136 2 y.2.1 (eW y.2.2.1 (l.take y.1)) y.2.2.2.1∧eQ y.2.2.1 ((l.take y.1).map Prod.snd) y.2.2.2.2) (0,.slice none 0 0,[],[],[]) ⟨Nat.zero_le _,Sl.nil _ _,rfl⟩ ?_
  rintro⟨k,ov,us2,HO,HQ2⟩ ⟨hk,hO,hR2⟩
  dsimp only at hk hO hR2 ⊢
  have oO:=hO.isOne
  by_cases hkn:k<l.length
  ·have hx0:=aA hkn
   have hx3:=h2 _ (cP hkn)
   obtain⟨u,pb,po,plv,T,fz,huk,hru,rfl,hb2,hbk,hv⟩:=hg k _ hx0
   have htk:l.take (k+1)=l.take k++[l[k]]:=by rw [bA,hx0];rfl
   have htkl:(l.take k).length=k:=by rw [aK];omega
   have hul2:us2.length=(l.take k).length:=by rw [hR2.rb.1,aD]
   have hecl:=gE us2 _ hul2
   have huo:=hru.isOne
   have hLs:=fun v=>iD hul2 v l[k]
   rw [← htk] at hLs
   generalize l[k]=z at *
   refine W.k fun b_=>?_
   generalize b_=eb2
   (refine SW.l [8,9] [0,1,2,4,5] ?_;refine aX 3 ?_)
   refine aMO fun b0=>?_
   (refine bK [] ?_;refine aX 6 ?_)
   have h0:Sl 5 1 (.slice (some ⟨b0,0,none⟩) 0 0) [] [(b0,cl ([]:List Value) 5)]:=Sl.mk (xs:=[]) (junk:=[]) (len:=0) (cap:=0) rfl rfl (Nat.le_refl _)
   refine W.ap h0 (ys:=cbs z.2) (mm:=z.2.length) (fun w2 hs=>by
    obtain⟨m,h1,h2⟩:=(hru.ro (Hc:=[]) hs).src
    rw [aI,Nat.mul_one] at h2
    rw [h2];exact h1) (fun v1 H1 h1=>?_) (hys:=by rw [aI,Nat.mul_one]) (hbytes:=by rw [aI];simp;omega)
   have h11:=h1.isOne
   rw [aR] at h1
   have h1s:=h1
   obtain⟨a1,n1,c1,rfl,-⟩:=h1.form
   (refine SL.l [7] ?_;refine bV 8 ?_)
   refine iQ (fun b7=>?_) (hr:=aQb ..)
   (refine bK [] ?_;refine bV 9 ?_)
   refine W.ap (ys:=[.int .i64 z.1,.slice a1 n1 c1]) (mm:=1) hO (fun w2 hs=>(Sl.own 136 2 b7 (len:=1) (xs:=[.int .i64 z.1,.slice a1 n1 c1]) rfl).srcAt hs inferInstance) (fun ov2 HO2 hO2=>?_) (hys:=rfl) (hbytes:=by rw [hecl,htkl];simp;omega)
   have oO2:=hO2.isOne
   rw [← hLs] at hO2
   have hR3:eQ (us2++[.slice a1 n1 c1]) ((l.take (k+1)).map Prod.snd) (HQ2++H1):=by
    rw [htk,aL]
    exact hR2.snoc h1s
   (refine SL.l [10,11] ?_)
   refine W.k ?_
   refine aQ.mk (k+1,ov2,us2++[.slice a1 n1 c1],HO2,HQ2++H1) ?_
   exact⟨hkn,hO2,hR3⟩
  ·have hkl:k=l.length:=oQ
   rw [hkl,bP] at hO hR2
   subst hkl
   refine W.k ?_
   refine bZ.mk (ov,us2,HO,HQ2) ?_
   exact⟨hO,hR2⟩
 rintro⟨ov,us2,HO,HQ2⟩ ⟨hO,hR2⟩
 dsimp only at hO hR2 ⊢
 have oO:=hO.isOne
 refine W.k ?_
 refine Fin.to (HO++HQ2) ?_
 exact F.f1 ⟨us2,HO,HQ2,hO,hR2,rfl⟩
end
def aT(K:List Nat)(w:World)(v:Value)(us:List Value)(l:List Ent):Prop:=Rd K w 2 v (eW us l)∧us.length=l.length∧∀ (i:Nat) (x:Ent),l[i]?=some x→∃ u,us[i]?=some u∧Rd K w 1 u (cbs x.2)
theorem aT.r{w:World}{v:Value}{us:List Value}{l:List Ent}(h:aT [] w v us l):aG8 w v us l:=h
theorem aT.ro{K:List Nat}{w0 w:World}{H Hc r:Hp}{v:Value}{us:List Value}{l:List Ent}(h:aT K w0 v us l)(hs:St K w0 H w) [hp:fT H Hc r]:aT (Hc.map Prod.fst) w v us l:=
 ⟨h.1.ro hs,h.2.1,fun i x hx=>let ⟨u,h1,h2⟩:=h.2.2 i x hx;⟨u,h1,h2.ro hs⟩⟩
theorem aT.le{K:List Nat}{w:World}{v:Value}{us:List Value}{l:List Ent}(h:aT K w v us l):LE us l:=⟨h.2.1,fun i x hx=>by
 obtain⟨u,h1,h2⟩:=h.2.2 i x hx
 obtain⟨a,n,c,rfl,hn,-⟩:=h2.get
 rw [aI,Nat.mul_one] at hn
 subst hn
 exact⟨a,c,h1⟩⟩
theorem aT.oc{K:List Nat}{w:World}{v:Value}{us:List Value}{l:List Ent}(h:aT K w v us l):OC us:=⟨fun u hu=>by
 obtain⟨i,hi⟩:=cT.1 hu
 have hk:=(aE.1 hi).1
 obtain⟨u',h1,h2⟩:=h.2.2 i _ (aA (show i<l.length by have:=h.2.1;omega))
 rw [hi] at h1
 cases h1
 exact h2.isOne.ok⟩
theorem fT.swap{H Hc A B r:Hp}(hp:fT H (Hc++(A++B)) r):fT H (Hc++A) (B++r)∧fT H (Hc++B) (A++r):=by
 have h:=hp.perm
 refine⟨⟨by simpa [aV] using h⟩,⟨h.trans ?_⟩⟩
 rw [aV,aV,aV]
 exact List.Perm.append_left Hc (List.perm_append_comm_assoc ..)
theorem lQ.ents{K:List Nat}{w0 w:World}{full:Bool}{HO HQ H r:Hp}{us us':List Value}{l l':List Ent}{v ov:Value}(Hc:Hp)(h:lQ full HQ us l us' l')(hE:aT K w0 v us l)(hO:Sl 72 2 ov (eW us' l') HO)(hs:St K w0 H w) [hp:fT H (Hc++(HO++HQ)) r]:aT (Hc.map Prod.fst) w ov us' l':=by
 obtain⟨h1,h2⟩:=hp.swap
 have h3:fT H Hc ((HO++HQ)++r):=⟨by have:=hp.perm;rwa [aV] at this⟩
 refine⟨Rd.own hO hs h1,h.ul,fun i x' hx'=>?_⟩
 obtain⟨u',hu',-,-,hc⟩:=h.ent i x' hx'
 refine⟨u',hu',?_⟩
 rcases hc with ⟨hc,-⟩|⟨u,x,e1,e2,rfl,rfl⟩
 ·exact hc.rd (hp:=h2) hs
 ·obtain⟨u2,e3,e4⟩:=hE.2.2 i x e2
  rw [e1] at e3
  cases e3
  exact (aQz e4 260).ro (hp:=h3) hs
section
attribute [local irreducible] SW SL SQ SH SA SS Pu Fin bZ aQ
theorem RB.cons{H:Hp}{u:Value}{us:List Value}{b:List UInt8}{bss:List (List UInt8)}(hu:RdH H u b)(h:RB H us bss):RB H (u::us) (b::bss):=⟨by simp [h.1],fun i c hi=>by
 cases i with
 | zero=>
  simp only [nZ,dF] at hi ⊢
  subst hi
  exact⟨u,rfl,hu⟩
 | succ i=>simpa using h.2 i c (by simpa using hi)⟩
theorem aQE(l:List (List UInt8))(a b:List (Int×List UInt8)):pP l (a++b)=pP (pP l a) b:=by unfold pP;rw [gX]
abbrev aQr(d tr:Nat)(r:Rg)(HT Hd HR:Hp):Hp:=(tr,cl (rtc d r) 120)::(HT++(Hd++HR))
abbrev bT(d tr sp s p t:Nat)(r:Rg)(ev lv:Value)(w:Bool)(st:Int)(He Hl Hd HR:Hp):Hp:=(tr,cl (rtc d r) 120)::(((sp,cl (lP d tr s p t ev lv w st) 160)::(He++Hl))++(Hd++HR))
structure DoS where
 k:Nat
 lv:Value
 us:List Value
 HO:Hp
 HQ:Hp
 HR:Hp
theorem aQJ{sp d tr s p t rc n N:Nat}{ws:List (List UInt8)}(h:Gm.Ok p t){σ:Dv}{x:So}(hx:x.Ok p){r:Rg}(hr:r.Ok){Hd HT HR:Hp}(hD:lS d σ Hd)(h8:σ.ws.length%8=0)(hS:aLj sp d tr s p t x HT)(hSe:rV s rc n ws N HR)(hKo:qB n ws)(hN:N≤100000000){lv:Value}{us:List Value}{l:List Ent}(hm:gV p t l=true){c:UInt64}{X:UInt64→Nat→List UInt8→List UInt8}(hXX:dT (Rg.enc ws n)=X) :
  Tri prog 138 [ptv sp,lv,eX c] (aQr d tr r HT Hd HR) (fun w=>aT ((aQr d tr r HT Hd HR).map Prod.fst) w lv us l)
  (fun v H=>∃ Hd' HT' HR',v=.int .i64 (rZ p c (fL X c l) (σ,r,x)).1∧lS d (rZ p c (fL X c l) (σ,r,x)).2.1 Hd'∧aLj sp d tr s p t { (rZ p c (fL X c l) (σ,r,x)).2.2.2 with st:=x.st } HT'∧rV s rc n ws (N+l.length) HR' ∧
   H=(tr,cl (rtc d (rZ p c (fL X c l) (σ,r,x)).2.2.1) 120)::(HT'++(Hd'++HR'))):=by
 obtain⟨ev,lfv,He,Hl,rfl,hE,hLf⟩:=hS
 have hX1:∀ e k b,(X e k b).length=b.length:=fun e k b=>by rw [← hXX];exact oS (fun y=>Rg.enc_len ..) ..
 have hll:=Gm.leaves_le h
 have hsl:=Gm.sealed_le h
 have hel:=Gm.epochs_le h
 have hLq:Gm.leaves p=1+Gm.epochs p+Gm.sealed p:=rfl
 have ht:=h.2.2.2
 obtain⟨hesl,hmall⟩:=aAw hm
 have hmL:oM p (-1) l=true:=by unfold gV at hm;rw [bX] at hm;exact hm.2
 have hm2:gV p t (fL X c l)=true:=by rw [aCU hX1];exact hm
 have htlt:=vQ hm
 have htle:=tG l
 have hxl:=hx.es
 have hxv:=hx.lv
 have hx0:0<Gm.sealed p:=by
  obtain⟨h1,h2,-⟩:=hmall 0 _ (aA oQ)
  omega
 have oe:=hE.isOne
 have ol:=hLf.isOne
 obtain⟨ea,en,ec,rfl,hen⟩:=hE.form
 rw [iE,Nat.mul_one] at hen
 obtain⟨fa,fn,fc,rfl,hfn⟩:=hLf.form
 rw [aI,eN hx.d] at hfn
 obtain rfl:en=x.es.length:=hen.symm
 obtain rfl:fn=x.lv.length:=by omega
 refine Tri.mk func138 rfl ntmps138 rfl fun w hw=>?_
 obtain⟨hw1,hul,hws⟩:=hw
 have hwo:OC us:=aT.oc (v:=lv) ⟨hw1,hul,hws⟩
 have hw2:=hw1
 unfold eW at hw2
 obtain⟨a,ca,rfl,hcap,hg⟩:=hw2.rows dQ (nM us l)
 have hzl:(List.zipWith (fun u (x:Ent)=>[Value.int .i64 x.1,u]) us l).length=l.length:=by rw [gF,hul,jB]
 rw [hzl] at hcap
 rw [hzl] at hw1
 rw [hzl]
 have hb22:bS (fun i=>[(0,1),(1,1)][i]?) ([.int .u64 0]++[.slice none 0 0]) [(0,eX c)]=some [eX c,.slice none 0 0]:=rfl
 refine W.k fun _ b_=>?_
 rename_i b7
 refine W.ap (Sl.own 33 1 b_ (len:=0) (xs:=[]) rfl) (ys:=uv x.es) (mm:=x.es.length) (fun w2 hs=>hE.srcAt hs inferInstance) (fun v8 H8 h8'=>?_) (hys:=by rw [iE,Nat.mul_one]) (hbytes:=by rw [iE];simp;omega)
 rw [aR] at h8'
 rcases h8' with ⟨-,hz,-⟩|⟨be,elen,ecap,ej,rfl,hexl,hej,hec,rfl⟩
 ·have h9:=iE x.es
  rw [hz,List.length_nil] at h9
  omega
 rw [iE,Nat.mul_one] at hexl
 obtain rfl:elen=x.es.length:=hexl.symm
 refine W.k fun b_=>?_
 refine W.ap (Sl.own 54 32 b_ (len:=0) (xs:=[]) rfl) (ys:=cbs x.lv.flatten) (mm:=x.lv.length) (fun w2 hs=>hLf.srcAt hs inferInstance) (fun v9 H9 h9'=>?_) (hys:=by rw [aI,eN hx.d]) (hbytes:=by rw [aI,eN hx.d];simp;omega)
 rw [aR] at h9'
 obtain⟨lb,lc,lj,rfl,hlc,rfl,hLn⟩:=h9'.rowD hx.d oQ
 clear h9'
 have hES:∀ es:List UInt64,es.length=x.es.length→Sl 33 1 (.slice (some ⟨be,0,none⟩) x.es.length ecap) (uv es) [(be,cl (uv es++ej) 33)]:=fun es he=>.inr ⟨be,x.es.length,ecap,ej,rfl,by rw [iE,he,Nat.mul_one],hej,hec,rfl⟩
 clear hej hec
 have hLb0:Sl 72 2 (.slice none 0 0) (eW [] []) []:=Sl.nil _ _
 refine W.j ?_
 refine bW [0,1,2,7,8,9] ((b7,cl [eX c,.slice none 0 0] 75)::(be,cl (uv x.es++ej) 33)::(lb,cl (cbs x.lv.flatten++lj) 54)::HR) (fun _:DoS=>[]) (fun y=>(b7,cl [eX c,y.lv] 75)::(be,cl (uv (eE c x.es l)++ej) 33)::(lb,cl (cbs (pP x.lv (qF p (fL X c l))).flatten++lj) 54)::(y.HO++(y.HQ++y.HR)))
  (fun y=>Sl 72 2 y.lv (eW y.us (fL X c l)) y.HO∧RB y.HQ y.us ((fL X c l).map Prod.snd)∧rV s rc n ws (N+l.length) y.HR) ?_ ?_
 ·rw [show uv x.es=uv (eE c x.es (l.take 0)) from rfl,show cbs x.lv.flatten=cbs (pP x.lv (qF p (fL X c (l.take 0)))).flatten from rfl]
  refine W.k ?_
  refine bF [0,1,2,7,8,9,35,36] (fun y:DoS=>[(37,.int .i64 (y.k:Int))]) (fun y=>(b7,cl [eX c,y.lv] 75)::(be,cl (uv (eE c x.es (l.take y.k))++ej) 33)::(lb,cl (cbs (pP x.lv (qF p (fL X c (l.take y.k)))).flatten++lj) 54)::(y.HO++(y.HQ++y.HR))) (fun y=>l.length-y.k)
   (fun y=>y.k≤l.length∧Sl 72 2 y.lv (eW y.us (fL X c (l.take y.k))) y.HO∧RB y.HQ y.us ((fL X c (l.take y.k)).map Prod.snd)∧rV s rc n ws (N+y.k) y.HR) ⟨0,.slice none 0 0,[],[],[],HR⟩ ⟨Nat.zero_le _,hLb0,RB.nil _,hSe⟩ ?_
  rintro⟨k,ov,us2,HO,HQ2,HR2⟩ ⟨hk,hO,hR2,hS2⟩
  dsimp only at hk hO hR2 hS2 ⊢
  have oO:=hO.isOne
  by_cases hkn:k<l.length
  ·have hx0:=aA hkn
   obtain⟨u,huk,hru⟩:=hws k _ hx0
   obtain⟨pb,po,plv,T,fz,rfl,hb,hbk,hv⟩:=hg k [.int .i64 l[k].1,u] (by rw [eZ,huk,hx0])
   obtain⟨hx1,hx2,hx3⟩:=hmall k _ hx0
   have htk:l.take (k+1)=l.take k++[l[k]]:=by rw [bA,hx0];rfl
   have htkl:(fL X c (l.take k)).length=k:=by rw [rO,aK];omega
   have hul2:us2.length=(fL X c (l.take k)).length:=by rw [hR2.1,aD]
   have hecl:=gE us2 _ hul2
   have huo:=hru.isOne
   have hsn:=aGW X c (l.take k) l[k]
   have hen2:=zP c x.es (l.take k) l[k]
   rw [← htk] at hsn hen2
   have hcn:=aIk p (fL X c (l.take k)) (l[k].1,X c l[k].1.toNat l[k].2)
   rw [← hsn] at hcn
   have hEl:=oH c (l.take k) x.es
   have hV32:=aEv hx.d (qF p (fL X c (l.take k))) (aD4 _ _)
   have hVl:=aCW x.lv (qF p (fL X c (l.take k)))
   have hvn:pP x.lv (qF p (fL X c (l.take (k+1))))=(pP x.lv (qF p (fL X c (l.take k)))).set (Ks p l[k].1.toNat) (Sha.sum (fC (Ks p l[k].1.toNat) (X c l[k].1.toNat l[k].2))):=by
    rw [hcn,aKT]
    rfl
   have hLs:=fun v=>iD hul2 v (l[k].1,X c l[k].1.toNat l[k].2)
   rw [← hsn] at hLs
   have hRs:∀ {H:Hp} {v:Value},RB H us2 ((fL X c (l.take k)).map Prod.snd)→RdH H v (X c l[k].1.toNat l[k].2)→RB H (us2++[v]) ((fL X c (l.take (k+1))).map Prod.snd):=fun h1 h2=>by
    rw [hsn,aL]
    exact h1.snoc h2
   have hXl:=hX1 c l[k].1.toNat l[k].2
   generalize pP x.lv (qF p (fL X c (l.take k)))=V at *
   generalize eE c x.es (l.take k)=E at *
   generalize fL X c (l.take k)=L0 at *
   generalize l[k]=z at *
   obtain⟨z1,z2⟩:=z
   dsimp only at hx1 hx2 hx3 hv hen2 hvn hLs hRs hXl hru
   obtain⟨K,rfl⟩:∃ K:Nat,z1=(K:Int):=⟨z1.toNat,by omega⟩
   rw [aU] at hen2 hvn hXl
   simp only [aU] at hRs
   have hsea:=aMo hS2 hKo oQ c K oQ u z2 oQ
   rw [hXX] at hsea
   have hsa:=aQC h (show (K:Int)<_ by omega)
   have hKs:Ks p K=1+Gm.epochs p+K:=rfl
   have hlf:=fun v=>aMt (Ks p K) v (X c K z2) (by rw [hXl,hx3];decide)
   have hs32:(Sha.sum (fC (Ks p K) (X c K z2))).length=32:=Sha.sum_len _
   have hcs:=oI hs32
   have hset2:=aG0 E K c
   rw [← hen2] at hset2
   have hset3:=yF (vs:=uv E) (junk:=ej) (i:=K) (by rw [iE,hEl];omega) (eX c)
   rw [hset2] at hset3
   have hlt2:K<(uv E++ej).length:=by rw [aB,iE,hEl];omega
   have hset4:=aE3 (junk:=lj) (x:=Sha.sum (fC (Ks p K) (X c K z2))) hV32 (i:=Ks p K) oQ
   rw [← hvn] at hset4
   have hfit:Ks p K*32+32≤(cbs V.flatten++lj).length:=by rw [aB,aI,eN hV32];omega
   generalize hSS:Sha.sum (fC (Ks p K) (X c K z2))=S1 at *
   generalize hXK:X c K z2=B at *
   clear hvn hen2 hsn hcn hSS hXK htk
   generalize hV2e:pP x.lv (qF p (fL X c (l.take (k+1))))=V2 at *
   generalize hE2e:eE c x.es (l.take (k+1))=E2 at *
   refine W.k fun b_=>?_
   generalize b_=b11
   (refine SW.l [10] [0,1,2,3,4,5,6,7,8,9] ?_;refine bV 10 ?_)
   refine aG hsea ?_ (hpre:=fun w2 hs=>hru.ro (Hc:=HR2) hs)
   rintro v1 _ ⟨Hr1,HR3,hr1,rfl,hS3⟩
   have hr11:=hr1.isOne
   have hRd:=RdH.of hr1
   have hr0:=hr1
   obtain⟨a1,n1,c1,rfl,-⟩:=hr1.form
   have hbe:=aA7 (K:Int) a1 n1 c1
   (refine SL.l [11,12] ?_)
   refine W.k fun b_=>?_
   refine W.ap (ys:=[.int .i64 (K:Int),.slice a1 n1 c1]) (mm:=1) hO (fun w2 hs=>(Sl.own 72 2 b_ (len:=1) (xs:=[.int .i64 (K:Int),.slice a1 n1 c1]) rfl).srcAt hs inferInstance) (fun ov2 HO2 hO2=>?_) (hys:=rfl) (hbytes:=by rw [hecl,htkl];simp;omega)
   have oO2:=hO2.isOne
   rw [← hLs] at hO2
   refine W.k ?_
   rw [hset3,show [eX c,ov].set 1 ov2=[eX c,ov2] from rfl]
   (refine SW.l [7] [0,1,2,3,4,5,6] ?_;refine bV 7 ?_)
   refine W.cq hsa ?_
   (refine SL.l [8,9] ?_)
   refine W.k ?_
   refine W.cw (hlf _) ?_ (hpre:=fun w2 hs=>Rd.own (Hc:=[]) hr0 hs inferInstance)
   rw [hset4]
   subst hV2e hE2e
   refine aQ.mk ⟨k+1,ov2,us2++[.slice a1 n1 c1],HO2,HQ2++Hr1,HR3⟩ ?_
   exact⟨hkn,hO2,hRs (hR2.mono fun y hy=>aN _ hy) (hRd.mono fun y hy=>aM _ hy),hS3⟩
  ·have hkl:k=l.length:=oQ
   rw [hkl,bP] at hO hR2 ⊢
   rw [hkl] at hS2
   subst hkl
   refine W.k ?_
   refine bZ.mk ⟨0,ov,us2,HO,HQ2,HR2⟩ ?_
   exact⟨hO,hR2,hS2⟩
 rintro⟨k9,Lv,us2,HO,HQ2,HR2⟩ ⟨hO,hR2,hS2⟩
 dsimp only at hO hR2 hS2 ⊢
 have oO:=hO.isOne
 obtain⟨La,Ll,Lc,rfl,-⟩:=hO.form
 have htb:=aF1 X c l
 have hre:=aIR X c c l x.es
 have hsl2:=rO X c l
 have hchg:=aHl h (eE c x.es l) hm2
 have hVN:=aEv hx.d (tK p (eE c x.es l) (fL X c l)) hchg.1
 have hV1:=aEv hx.d (qF p (fL X c l)) (aD4 _ _)
 have hV1l:=aCW x.lv (qF p (fL X c l))
 have hVtwo:pP x.lv (tK p (eE c x.es l) (fL X c l))=pP (pP x.lv (qF p (fL X c l))) (tV (eE c x.es l) (dW l)):=by
  unfold tK
  rw [aQE,htb]
 have hVNl:=aCW x.lv (tK p (eE c x.es l) (fL X c l))
 have hEl:=oH c l x.es
 clear hchg
 generalize hLL:fL X c l=L2 at *
 generalize hEE:eE c x.es l=E2 at *
 generalize hVV:pP x.lv (tK p E2 L2)=lvN at *
 generalize pP x.lv (qF p L2)=V1 at *
 have hmt:=fun v=>aIP (p:=p) v us l hul hwo hmL oQ oQ
 refine W.k ?_
 refine aG (hmt _) ?_ (hpre:=fun w2 hs=>hw1.ro (Hc:=[]) hs)
 rintro _ Hq hT
 have hT1:=hT.isOne
 obtain⟨ta,tl,tc2,rfl,htl⟩:=hT.form
 rw [Nat.mul_one,aD] at htl
 subst htl
 refine W.j ?_
 refine bW [0,1,2,7,8,9] [(lb,cl (cbs V1.flatten++lj) 54)] (fun _:Unit=>[]) (fun _=>[(lb,cl (cbs lvN.flatten++lj) 54)]) (fun _=>True) ?_ ?_
 ·rw [show cbs V1.flatten=cbs (pP V1 (tV E2 ((dW l).take 0))).flatten from rfl]
  refine W.k ?_
  refine bF [0,1,2,7,8,9,82,83] (fun y:Nat=>[(84,.int .i64 (y:Int))]) (fun y=>[(lb,cl (cbs (pP V1 (tV E2 ((dW l).take y))).flatten++lj) 54)]) (fun y=>(dW l).length-y) (fun y=>y≤(dW l).length) 0 (Nat.zero_le _) ?_
  rintro k hk
  have hVk:=aEv hV1 (tV E2 ((dW l).take k)) (aHk _ _)
  have hVkl:=aCW V1 (tV E2 ((dW l).take k))
  by_cases hkn:k<(dW l).length
  ·rcases hT with ⟨hz,hz2,-⟩|⟨qb,qlen,qcap,qjunk,hz,hqxl,hqj,hqc,rfl⟩
   ·simp only [Value.slice.injEq] at hz;omega
   simp only [Value.slice.injEq] at hz
   obtain⟨rfl,rfl,rfl⟩:=hz
   have hx0:=aA hkn
   have hlu:(nv (dW l)++qjunk)[k]?=some (.int .i64 (((dW l)[k]:Nat):Int)):=by
    rw [aO (by rw [aD];exact hkn),aH,hx0];rfl
   have hlt:=htlt _ (cP hkn)
   have htk:(dW l).take (k+1)=(dW l).take k++[(dW l)[k]]:=by rw [bA,hx0];rfl
   have hbn:=aIl E2 ((dW l).take k) (dW l)[k]
   rw [← htk] at hbn
   have hvn:pP V1 (tV E2 ((dW l).take (k+1)))=(pP V1 (tV E2 ((dW l).take k))).set (1+(dW l)[k]) (Sha.sum (fC (1+(dW l)[k]) (epB (dW l)[k] E2))):=by
    rw [hbn,aKT]
    rfl
   clear hbn htk
   generalize hV3e:pP V1 (tV E2 ((dW l).take (k+1)))=V3 at *
   generalize pP V1 (tV E2 ((dW l).take k))=V at *
   generalize (dW l)[k]=q at *
   have hsb:=aFF q oQ (.slice (some ⟨be,0,none⟩) x.es.length ecap) E2
   have hea:=aQB h hlt
   have hlf:=fun v=>aMt (1+q) v (epB q E2) (by rw [oU];decide)
   have hs32:(Sha.sum (fC (1+q) (epB q E2))).length=32:=Sha.sum_len _
   have hcs:=oI hs32
   have hset4:=aE3 (junk:=lj) (x:=Sha.sum (fC (1+q) (epB q E2))) hVk (i:=1+q) oQ
   rw [← hvn] at hset4
   have hfit:(1+q)*32+32≤(cbs V.flatten++lj).length:=by rw [aB,aI,eN hVk];omega
   clear hvn
   generalize Sha.sum (fC (1+q) (epB q E2))=S1 at *
   generalize epB q E2=B at *
   refine W.k ?_
   refine W.cw hea ?_
   refine aG hsb ?_ (hpre:=fun w2 hs=>Rd.own (Hc:=[]) (hES E2 hEl) hs inferInstance)
   rintro v5 H5 h5
   have h51:=h5.isOne
   refine W.k ?_
   refine W.cw (hlf v5) ?_ (hpre:=fun w2 hs=>Rd.own (Hc:=[]) h5 hs inferInstance)
   rw [hset4]
   subst hV3e
   refine aQ.mk (k+1) ?_
   exact hkn
  ·have hkl:k=(dW l).length:=oQ
   rw [hkl,bP,← hVtwo]
   refine W.k ?_
   refine bZ.mk () ?_
   exact trivial
 rintro⟨⟩ -
 have hLvN:=hLn lvN hVN hVNl
 have henc:=fun v=>aMs c v us2 L2 hR2 oQ
 refine W.k ?_
 refine aG (henc _) ?_ (hpre:=fun w2 hs=>Rd.own (Hc:=[]) hO hs inferInstance)
 rintro v5 _ ⟨u0,Hv,Hn,hSv,hRn,rfl⟩
 have hbl:(uD c L2).length=1+L2.length:=by unfold uD;rw [aW,aD];omega
 have hb256:∀ b∈uD c L2,b.length=256:=fun b hb=>by
  unfold uD at hb
  rcases cI.1 hb with rfl|hb
  ·exact uB _ _
  ·obtain⟨y,hy,rfl⟩:=bJ.1 hb
   obtain⟨i,hi⟩:=cT.1 hy
   exact uF hm2 i y hi
 have hRB:RB (HQ2++Hn) (u0::us2) (uD c L2):=RB.cons (hRn.mono fun y hy=>aM _ hy) (hR2.mono fun y hy=>aN _ hy)
 have hvl:=hRB.1
 have hSv1:=hSv.isOne
 rcases hSv with ⟨-,hz,-⟩|⟨bb,len,cap,junk,rfl,hxl5,hj5,hlc5,rfl⟩
 ·simp at hz
 obtain rfl:len=(uD c L2).length:=by omega
 have hlog:vL p c L2=(putL (fM (Gm.leaves p) (uD c L2))).and feS:=rfl
 generalize u0::us2=vs5 at *
 have hLq3:L2.length≤t:=oQ
 generalize hbs:uD c L2=bss at *
 refine W.j ?_
 refine bW [0,1,2,7,8,9] Hd (fun _:Dv×Hp=>[]) (fun x=>x.2) (fun x=>lS d x.1 x.2∧putL (fM (Gm.leaves p) bss) σ=(0,x.1)) ?_ ?_
 ·refine W.k ?_
  refine bF [0,1,2,7,8,9,105,106] (fun x:Nat×Dv×Hp=>[(107,.int .i64 (x.1:Int))]) (fun x=>x.2.2) (fun x=>bss.length-x.1) (fun x=>x.1≤bss.length∧lS d x.2.1 x.2.2∧putL ((fM (Gm.leaves p) bss).take x.1) σ=(0,x.2.1)) (0,σ,Hd) ⟨Nat.zero_le _,hD,by rw [cU];rfl⟩ ?_
  rintro⟨k,σ2,Hd⟩ ⟨hk,hD,hp⟩
  dsimp only at hk hD hp ⊢
  by_cases hkn:k<bss.length
  ·have hbk:=aA hkn
   have hbl:=hb256 _ (cP hkn)
   have hrow:(fM (Gm.leaves p) bss)[k]?=some (Gm.leaves p+k,bss[k]):=by unfold fM;rw [dB,hbk];rfl
   obtain⟨hs1,hs2⟩:=aBo hp hrow
   dsimp only at hs1 hs2
   have hwl:σ2.ws.length=σ.ws.length:=by have:=kL ((fM (Gm.leaves p) bss).take k) σ;rw [hp] at this;exact this
   have hla:=aGL h (K:=4) (n:=1+t) (base:=Gm.leaves p) (.inr (.inr ⟨rfl,rfl,rfl⟩)) (k:Int)
   rw [show Gm.atK (1+t) (Gm.leaves p) (k:Int)=((Gm.leaves p+k:Nat):Int) by unfold Gm.atK;rw [if_pos oQ];omega] at hla
   obtain⟨u,hu1,hu2⟩:=hRB.2 k _ hbk
   have hv:(vs5++junk)[k]?=some u:=by rw [aO oQ];exact hu1
   have huo:=hu2.one
   have hpt:=aEr (tr:=tr) (s:=s) (p:=p) (t:=t) hD (by rw [hwl];exact h8) (Gm.leaves p+k) oQ u bss[k] oQ
   generalize bss[k]=b at *
   refine W.k ?_
   (refine SW.l [12] [0,1,2,3,4,5,6,7,8,9,11] ?_;refine aX 10 ?_)
   refine W.cq hla ?_
   (refine bK [] ?_;refine bV 12 ?_)
   refine aG hpt ?_ (hpre:=fun w2 hs=>hu2.rd (Hc:=Hd) hs)
   rintro _ Hd2 ⟨rfl,hD2⟩
   (refine SL.l [13,14] ?_)
   by_cases h0:(eY (Gm.leaves p+k) b σ2).1=0
   ·rw [if_pos h0] at hs1
    refine W.k ?_
    refine aQ.mk (k+1,(eY (Gm.leaves p+k) b σ2).2,Hd2) ?_
    exact⟨hkn,hD2,hs1⟩
   ·have he:=hs2 h0
    have hwd:vL p c L2 σ=eY (Gm.leaves p+k) b σ2:=by
     rw [hlog]
     unfold DS.and
     rw [he,if_neg h0]
    have hdo:rZ p c L2 (σ,r,x)=((eY (Gm.leaves p+k) b σ2).1,(eY (Gm.leaves p+k) b σ2).2,r,{ x with st:=8 }):=aNJ (by rw [hwd]) h0
    rw [hdo]
    refine W.k ?_
    refine Fin.to (bT d tr sp s p t r (.slice ea x.es.length ec) (.slice fa x.lv.length fc) x.w x.st He Hl Hd2 HR2) ?_
    exact F.f1 ⟨Hd2,_,HR2,rfl,hD2,⟨_,_,He,Hl,rfl,hE,hLf⟩,hS2,rfl⟩
  ·have hkn:k=bss.length:=oQ
   rw [aFD (by unfold fM;rw [nO];omega)] at hp
   subst hkn
   refine W.k ?_
   refine bZ.mk (σ2,Hd) ?_
   exact⟨hD,hp⟩
 rintro⟨σ2,Hd⟩ ⟨hD,hp⟩
 dsimp only at hD hp ⊢
 have hwl2:σ2.ws.length=σ.ws.length:=by have:=kL (fM (Gm.leaves p) bss) σ;rw [hp] at this;exact this
 have hwd:vL p c L2 σ=feS σ2:=by rw [hlog];exact DS.and_eq hp
 have hfe:=aAG hD
 have hg1:(⟨(c.toNat:Int),iU lvN⟩:Rg).Ok:=⟨Sha.sum_len _,by show 0≤(c.toNat:Int);omega,by show (c.toNat:Int)≤_;have:=c.toNat_lt;omega⟩
 have hbd:=aDZ (c.toNat:Int) (x:=iU lvN) (Sha.sum_len _)
 have hrt:=aHV lvN hVN (.slice (some ⟨lb,0,none⟩) x.lv.length lc) oQ
 have hre2:eE c x.es L2=E2:=hre
 by_cases hz0:σ2.actR 0 0=0
 rotate_left
 ·have hdo:rZ p c L2 (σ,r,x)=(σ2.actR 0 0,σ2.fence,r,{ x with st:=8 }):=aNJ hwd hz0
  rw [hdo]
  refine W.k ?_
  refine aG hfe ?_
  rintro _ Hd2 ⟨rfl,hD2⟩
  refine W.k ?_
  refine Fin.to (bT d tr sp s p t r (.slice ea x.es.length ec) (.slice fa x.lv.length fc) x.w x.st He Hl Hd2 HR2) ?_
  exact F.f1 ⟨Hd2,_,HR2,rfl,hD2,⟨_,_,He,Hl,rfl,hE,hLf⟩,hS2,rfl⟩
 rw [hz0] at hfe
 have hfl:vL p c L2 σ=(0,σ2.fence):=by rw [hwd];show (σ2.actR 0 0,σ2.fence)=_;rw [hz0]
 have hfwl:=wR σ2
 refine W.k ?_
 refine aG hfe ?_
 rintro _ Hd2 ⟨rfl,hD2⟩
 generalize σ2.fence=σ3 at *
 have hst:=aKI tr d r ⟨(c.toNat:Int),iU lvN⟩ hr hg1 hD2
 obtain⟨e3,σ4,r4,hg2⟩:∃ e σ4 r4,mT ⟨(c.toNat:Int),iU lvN⟩ (σ3,r)=(e,σ4,r4):=⟨_,_,_,rfl⟩
 have q1:sS σ3 r ⟨(c.toNat:Int),iU lvN⟩=e3:=congrArg (fun y=>y.1) hg2
 have q2:sQ σ3 r ⟨(c.toNat:Int),iU lvN⟩=σ4:=congrArg (fun y=>y.2.1) hg2
 have q3:qX σ3 r ⟨(c.toNat:Int),iU lvN⟩=r4:=congrArg (fun y=>y.2.2) hg2
 rw [q1,q2,q3] at hst
 have hw4:=aHQ ⟨(c.toNat:Int),iU lvN⟩ (σ3,r)
 rw [hg2] at hw4
 dsimp only at hw4
 refine W.k ?_
 (refine SW.l [9] [0,1,2,3,4,5,6] ?_;refine aX 7 ?_)
 refine W.cq hrt ?_ (hpre:=fun w2 hs=>Rd.own (Hc:=[]) hLvN hs inferInstance)
 (refine SL.l [8] ?_;refine bV 9 ?_)
 refine aG hst ?_
 rintro _ _ ⟨rfl,Hd3,rfl,hD3⟩
 (refine SL.l [10,11] ?_)
 by_cases hz1:e3=0
 rotate_left
 ·have hdo:rZ p c L2 (σ,r,x)=(e3,σ4,r4,{ x with st:=8 }):=aNK hre2 hVV hfl hg2 hz1
  rw [hdo]
  refine W.k ?_
  refine Fin.to (bT d tr sp s p t r4 (.slice ea x.es.length ec) (.slice fa x.lv.length fc) x.w x.st He Hl Hd3 HR2) ?_
  exact F.f1 ⟨Hd3,_,HR2,rfl,hD3,⟨_,_,He,Hl,rfl,hE,hLf⟩,hS2,rfl⟩
 subst hz1
 have hE2:=hES E2 hEl
 have hlay:=aQW (tr:=tr) (sp:=s) (c:=c) h hD3 (by rw [hw4,hfwl,hwl2];exact h8) hm2 hO hR2 hE2
 obtain⟨e5,σ5,hg3⟩:∃ e σ5,aBf p E2 L2 σ4=(e,σ5):=⟨_,_,rfl⟩
 have hw5:=aLX p E2 L2 σ4
 rw [hg3] at hlay hw5
 dsimp only at hlay hw5
 refine W.k ?_
 rw [show ((lP d tr s p t (.slice ea x.es.length ec) (.slice fa x.lv.length fc) x.w x.st).set 5 (.slice (some ⟨be,0,none⟩) x.es.length ecap)).set 6 (.slice (some ⟨lb,0,none⟩) x.lv.length lc)=lP d tr s p t (.slice (some ⟨be,0,none⟩) x.es.length ecap) (.slice (some ⟨lb,0,none⟩) x.lv.length lc) x.w x.st from rfl]
 (refine SW.l [6] [0,1,2,3,4,5] ?_;refine bV 6 ?_)
 refine aG hlay ?_
 rintro _ _ ⟨rfl,Hd4,hD4,rfl⟩
 (refine SL.l [7,8] ?_)
 by_cases hz2:e5=0
 rotate_left
 ·have hdo:rZ p c L2 (σ,r,x)=(e5,σ5,r4,⟨E2,lvN,x.w,8⟩):=aNL hre2 hVV hfl hg2 hg3 hz2
  rw [hdo]
  refine W.k ?_
  refine Fin.to (bT d tr sp s p t r4 (.slice (some ⟨be,0,none⟩) x.es.length ecap) (.slice (some ⟨lb,0,none⟩) x.lv.length lc) x.w x.st [(be,cl (uv E2++ej) 33)] [(lb,cl (cbs lvN.flatten++lj) 54)] Hd4 HR2) ?_
  exact F.f1 ⟨Hd4,_,HR2,rfl,hD4,⟨_,_,_,_,rfl,hE2,hLvN⟩,hS2,rfl⟩
 subst hz2
 have hsc:=aCP (tr:=tr) (s:=s) h hD4 (by rw [hw5,hw4,hfwl,hwl2];exact h8) (1+l.length) oQ
 rw [show ((1+l.length:Nat):Int)=1+(l.length:Int) by omega] at hsc
 obtain⟨e6,σ6,hg4⟩:∃ e σ6,gH (Gm.leaves p) (1+l.length) σ5=(e,σ6):=⟨_,_,rfl⟩
 rw [hg4] at hsc
 dsimp only at hsc
 rw [← hsl2] at hg4
 have hdo:rZ p c L2 (σ,r,x)=(e6,σ6,r4,⟨E2,lvN,x.w,if e6=0 then x.st else 8⟩):=aNM hre2 hVV hfl hg2 hg3 hg4
 rw [hdo]
 refine W.k ?_
 refine aG hsc ?_
 rintro _ Hd5 ⟨rfl,hD5⟩
 refine W.k ?_
 refine Fin.to (bT d tr sp s p t r4 (.slice (some ⟨be,0,none⟩) x.es.length ecap) (.slice (some ⟨lb,0,none⟩) x.lv.length lc) x.w x.st [(be,cl (uv E2++ej) 33)] [(lb,cl (cbs lvN.flatten++lj) 54)] Hd5 HR2) ?_
 exact F.f1 ⟨Hd5,_,HR2,rfl,hD5,⟨_,_,_,_,rfl,hE2,hLvN⟩,hS2,rfl⟩
end
end Go.Proofs.YtnhnpjokpelkbaaGreat
