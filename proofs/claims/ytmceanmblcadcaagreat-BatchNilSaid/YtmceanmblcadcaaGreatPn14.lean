/- Bytes: padded, mixed, read as numbers, in rows. -/
import Derived.Test.YtmceanmblcadcaaGreatPn8
import Derived.Test.YtmceanmblcadcaaGreatPn3
import Derived.Test.YtmceanmblcadcaaGreatPn11
import Derived.Test.YtmceanmblcadcaaGreatPn13
import Derived.Test.YtmceanmblcadcaaGreatPn9
import Derived.Test.YtmceanmblcadcaaGreatPn6
set_option linter.unusedVariables false
set_option linter.unusedSimpArgs false
set_option linter.unusedSectionVars false
set_option maxHeartbeats 8000000
namespace Go.Proofs.YtmceanmblcadcaaGreat
open Go Go.Proofs.Tryz
section
section
variable {P:Program}{C:Ctx}{Q:Exit→Fr→Hp→Prop}{ρ:Fr}{H H':Hp}{L rest:List Oper}{d:Option Tmp}{ty:TypeId}{pos:String}{af:Array Edge}{g:Option (Nat×Bool)}{d':Option Nat}{x y z:Operand}{o:Oper}
theorem aGy{t e n len cap l h:Nat}{lo hi:Option Operand}{a:Option Addr}{k kk:IntKind}{m q:Int} [bR P t e n] [i0:dK m l] [i1:dK q h](ho:o.op=.slice t x (some y) (some z) none)(hx:ev ρ x=some (.slice a len cap))(hy:ev ρ y=some (.int k m))(hz:ev ρ z=some (.int kk q))(h1:l≤h)(h2:h≤cap):Pu P C ρ H o (.slice (jX a cap l n) (h-l) (cap-l)):=
 mK (vl:=none) (vh:=none) ho hx (.inr ⟨y,k,m,rfl,hy,i0.ok⟩) (.inr ⟨z,kk,q,rfl,hz,i1.ok⟩) h1 h2
theorem aK0{t e n len cap l:Nat}{a:Option Addr}{k:IntKind}{m:Int} [bR P t e n] [i0:dK m l](ho:o.op=.slice t x (some y) none none)(hx:ev ρ x=some (.slice a len cap))(hy:ev ρ y=some (.int k m))(h1:l≤len)(h2:len≤cap):Pu P C ρ H o (.slice (jX a cap l n) (len-l) (cap-l)):=
 mK (vl:=none) (vh:=none) ho hx (.inr ⟨y,k,m,rfl,hy,i0.ok⟩) (.inl ⟨rfl,rfl⟩) h1 h2
theorem aK2{t e n len cap h:Nat}{a:Option Addr}{k:IntKind}{m:Int} [bR P t e n] [i0:dK m h](ho:o.op=.slice t x none (some y) none)(hx:ev ρ x=some (.slice a len cap))(hy:ev ρ y=some (.int k m))(h2:h≤cap):Pu P C ρ H o (.slice (jX a cap 0 n) h cap):=
 mK (vl:=none) (vh:=none) ho hx (.inl ⟨rfl,rfl⟩) (.inr ⟨y,k,m,rfl,hy,i0.ok⟩) (Nat.zero_le _) h2
theorem aK1{t e n len cap h:Nat}{a:Option Addr}{k kk:IntKind}{m q:Int} [ht:bR P t e n] [i0:dK m h] [i1:dK q h](ho:o.op=.slice t x none (some y) (some z))(hx:ev ρ x=some (.slice a len cap))(hy:ev ρ y=some (.int k m))(hz:ev ρ z=some (.int kk q))(h2:h≤cap):Pu P C ρ H o (.slice (jX a h 0 n) h h):=fun ac w hf _=>by
 unfold execOp;rw [ho]
 have e0:=i0.ok
 have e1:=i1.ok
 subst e0 e1
 simp [hf.eval hx,hf.eval hy,hf.eval hz,Instr.sliceAt,run_underlying ht.ok,Instr.slice,Instr.sliceBounds,Instr.sliceBound,asIntOf,h2,dM ht.size,jX]
end
attribute [local irreducible] SW SL SQ SH SA SS Pu Fin bU aP
section
variable {P:Program}{C:Ctx}{Q:Exit→Fr→Hp→Prop}{ρ:Fr}{H H':Hp}{L rest:List Oper}{d:Option Tmp}{ty:TypeId}{pos:String}{af:Array Edge}{g:Option (Nat×Bool)}{d':Option Nat}{x y z:Operand}{o:Oper}
theorem W.s3{t e n len cap h:Nat}{a:Option Addr}{k kk:IntKind}{m q:Int} [ht:bR P t e n](hk:SL P C L Q rest (pt ρ d' (.slice (jX a h 0 n) h h)) H)(hx:ev ρ x=some (.slice a len cap):=by exact rfl)(hy:ev ρ y=some (.int k m):=by exact rfl)(hz:ev ρ z=some (.int kk q):=by exact rfl)(i0:dK m h:=by infer_instance)(i1:dK q h:=by infer_instance)(h2:h≤cap:=by omega)(hg:gd L ρ ⟨d,.slice t x none (some y) (some z),ty,pos,af,g⟩=some true:=by exact rfl)(hd:dk C.n d=some d':=by exact rfl):SL P C L Q (⟨d,.slice t x none (some y) (some z),ty,pos,af,g⟩::rest) ρ H:=bD (aK1 rfl hx hy hz h2) hg hd hk
theorem W.sF{t e n len cap l:Nat}{a:Option Addr}{k:IntKind}{m:Int} [ht:bR P t e n](hk:SL P C L Q rest (pt ρ d' (.slice (jX a cap l n) (len-l) (cap-l))) H)(hx:ev ρ x=some (.slice a len cap):=by exact rfl)(hy:ev ρ y=some (.int k m):=by exact rfl)(i0:dK m l:=by infer_instance)(h1:l≤len:=by omega)(h2:len≤cap:=by omega)(hg:gd L ρ ⟨d,.slice t x (some y) none none,ty,pos,af,g⟩=some true:=by exact rfl)(hd:dk C.n d=some d':=by exact rfl):SL P C L Q (⟨d,.slice t x (some y) none none,ty,pos,af,g⟩::rest) ρ H:=bD (aK0 rfl hx hy h1 h2) hg hd hk
theorem W.sT{t e n len cap h:Nat}{a:Option Addr}{k:IntKind}{m:Int} [ht:bR P t e n](hk:SL P C L Q rest (pt ρ d' (.slice (jX a cap 0 n) h cap)) H)(hx:ev ρ x=some (.slice a len cap):=by exact rfl)(hy:ev ρ y=some (.int k m):=by exact rfl)(i0:dK m h:=by infer_instance)(h2:h≤cap:=by omega)(hg:gd L ρ ⟨d,.slice t x none (some y) none,ty,pos,af,g⟩=some true:=by exact rfl)(hd:dk C.n d=some d':=by exact rfl):SL P C L Q (⟨d,.slice t x none (some y) none,ty,pos,af,g⟩::rest) ρ H:=bD (aK2 rfl hx hy h2) hg hd hk
theorem W.sG{t e n len cap l h:Nat}{a:Option Addr}{k kk:IntKind}{m q:Int} [ht:bR P t e n](hk:SL P C L Q rest (pt ρ d' (.slice (jX a cap l n) (h-l) (cap-l))) H)(hx:ev ρ x=some (.slice a len cap):=by exact rfl)(hy:ev ρ y=some (.int k m):=by exact rfl)(hz:ev ρ z=some (.int kk q):=by exact rfl)(i0:dK m l:=by infer_instance)(i1:dK q h:=by infer_instance)(h1:l≤h:=by omega)(h2:h≤cap:=by omega)(hg:gd L ρ ⟨d,.slice t x (some y) (some z) none,ty,pos,af,g⟩=some true:=by exact rfl)(hd:dk C.n d=some d':=by exact rfl):SL P C L Q (⟨d,.slice t x (some y) (some z) none,ty,pos,af,g⟩::rest) ρ H:=bD (aGy rfl hx hy hz h1 h2 (lo:=none) (hi:=none)) hg hd hk
theorem aIB{t e n b j len cap m:Nat} [ht:jJ P t m e n](hk:SL P C L Q rest (pt ρ d' (.pointer (some ⟨b,j,none⟩))) H)(hx:ev ρ x=some (.slice (some ⟨b,j,none⟩) len cap):=by exact rfl)(h1:m≤len:=by omega)(hg:gd L ρ ⟨d,.sliceToArrayPointer t x,ty,pos,af,g⟩=some true:=by exact rfl)(hd:dk C.n d=some d':=by exact rfl):SL P C L Q (⟨d,.sliceToArrayPointer t x,ty,pos,af,g⟩::rest) ρ H:=bD (aII rfl hx h1) hg hd hk
end
theorem RdH.cut{H:Hp}{a:Option Addr}{len cap:Nat}{bs:List UInt8}(h:RdH H (.slice a len cap) bs)(c l q cap':Nat)(hl:l≤q)(hq:q≤len)(hc:q-l≤cap')(hcl:c=l→q=l):RdH H (.slice (jX a c l 1) (q-l) cap') ((bs.drop l).take (q-l)):=by
 obtain⟨a',len',cap'',he,h2,h3,h4⟩:=h
 cases he
 refine⟨_,_,_,rfl,by rw [aI,aW];omega,hc,?_⟩
 by_cases h0:q-l=0
 ·exact .inl h0
 ·rcases h4 with h4|⟨b,o,cs,T,fz,rfl,hm,hy⟩
  ·omega
  ·refine .inr ⟨b,o+l,cs,T,fz,?_,hm,?_⟩
   ·unfold jX
    rw [if_neg (fun e=>h0 (by rw [hcl e];omega))]
    simp [Addr.add]
   ·have e:(cs.drop (o+l)).take (q-l)=(((cs.drop o).take len).drop l).take (q-l):=by
     rw [kO,fR,cG,cU oQ]
    rw [e,hy]
    simp [jH,iG]
theorem RdH.len{H:Hp}{a:Option Addr}{len cap:Nat}{bs:List UInt8}(h:RdH H (.slice a len cap) bs):bs.length=len∧len≤cap:=by
 obtain⟨a',len',cap'',he,h2,h3,h4⟩:=h
 cases he
 exact⟨h2,h3⟩
theorem xQ{l:List Value}{o len:Nat}{xs:List UInt8}{i:Nat}{c:UInt8}(hy:(l.drop o).take (len*1)=cbs xs)(hi:xs[i]?=some c):l[o+i]?=some (.int .u8 (c.toNat:Int)):=by
 have h1:i<len*1:=by
  have:=congrArg List.length hy
  have h2:=(aD.1 hi).1
  rw [aI,aF] at this;omega
 have h2:((l.drop o).take (len*1))[i]?=(cbs xs)[i]?:=by rw [hy]
 rw [bB,if_pos h1,bA] at h2
 rw [h2,aL,hi];rfl
abbrev ptv(b:Nat):Value:=.pointer (some ⟨b,0,none⟩)
def pad(n:Nat)(b:List UInt8):List UInt8:=(b++List.replicate n 0).take n
theorem zB(n:Nat)(b:List UInt8):(pad n b).length=n:=by unfold pad;rw [aI,aB,aM];omega
theorem aBd{n:Nat}{b:List UInt8}(h:b.length≤n):pad n b=b++List.replicate (n-b.length) 0:=by
 unfold pad
 rw [gR,aG h,List.take_replicate,cU oQ]
def nU(b:List UInt8):Nat:=b.foldr (fun c v=>v*256+c.toNat) 0
def iJ(b:List UInt8):Nat:=nU (b.take 8)
theorem vX(b:List UInt8):nU b<256^b.length:=by
 unfold nU
 induction b with
 | nil=>simp
 | cons c r ih=>
  have:=c.toNat_lt
  simp only [List.foldr_cons,aY,fT]
  omega
theorem aDm(b:List UInt8)(c:UInt8):nU (b++[c])=nU b+c.toNat*256^b.length:=by
 unfold nU
 induction b with
 | nil=>simp
 | cons x r ih=>
  simp only [eD,List.foldr_cons,aY,fT,ih,Nat.add_mul]
  rw [← mU];omega
theorem aD2(b:List UInt8):iJ b<18446744073709551616:=by
 have h:=vX (b.take 8)
 have h2:256^(b.take 8).length≤256^8:=cI dQ (by rw [aI];omega)
 unfold iJ
 omega
theorem aBx{b:List UInt8}(h:b.length≤2):iJ b<65536:=by
 have h1:=vX (b.take 8)
 have h2:256^(b.take 8).length≤256^2:=cI dQ (by rw [aI];omega)
 unfold iJ
 omega
def vB(b:List UInt8):UInt64:=UInt64.ofNat (iJ b)
theorem vZ(b:List UInt8):(vB b).toNat=iJ b:=by
 unfold vB;rw [aV];exact dC (aD2 b)
def yP(x y:List UInt8):List UInt8:=List.zipWith (· ^^^ ·) x y
theorem aC0(x y:List UInt8):(yP x y).length=min x.length y.length:=by unfold yP;simp
theorem aKJ(va vb:Value)(x y:List UInt8)(hx:x.length≤1099511627776):Tri prog 138 [va,vb] [] (fun w=>Rd [] w 1 va (cbs x)∧Rd [] w 1 vb (cbs y))
  (fun v H=>∃ b,v=.slice (some ⟨b,0,none⟩) (min x.length y.length) (min x.length y.length)∧H=[(b,cl (cbs (yP x y)) 5)]):=by
 refine Tri.mk func138 rfl ntmps138 rfl fun w hw=>?_
 obtain⟨h1,h2⟩:=hw
 obtain⟨a,la,ca,rfl,hl1,hc1,hr1⟩:=h1.get
 obtain⟨b,lb,cb,rfl,hl2,hc2,hr2⟩:=h2.get
 rw [aF,Nat.mul_one] at hl1 hl2
 subst hl1 hl2
 haveI i1:dK (min (x.length:Int) (y.length:Int)) (min x.length y.length):=⟨by omega⟩
 have hmin:min x.length y.length≤x.length∧min x.length y.length≤y.length:=⟨Nat.min_le_left ..,Nat.min_le_right ..⟩
 have hxl:=aC0 x y
 rw [← hxl] at hmin
 refine W.j fun b_=>?_
 generalize hn:min x.length y.length=n at *
 have hg:∀ k,(cbs (mG (fun i=>x.getD i 0 ^^^ y.getD i 0) n k)).length=(mG (fun i=>x.getD i 0 ^^^ y.getD i 0) n k).length:=fun k=>aF _
 rw [show zs [.int .u8 0] n=cbs (mG (fun i=>x.getD i 0 ^^^ y.getD i 0) n 0) by rw [kG];simp [mG]]
 refine SW.cut [5] [b_] (fun _:Unit=>[]) (fun _=>[(b_,cl (cbs (mG (fun i=>x.getD i 0 ^^^ y.getD i 0) n n)) 5)]) (fun _=>True) ?_ ?_
 ·refine W.k ?_
  refine bX [0,1,5,14] [b_] (fun k:Nat=>[(15,.int .i64 (k:Int))]) (fun k=>[(b_,cl (cbs (mG (fun i=>x.getD i 0 ^^^ y.getD i 0) n k)) 5)]) (fun k=>n-k) (fun k=>k≤n) 0 oQ ?_
  intro k hk
  by_cases hkn:k<n
  ·have hlen:k<(cbs (mG (fun i=>x.getD i 0 ^^^ y.getD i 0) n k)).length:=by rw [aJ,aA1 _ hk];exact hkn
   obtain⟨b1,o1,l1,T1,z1,rfl,hb1,hk1,hy1⟩:=hr1 oQ
   obtain⟨b2,o2,l2,T2,z2,rfl,hb2,hk2,hy2⟩:=hr2 oQ
   have g1:=xQ hy1 (aA (show k<x.length by omega))
   have g2:=xQ hy2 (aA (show k<y.length by omega))
   have gx:x.getD k 0=x[k]'oQ:=by rw [aC,aA (show k<x.length by omega)];rfl
   have gy:y.getD k 0=y[k]'oQ:=by rw [aC,aA (show k<y.length by omega)];rfl
   have hfs:=aA2 (fun i=>x.getD i 0 ^^^ y.getD i 0) hkn
   rw [gx,gy] at hfs
   refine W.k ?_
   (refine SW.l [12] [0,1,2,3,4,5,6,7,8,9,10,11] ?_;refine cQ 12 ?_;refine W.i ?_;refine eH ?_)
   rw [hfs]
   refine W.k ?_
   refine aP.mk (k+1) ?_
   omega
  ·have:k=n:=oQ
   subst this
   refine W.k ?_
   refine bU.mk () ?_
   trivial
 rintro _ -
 refine W.k ?_
 rw [aA0]
 have e:(List.range n).map (fun i=>x.getD i 0 ^^^ y.getD i 0)=yP x y:=by
  apply cJ
  intro i
  unfold yP
  rw [aL,fP]
  by_cases h:i<n
  ·rw [dY h,aA (show i<x.length by omega),aA (show i<y.length by omega)]
   simp [aC,aA (show i<x.length by omega),aA (show i<y.length by omega)]
  ·rw [bE (by simp;omega)]
   by_cases h2:i<x.length
   ·rw [bE (show y.length≤i by omega)];cases x[i]? <;> rfl
   ·rw [bE (show x.length≤i by omega)];rfl
 rw [e]
 refine Fin.to [(b_,cl (cbs (yP x y)) 5)] ?_
 refine F.f1 ?_
 exact⟨b_,rfl,rfl⟩
theorem aBk(v:Value)(x:List UInt8)(n:Nat)(h1:1≤n)(hn:n≤65536)(hx:x.length≤n):Tri prog 154 [v,.int .i64 (n:Int)] [] (fun w=>Rd [] w 1 v (cbs x)) (fun r H=>∃ b,r=.slice (some ⟨b,0,none⟩) n n∧H=[(b,cl (cbs (pad n x)) 5)]):=by
 refine Tri.mk func154 rfl ntmps154 rfl fun w hw=>?_
 obtain⟨a,la,ca,rfl,hl1,hc1,hr1⟩:=hw.get
 rw [aF,Nat.mul_one] at hl1
 subst hl1
 have hfit:0+(cbs x).length≤(zs [Value.int .u8 0] n).length:=by rw [kG,aM,aF];omega
 refine W.k fun b_=>?_
 refine W.cy (fun w2 hs=>hw.srcAt hs) ?_
 have e:(zs [Value.int .u8 0] n).take 0++cbs x++(zs [Value.int .u8 0] n).drop (0+(cbs x).length)=cbs (pad n x):=by
  rw [aBd hx,kG,aF,List.drop_replicate,eX,gU]
  simp
 rw [e]
 refine W.k ?_
 refine Fin.to [(b_,cl (cbs (pad n x)) 5)] ?_
 refine F.f1 ?_
 exact⟨b_,rfl,rfl⟩
theorem aKs(v:Value)(x:List UInt8):Tri prog 304 [v] [] (fun w=>Rd [] w 1 v (cbs x)) (fun r H=>r=.int .u64 (iJ x:Nat)∧H=[]):=by
 refine Tri.mk func304 rfl ntmps304 rfl fun w hw=>?_
 obtain⟨a,la,ca,rfl,hl1,hc1,hr1⟩:=hw.get
 rw [aF,Nat.mul_one] at hl1
 subst hl1
 refine W.j ?_
 refine SW.cut [] [] (fun _:Unit=>[(3,.int .u64 (iJ x:Nat))]) (fun _=>[]) (fun _=>True) ?_ ?_
 ·refine W.k ?_
  refine bH [6,7] (fun k:Nat=>[(3,.int .u64 (iJ (x.take k):Nat)),(8,.int .i64 (k:Int))]) (fun _=>[]) (fun k=>x.length-k) (fun k=>k≤x.length∧k≤8) 0 ⟨Nat.zero_le _,Nat.zero_le _⟩ ?_
  rintro k ⟨hk,hk8⟩
  by_cases hkn:k<x.length
  ·obtain⟨b1,o1,l1,T1,z1,rfl,hb1,hk1,hy1⟩:=hr1 oQ
   have g1:=xQ hy1 (aA hkn)
   generalize hc:x[k]'hkn=c at *
   by_cases h8:k=8
   ·subst h8
    have e:iJ (x.take 8)=iJ x:=by unfold iJ;rw [fR,jV]
    rw [e]
    refine W.k ?_
    refine bU.mk () ?_
    trivial
   ·have e0:(x.take k).length=k:=by rw [aI];omega
    have e1:iJ (x.take k)=nU (x.take k):=by unfold iJ;rw [fR,Nat.min_eq_right oQ]
    have e2:iJ (x.take (k+1))=nU (x.take k)+c.toNat*256^k:=by
     unfold iJ
     rw [fR,Nat.min_eq_right oQ,bG,aA hkn,hc,dT,aDm,e0]
    have hlt:=vX (x.take k)
    rw [e0] at hlt
    have hlt2:=aD2 (x.take (k+1))
    rw [e1]
    generalize nU (x.take k)=F at *
    have hF:F<18446744073709551616:=by have:=c.toNat_lt;rw [e2] at hlt2;omega
    haveI i1:U64 (F:Int) (UInt64.ofNat F):=⟨by rw [aV];omega⟩
    haveI i2:aEu (8*(k:Int)) (UInt64.ofNat (8*k)):=⟨by rw [aV];omega,by rw [aV];omega⟩
    have e3:(UInt64.ofNat F ||| c.toUInt64 <<< UInt64.ofNat (8*k)).toNat=iJ (x.take (k+1)):=by
     have hp:256^k=2^(8*k):=by rw [Nat.pow_mul]
     have h8k:(UInt64.ofNat (8*k)).toNat=8*k:=by rw [aV];omega
     rw [e2,UInt64.toNat_or,UInt64.toNat_shiftLeft,h8k,nC,aV,dC hF,dC (show 8*k<64 by omega)]
     rw [hp] at hlt ⊢
     have hc2:c.toNat <<< (8*k)<2^64:=by
      rw [iH]
      rw [e2,hp] at hlt2
      omega
     rw [dC hc2,Nat.or_comm,← Nat.shiftLeft_add_eq_or_of_lt hlt,iH]
     omega
    refine W.k ?_
    rw [e3]
    refine aP.mk (k+1) ?_
    omega
  ·have hk2:k=x.length:=oQ
   have e:iJ (x.take k)=iJ x:=by rw [hk2,cK]
   rw [e]
   refine W.k ?_
   refine bU.mk () ?_
   trivial
 rintro _ -
 refine W.k ?_
 exact F.n
def aBX(p:Nat)(bs:List UInt8)(H:Hp):Prop:=∃ v Ht,H=(p,cl [v,.int .i64 0] 426)::Ht∧RdH Ht v bs
theorem aKw(v:Value)(x:List UInt8)(hx:x.length≤1099511627776):Tri prog 291 [v] [] (fun w=>Rd [] w 1 v (cbs x)) (fun r H=>∃ p,r=.pointer (some ⟨p,0,none⟩)∧aBX p x H):=by
 refine Tri.mk func291 rfl ntmps291 rfl fun w hw=>?_
 obtain⟨a,la,ca,rfl,hl1,hc1,hr1⟩:=hw.get
 refine W.k ?_
 refine aH (rB _ x hx) ?_ (hpre:=fun w2 hs=>hw.ro (Hc:=[]) hs)
 intro v1 H1 h1
 have h11:=h1.isOne
 obtain⟨a1,l1,c1,rfl,hl1⟩:=h1.form
 have hb:bP (fun i=>[(0,1),(1,1)][i]?) [.slice none 0 0,.int .i64 0] [(0,.slice a1 l1 c1)]=some [.slice a1 l1 c1,.int .i64 0]:=rfl
 refine W.k fun b_=>?_
 refine Fin.to ((b_,cl [.slice a1 l1 c1,.int .i64 0] 426)::H1) ?_
 exact F.f1 ⟨b_,rfl,_,H1,rfl,RdH.of h1⟩
theorem aGk{p:Nat}{bs:List UInt8}{H:Hp}(hR:aBX p bs H)(n:Nat)(hn:n≤bs.length)(hb:bs.length≤1099511627776):Tri prog 305 [.pointer (some ⟨p,0,none⟩),.int .i64 (n:Int)] H (fun _=>True)
  (fun r H'=>∃ v Ht,H'=(p,cl [v,.int .i64 0] 426)::Ht∧RdH Ht v (bs.drop n)∧RdH Ht r (bs.take n)):=by
 obtain⟨v,Ht,rfl,hv⟩:=hR
 have hv2:=hv
 obtain⟨a,len,cap,rfl,-⟩:=hv2
 obtain⟨hl,hc⟩:=hv.len
 subst hl
 refine Tri.mk func305 rfl ntmps305 rfl fun w hw=>?_
 refine W.k ?_
 refine W.s3 ?_
 have c1:=hv.cut n 0 n n (Nat.zero_le _) hn oQ oQ
 refine W.k ?_
 refine W.sF ?_
 have c2:=hv.cut cap n bs.length (cap-n) hn (Nat.le_refl _) oQ oQ
 rw [aG (by simp)] at c2
 rw [bN,jE] at c1
 have o1:=c1.one
 have o2:=c2.one
 refine W.k ?_
 exact F.f1 ⟨_,Ht,rfl,c2,c1⟩
theorem aDL{p:Nat}{bs:List UInt8}{H:Hp}(hR:aBX p bs H)(n:Nat)(h1:1≤n)(h8:n≤8)(hn:n≤bs.length)(hb:bs.length≤1099511627776):Tri prog 292 [.pointer (some ⟨p,0,none⟩),.int .i64 (n:Int)] H (fun _=>True)
  (fun r H'=>r=.int .u64 (iJ (bs.take n):Nat)∧aBX p (bs.drop n) H'):=by
 refine Tri.mk func292 rfl ntmps292 rfl fun w hw=>?_
 have hnx:=aGk hR n hn hb
 refine W.k ?_
 refine aH hnx ?_
 rintro u H1 ⟨v,Ht,rfl,hv,hu⟩
 have hu1:=hu.one
 refine W.k ?_
 refine W.cw (aKs u (bs.take n)) ?_ (hpre:=fun w2 hs=>hu.rd (Hc:=[]) hs)
 refine Fin.to ((p,cl [v,.int .i64 0] 426)::Ht) ?_
 exact F.f1 ⟨rfl,v,Ht,rfl,hv⟩
theorem aHa{p:Nat}{bs:List UInt8}{H:Hp}(hR:aBX p bs H)(n:Nat)(hn:n≤bs.length)(hb:bs.length≤1099511627776):Tri prog 298 [.pointer (some ⟨p,0,none⟩),.int .i64 (n:Int)] H (fun _=>True)
  (fun r H'=>∃ H1 Ht,aBX p (bs.drop n) H1∧Sl 5 1 r (cbs (bs.take n)) Ht∧H'=H1++Ht):=by
 refine Tri.mk func298 rfl ntmps298 rfl fun w hw=>?_
 have hnx:=aGk hR n hn hb
 refine W.k ?_
 refine aH hnx ?_
 rintro u H1 ⟨v,Ht,rfl,hv,hu⟩
 have hu1:=hu.one
 refine W.k ?_
 refine aH (rB u (bs.take n) (by rw [aI];omega)) ?_ (hpre:=fun w2 hs=>hu.rd (Hc:=[]) hs)
 intro v2 H2 h2
 have h21:=h2.isOne
 refine W.k ?_
 refine Fin.to (((p,cl [v,.int .i64 0] 426)::Ht)++H2) ?_
 exact F.f1 ⟨_,H2,⟨v,Ht,rfl,hv⟩,h2,rfl⟩
end
section
theorem aCQ{P:Program}{w:World}{K:List Nat}{w0:World}{H:Hp}{t t2 e n bytes m len cap:Nat}{ty:TypeId}{a:Option Addr}{sv:Value}{xs ys z:List Value} [ht:bR P t e n] [hb:fC P e bytes] [hz:bV P e z] [h2:nO P t2]
  (hzn:z.length=n) (hv:eJ P w (.slice a len cap) n len xs) (hx:xs.length=len*n) (hs:St K w0 H w) (hsrc:eJ P w sv n m ys) (hys:ys.length=m*n) (hn:0<n) (hbytes:(xs.length+ys.length)*bytes≤140737488355328*n) (hb1:1≤bytes) (hg:cap<len+m) :
  ∃ v' w' Hs',(Builtin.append_ #[t,t2] ty #[.slice a len cap,sv]).run P w=.ok v' w'∧Sl e n v' (xs++ys) Hs'∧St K w0 (Hs'++H) w':=by
 obtain⟨i,hi,hisz⟩:=qK ht.size
 have hby:i.bytes=bytes:=by have:=hb.ok;simpa [hi] using this
 obtain⟨zv,hzv,hzc⟩:=hz.ok
 have hzi:i.zero=some zv:=by simpa [hi] using hzv
 have hzl:zv.cells.size=n:=by rw [hzc];simpa using hzn
 have hl1:=(hsrc w rfl).1
 subst hisz hby
 have hmb:(len+m)*i.bytes≤140737488355328:=by
  refine tV hn ?_
  rw [hx,hys,← Nat.add_mul] at hbytes
  exact hbytes
 have hm63:len+m≤9223372036854775807:=by
  have:(len+m)*1≤(len+m)*i.bytes:=gI _ hb1
  omega
 have hrun:=mM (P:=P) (w:=w) (ty:=ty) (sLen:=len) (sCap:=cap) (base:=a) (xs:=xs) ht.ok hi hzi h2 hl1 (hv w.drew rfl).2 (hsrc w.drew rfl).2 hg hmb hm63
 refine⟨_,_,[(w.heap.size,_)],hrun,?_,hs.drew.alloc _⟩
 have hge:=grownCap_ge w (len+m) cap e
 exact .inr ⟨w.heap.size,len+m,grownCap w (len+m) cap e,(Builtin.zeroCells zv.cells (grownCap w (len+m) cap e-(len+m))).toList,rfl,by rw [aB,hx,hys,Nat.add_mul],by rw [iD,size_zeroCells,hzl,← Nat.add_mul];congr 1;omega,hge,rfl⟩
section
variable {P:Program}{C:Ctx}{Q:Exit→Fr→Hp→Prop}{ρ:Fr}{H:Hp}{L rest:List Oper}{d:Option Tmp}{ty:TypeId}{pos:String}{af:Array Edge}{g:Option (Nat×Bool)}{t t2 e n:Nat}{d':Option Nat}{x y:Operand}{a:Option Addr}{len cap:Nat}{sv:Value}
theorem aIx{bytes mm:Nat}{xs ys zv:List Value} [ht:bR P t e n] [fC P e bytes] [bV P e zv] [nO P t2](hv:∀ w,St C.K C.w0 H w→eJ P w (.slice a len cap) n len xs)(hsrc:∀ w,St C.K C.w0 H w→eJ P w sv n mm ys)(hk:∀ v' Hs',Sl e n v' (xs++ys) Hs'→SL P C L Q rest (pt ρ d' v') (Hs'++H))(hx:ev ρ x=some (.slice a len cap):=by exact rfl)(hy:ev ρ y=some sv:=by exact rfl)(hxs:xs.length=len*n:=by first|assumption|omega)(hys:ys.length=mm*n:=by first|assumption|omega)(hc:cap<len+mm:=by omega)(hzn:zv.length=n:=by exact rfl)(hn:0<n:=by decide)(hb1:1≤bytes:=by decide)(hbytes:(xs.length+ys.length)*bytes≤140737488355328*n:=by omega)
  (hg:gd L ρ ⟨d,.call { callee:=.builtin .append,args:=#[x,y],argTypes:=#[t,t2] },ty,pos,af,g⟩=some true:=by exact rfl) (hd:dk C.n d=some d':=by exact rfl):SL P C L Q (⟨d,.call { callee:=.builtin .append,args:=#[x,y],argTypes:=#[t,t2] },ty,pos,af,g⟩::rest) ρ H:=
 kD hg hd fun ac w hf hs=>by
  obtain⟨v',w',Hs',hrun,hv',hst⟩:=aCQ (P:=P) (t:=t) (t2:=t2) (ty:=ty) hzn (hv w hs) hxs hs (hsrc w hs) hys hn hbytes hb1 hc
  exact⟨v',w',Hs'++H,.inl (by unfold execOp;simp [resolve,invoke,builtin,hf.eval hx,hf.eval hy,hrun]),hst,hk v' Hs' hv'⟩
end
attribute [local irreducible] SW SL SQ SH SA SS Pu Fin bU aP
theorem aJX(n:Nat)(x:List UInt8){i:Nat}(h:i<n):(pad n x)[i]?=some (x.getD i 0):=by
 unfold pad
 rw [bB,if_pos h,aC]
 by_cases hx:i<x.length
 ·rw [aK hx,aA hx];rfl
 ·rw [aO oQ,bE (show x.length≤i by omega),lU,if_pos oQ];rfl
theorem aGE(v:Value)(x:List UInt8)(n:Nat)(hn:n≤65536):Tri prog 217 [v,.int .i64 (n:Int)] [] (fun w=>Rd [] w 1 v (cbs x)) (fun r H=>Sl 5 1 r (cbs (pad n x)) H):=by
 refine Tri.mk func217 rfl ntmps217 rfl fun w hw=>?_
 obtain⟨a,la,ca,rfl,hl1,hc1,hr1⟩:=hw.get
 rw [aF,Nat.mul_one] at hl1
 subst hl1
 have hY:One (Value.slice a x.length ca):=⟨rfl⟩
 have hpl:=zB n x
 refine W.j ?_
 refine bZ [] [] (fun x:Value×Hp=>[(5,x.1)]) (fun x=>x.2) (fun y=>Sl 5 1 y.1 (cbs (pad n x)) y.2) ?_ ?_
 ·refine W.k ?_
  refine bH [0,1] (fun x:Nat×Value×Hp=>[(5,x.2.1),(6,.int .i64 (x.1:Int))]) (fun x=>x.2.2) (fun x=>n-x.1) (fun y=>y.1≤n∧Sl 5 1 y.2.1 (cbs ((pad n x).take y.1)) y.2.2) (0,.slice none 0 0,[]) ⟨Nat.zero_le _,Sl.nil _ _⟩ ?_
  rintro⟨j,v2,H2⟩ ⟨hj,h2⟩
  dsimp only at hj h2 ⊢
  have h21:=h2.isOne
  by_cases hjn:j<n
  ·have hts:(pad n x).take (j+1)=(pad n x).take j++[x.getD j 0]:=by rw [bG,aJX n x hjn];rfl
   have htl:((pad n x).take j).length=j:=by rw [aI];omega
   have hb1:∀ c:UInt8,bP (fun i=>some (i*1,1)) (zs [.int .u8 0] 1) [(0,.int .u8 (c.toNat:Int))]=some (cbs [c]):=fun c=>rfl
   by_cases hjx:j<x.length
   case' pos=>
    obtain⟨b1,o1,l1,T1,z1,rfl,hbb,hk1,hy1⟩:=hr1 oQ
    have g1:=xQ hy1 (aA hjx)
    have gx:x.getD j 0=x[j]:=by rw [aC,aA hjx];rfl
    rw [← gx] at g1
   case' neg=>
    have gx:x.getD j 0=0:=by rw [aC,bE oQ];rfl
    have hb0:bP (fun i=>some (i*1,1)) (zs [.int .u8 0] 1) [(0,.int .u8 0)]=some (cbs [x.getD j 0]):=by rw [gx];rfl
   all_goals
    generalize x.getD j 0=c at *
    have hbc:=hb1 c
    clear hb1
    refine W.k fun b_=>?_
    refine W.ap h2 (ys:=cbs [c]) (mm:=1) (fun w2 hs=>(Sl.own 5 1 b_ (xs:=cbs [c]) rfl).srcAt hs inferInstance) (fun v3 H3 h3=>?_) (hys:=rfl) (hbytes:=by rw [aF,htl,aF];simp only [aY,cM];omega)
    have h31:=h3.isOne
    rw [← gU,← hts] at h3
    refine W.k ?_
    refine aP.mk (j+1,v3,H3) ?_
    exact⟨hjn,h3⟩
  ·have:j=n:=oQ
   subst this
   rw [aG oQ] at h2
   refine W.k ?_
   refine bU.mk (v2,H2) ?_
   exact h2
 rintro⟨v2,H2⟩ h2
 dsimp only at h2 ⊢
 have h21:=h2.isOne
 refine W.k ?_
 refine Fin.to H2 ?_
 exact F.f1 h2
theorem aBJ(v:Value)(x:List UInt8)(hx:x.length≤8):Tri prog 273 [v] [] (fun w=>Rd [] w 1 v (cbs x)) (fun r H=>r=.int .u64 (iJ x:Nat)∧H=[]):=by
 refine Tri.mk func273 rfl ntmps273 rfl fun w hw=>?_
 obtain⟨a,la,ca,rfl,hl1,hc1,hr1⟩:=hw.get
 rw [aF,Nat.mul_one] at hl1
 subst hl1
 have hY:One (Value.slice a x.length ca):=⟨rfl⟩
 rw [show iJ x=nU (x.drop 0) by unfold iJ;rw [aG hx,bN]]
 refine W.j ?_
 refine SW.cut [] [] (fun _:Unit=>[(3,.int .u64 (nU (x.drop 0):Nat))]) (fun _=>[]) (fun _=>True) ?_ ?_
 ·refine W.k ?_
  refine bH [0] (fun k:Nat=>[(3,.int .u64 (nU (x.drop (x.length-k)):Nat)),(4,.int .i64 ((x.length:Int)-1-k))]) (fun _=>[]) (fun k=>x.length-k) (fun k=>k≤x.length) 0 (Nat.zero_le _) ?_ (hr:=by rw [jE,pY,Int.natCast_zero,Int.sub_zero];exact⟨rfl,rfl,trivial⟩)
  intro k hk
  by_cases hkn:k<x.length
  ·obtain⟨b1,o1,l1,T1,z1,rfl,hbb,hk1,hy1⟩:=hr1 oQ
   have hj:x.length-k-1<x.length:=oQ
   have g1:=xQ hy1 (aA hj)
   haveI i0:dK ((x.length:Int)-1-k) (x.length-k-1):=⟨by omega⟩
   have hdr:x.drop (x.length-(k+1))=x[x.length-k-1]::x.drop (x.length-k):=by
    rw [show x.length-(k+1)=x.length-k-1 by omega,bS hj,show x.length-k-1+1=x.length-k by omega]
   have hf:=vX (x.drop (x.length-(k+1)))
   have hp:256^(x.drop (x.length-(k+1))).length≤256^8:=cI dQ (by rw [aW];omega)
   have hfs:nU (x.drop (x.length-(k+1)))=nU (x.drop (x.length-k))*256+(x[x.length-k-1]).toNat:=by rw [hdr];rfl
   rw [hfs] at hf
   generalize x[x.length-k-1]=c at *
   generalize nU (x.drop (x.length-k))=F at *
   have hc:=c.toNat_lt
   have hF:F*256+c.toNat<18446744073709551616:=oQ
   haveI i1:U64 (F:Int) (UInt64.ofNat F):=⟨by rw [aV];omega⟩
   have e3:(UInt64.ofNat F*256+c.toUInt64).toNat=nU (x.drop (x.length-(k+1))):=by
    rw [hfs,iI,mR,nC,aV,dC (show F<2^64 by omega),show (256:UInt64).toNat=256 from rfl]
    omega
   refine W.k ?_
   rw [e3,show (x.length:Int)-1-k-1=(x.length:Int)-1-((k+1:Nat):Int) by omega]
   refine aP.mk (k+1) ?_
   omega
  ·have:k=x.length:=oQ
   subst this
   rw [cZ]
   refine W.k ?_
   refine bU.mk () ?_
   trivial
 rintro _ -
 refine W.k ?_
 exact F.n
end
section
attribute [local irreducible] SW SL SQ SH SA SS Pu Fin bU aP
def iX:List UInt8:=[71,65,82,68,82,79,66,69]
def gA(p t:Nat):List UInt8:=pad 256 (iX++leN 2 1++leN 2 (UInt64.ofNat p)++leN 2 (UInt64.ofNat t))
def epB(k:Nat)(es:List UInt64):List UInt8:=pad 256 (((es.drop (32*k)).take 32).flatMap (leN 8))
theorem vI(p t:Nat):(gA p t).length=256:=zB _ _
theorem yT(k:Nat)(es:List UInt64):(epB k es).length=256:=zB _ _
theorem bsM:bP (fun i=>some (i*1,1)) (zs [Value.int .u8 0] 8) [(0,.int .u8 71),(1,.int .u8 65),(2,.int .u8 82),(3,.int .u8 68),(4,.int .u8 82),(5,.int .u8 79),(6,.int .u8 66),(7,.int .u8 69)]=some (cbs iX):=rfl
theorem aCX{p t:Nat}(h:Gm.Ok p t):Tri prog 212 [jQ p t] [] (fun _=>True) (fun v H=>∃ b,v=.tuple #[.slice (some ⟨b,0,none⟩) 256 256,.int .i64 0]∧H=[(b,cl (cbs (gA p t)) 5)]):=by
 refine Tri.mk func212 rfl ntmps212 rfl fun w hw=>?_
 have hck:=nF h
 have hp1:=uO 2 1 oQ oQ
 have hp2:=uO 2 (UInt64.ofNat p) oQ oQ
 have hp3:=uO 2 (UInt64.ofNat t) oQ oQ
 have hfl:[iX,leN 2 1,leN 2 (UInt64.ofNat p),leN 2 (UInt64.ofNat t)].flatten=iX++leN 2 1++leN 2 (UInt64.ofNat p)++leN 2 (UInt64.ofNat t):=by simp
 have hfn:(iX++leN 2 1++leN 2 (UInt64.ofNat p)++leN 2 (UInt64.ofNat t)).length=14:=by simp [dD,iX]
 have hpd:=fun v=>aBk v (iX++leN 2 1++leN 2 (UInt64.ofNat p)++leN 2 (UInt64.ofNat t)) 256 dQ dQ (by rw [hfn];decide)
 rw [show pad 256 (iX++leN 2 1++leN 2 (UInt64.ofNat p)++leN 2 (UInt64.ofNat t))=gA p t from rfl] at hpd
 refine W.k fun b_=>?_
 refine W.cw hck ?_
 (refine SW.l [] [3,4,5,7,8,9] ?_;skip )
 repeat' (first
  | refine gT 0 2 ?_ ?_ rfl rfl (hok:=by decide +kernel)|refine gT 1 2 ?_ ?_ rfl rfl (hok:=by decide +kernel)|refine gT 0 6 ?_ ?_ rfl rfl (hok:=by decide +kernel)|refine gT 1 6 ?_ ?_ rfl rfl (hok:=by decide +kernel)|refine gT 0 10 ?_ ?_ rfl rfl (hok:=by decide +kernel)|refine gT 1 10 ?_ ?_ rfl rfl (hok:=by decide +kernel)
  | refine mW 0 ?_ rfl (by decide +kernel)|refine mW 1 ?_ rfl (by decide +kernel)|refine mW 2 ?_ rfl (by decide +kernel)|refine mW 6 ?_ rfl (by decide +kernel)|refine mW 10 ?_ rfl (by decide +kernel)
  | (refine iO (fun b1=>?_) (hr:=bsM);refine cW ?_)
  | (refine W.mk ?_;refine cW ?_)
  | (refine dL hp1 rfl ?_;rintro _ _ ⟨b2,rfl,rfl⟩;refine cW ?_)
  | (refine dL hp2 rfl ?_;rintro _ _ ⟨b3,rfl,rfl⟩;refine cW ?_)
  | (refine dL hp3 rfl ?_;rintro _ _ ⟨b4,rfl,rfl⟩;refine cW ?_))
 all_goals
  refine aU 11 ?_
  refine iO (fun b5=>?_) (hr:=bs4 ..)
  (refine bI [] ?_;refine aU 12 ?_)
  refine aH (sI _ [iX,leN 2 1,leN 2 (UInt64.ofNat p),leN 2 (UInt64.ofNat t)] (by rw [hfl,hfn];decide) (by simp only [aY,cM];omega)) ?_ (hpre:=fun w2 hs=>RdS.at (T:=23) (fz:=(0,0)) (Hc:=[]) hs rfl (Nat.le_refl _) rfl (tQ rfl (Rd.atB (Hc:=[]) (b:=b1) (len:=8) (cap:=8) (T:=5) (fz:=((cbs iX).length,(cbs iX).length+1)) iX hs rfl (Nat.le_refl _)) (Rd.my (Hc:=[]) (T:=5) b2 _ hs (dD ..)) (Rd.my (Hc:=[]) (T:=5) b3 _ hs (dD ..)) (Rd.my (Hc:=[]) (T:=5) b4 _ hs (dD ..))))
  rw [hfl]
  intro v6 H6 h6
  have h61:=h6.isOne
  (refine SL.l [13,14] ?_)
  refine W.k ?_
  refine aH (hpd v6) ?_ (hpre:=fun w2 hs=>Rd.own (Hc:=[]) h6 hs inferInstance)
  rintro _ _ ⟨b7,rfl,rfl⟩
  refine W.k ?_
  refine Fin.to [(b7,cl (cbs (gA p t)) 5)] ?_
  exact F.f2 ⟨b7,rfl,rfl⟩
theorem aJn(v:Value)(x:List UInt8):Tri prog 289 [v] [] (fun w=>Rd [] w 1 v (cbs x)) (fun r H=>r=.bool (decide (x.length≠256))∧H=[]):=by
 refine Tri.mk func289 rfl ntmps289 rfl fun w hw=>?_
 obtain⟨a,la,ca,rfl,hl1,hc1,hr1⟩:=hw.get
 rw [aF,Nat.mul_one] at hl1
 subst hl1
 by_cases h:x.length=256
 ·rw [decide_eq_false (by simp [h])]
  refine W.k ?_
  exact F.f1 ⟨rfl,rfl⟩
 ·rw [decide_eq_true h]
  refine W.k ?_
  exact F.f1 ⟨rfl,rfl⟩
def RB(Ht:Hp)(vs:List Value)(bss:List (List UInt8)):Prop:=vs.length=bss.length∧∀ (i:Nat) (bs:List UInt8),bss[i]?=some bs→∃ v,vs[i]?=some v∧RdH Ht v bs
theorem RB.nil(Ht:Hp):RB Ht [] []:=⟨rfl,fun i bs h=>by simp at h⟩
theorem RB.mono{H H':Hp}{vs:List Value}{bss:List (List UInt8)}(h:RB H vs bss)(hs:∀ x∈H,x∈H'):RB H' vs bss:=⟨h.1,fun i bs hi=>let ⟨v,h1,h2⟩:=h.2 i bs hi;⟨v,h1,h2.mono hs⟩⟩
theorem RB.snoc{H:Hp}{vs:List Value}{bss:List (List UInt8)}{v:Value}{bs:List UInt8}(h:RB H vs bss)(hv:RdH H v bs):RB H (vs++[v]) (bss++[bs]):=⟨by simp [h.1],fun i b hi=>by
 by_cases hl:i<bss.length
 ·rw [aK hl] at hi
  obtain⟨u,h1,h2⟩:=h.2 i b hi
  exact⟨u,by rw [aK (by rw [h.1];exact hl)];exact h1,h2⟩
 ·rw [aO oQ] at hi
  have h0:i-bss.length=0:=by have:=(aD.1 hi).1;simp at this;omega
  rw [h0] at hi
  cases hi
  exact⟨v,by rw [aO (by rw [h.1];omega),h.1,h0];rfl,hv⟩⟩
theorem RB.set{H:Hp}{vs:List Value}{bss:List (List UInt8)}{v:Value}{bs:List UInt8}(h:RB H vs bss)(hv:RdH H v bs)(k:Nat):RB H (vs.set k v) (bss.set k bs):=⟨by simp [h.1],fun i b hi=>by
 rw [fD] at hi ⊢
 by_cases hk:k=i
 ·rw [if_pos hk] at hi ⊢
  by_cases hl:k<bss.length
  ·rw [if_pos hl] at hi
   cases hi
   exact⟨v,by rw [if_pos (by rw [h.1];exact hl)],hv⟩
  ·rw [if_neg hl] at hi;cases hi
 ·rw [if_neg hk] at hi ⊢
  exact h.2 i b hi⟩
theorem RB.part{H:Hp}{vs:List Value}{bss:List (List UInt8)}(h:RB H vs bss)(a n:Nat):RB H ((vs.drop a).take n) ((bss.drop a).take n):=⟨by simp [h.1],fun i b hi=>by
 rw [bB,bA] at hi ⊢
 by_cases hn:i<n
 ·rw [if_pos hn] at hi ⊢
  exact h.2 _ _ hi
 ·rw [if_neg hn] at hi;cases hi⟩
theorem RB.oc{H:Hp}{vs:List Value}{bss:List (List UInt8)}(h:RB H vs bss):OC vs:=⟨fun u hu=>by
 obtain⟨i,hi⟩:=dI.1 hu
 have hl:i<bss.length:=by have:=(aD.1 hi).1;rw [h.1] at this;exact this
 obtain⟨v,h1,h2⟩:=h.2 i _ (aA hl)
 rw [h1] at hi
 cases hi
 exact h2.one.ok⟩
theorem aJv{Ht:Hp}(v:Value)(vs:List Value)(bss:List (List UInt8))(hB:RB Ht vs bss)(hn:bss.length≤1000000):Tri prog 303 [v,.func (.func 289) #[] #[]] Ht (fun w=>Rd (Ht.map Prod.fst) w 1 v vs)
  (fun r H=>∃ z:Int,r=.int .i64 z∧H=Ht∧(0≤z↔∃ b∈bss,b.length≠256)):=by
 refine Tri.mk func303 rfl ntmps303 rfl fun w hw=>?_
 obtain⟨a,la,ca,rfl,hl1,hc1,hr1⟩:=hw.get
 rw [Nat.mul_one,hB.1] at hl1
 subst hl1
 refine W.k ?_
 refine bH [0,1,7] (fun k:Nat=>[(8,.int .i64 (k:Int))]) (fun _=>Ht) (fun k=>bss.length-k) (fun k=>k≤bss.length∧∀ i b,i<k→bss[i]?=some b→b.length=256) 0 ⟨Nat.zero_le _,fun i b h=>by omega⟩ ?_
 rintro k ⟨hk,hk2⟩
 by_cases h:k<bss.length
 ·obtain⟨bb,o,l,T,fz,rfl,hb,hkK,hy⟩:=hr1 oQ
  obtain⟨u,hu1,hu2⟩:=hB.2 k _ (aA h)
  have hlu:l[o+k]?=some u:=by
   have h2:((l.drop o).take (bss.length*1))[k]?=vs[k]?:=by rw [hy]
   rw [bB,if_pos oQ,bA,hu1] at h2
   exact h2
  have hbl:=aA h
  generalize bss[k]=bs at *
  have huo:=hu2.one
  have h1:=aJn u bs
  refine W.k ?_
  refine dN [] rfl rfl rfl rfl rfl rfl h1 (fun w2 hs=>hu2.rd (Hc:=[]) hs) ?_
  rintro _ _ ⟨rfl,rfl⟩
  by_cases h256:bs.length=256
  ·rw [decide_eq_false (by simp [h256])]
   refine W.k ?_
   refine aP.mk (k+1) ?_
   refine⟨h,fun i b hi hib=>?_⟩
   by_cases hik:i=k
   ·subst hik;rw [hbl] at hib;cases hib;exact h256
   ·exact hk2 i b oQ hib
  ·rw [decide_eq_true h256]
   refine W.k ?_
   refine Fin.to Ht ?_
   exact F.f1 ⟨(k:Int),rfl,rfl,⟨fun _=>⟨bs,aQ hbl,h256⟩,fun _=>by omega⟩⟩
 ·have hkn:k=bss.length:=oQ
  subst hkn
  refine W.k ?_
  refine Fin.to Ht ?_
  refine F.f1 ⟨-1,rfl,rfl,⟨fun h=>by omega,fun⟨b,hb,hne⟩=>?_⟩⟩
  obtain⟨i,hi⟩:=dI.1 hb
  exact absurd (hk2 i b (aD.1 hi).1 hi) hne
theorem aHG{Ht:Hp}(v:Value)(vs:List Value)(bss:List (List UInt8))(hB:RB Ht vs bss)(hn:bss.length≤1000000)(h256:∀ b∈bss,b.length=256):Tri prog 290 [v,.func (.func 289) #[] #[]] Ht (fun w=>Rd (Ht.map Prod.fst) w 1 v vs)
  (fun r H=>r=.bool false∧H=Ht):=by
 refine Tri.mk func290 rfl ntmps290 rfl fun w hw=>?_
 have hv:=hw.isOne
 obtain⟨a,la,ca,rfl,-⟩:=hw.get
 refine W.k ?_
 refine aH (aJv _ vs bss hB hn) ?_ (hpre:=fun w2 hs=>hw.ro (Hc:=Ht) hs)
 rintro _ Ht ⟨z,rfl,rfl,hz⟩
 have hz2:z<0:=by
  rcases vL z 0 with h|h
  ·exact h
  ·obtain⟨b,hb,hne⟩:=hz.1 h
   exact absurd (h256 b hb) hne
 refine W.k ?_
 refine Fin.to Ht ?_
 exact F.f1 ⟨rfl,rfl⟩
end
section
variable {P:Program}{C:Ctx}{Q:Exit→Fr→Hp→Prop}{ρ:Fr}{H:Hp}{L rest:List Oper}{o:Oper}{B:List Nat}{R R':Hp}{fuel:Nat}{listed:Array Bool}
theorem RdH.src{Ht:Hp}{v:Value}{bs:List UInt8}{w:World}(hv:RdH Ht v bs)(hh:∀ x∈Ht,w.heap[x.1]?=some x.2):∃ a len cap,v=.slice a len cap∧eJ P w (.slice a len cap) 1 len (cbs bs):=by
 obtain⟨a,len,cap,rfl,hl,hc,hor⟩:=hv
 refine⟨a,len,cap,rfl,?_⟩
 rcases hor with h0|⟨b,j,l,T,fz,rfl,hm,hy⟩
 ·subst h0
  have:bs=[]:=cE hl
  subst this
  exact eJ.empty w a cap 1
 ·exact eJ.block (hh _ hm) (by rw [Nat.mul_one];exact hy) (by rw [aF,Nat.mul_one];exact hl)
theorem vS{t t' e n:Nat}{x:Operand}{v:Value}{bs:List UInt8}{Hs rr:Hp}(hv:RdH Hs v bs) [hp:eY H Hs rr](i:Nat)(Ws:List Nat)(hi:L[i]?=some o){d':Option Nat}(hk:SS P C L Q B (Hs++R) fuel (listed.setIfInBounds i true) (pt ρ d' (.string (wQ bs))) H)(hok:zR L B listed i Ws=true:=by kernel_rfl)(ho:o.op=.convert t t' x:=by exact rfl)(h1:bR P t e n:=by infer_instance)(h2:kN P e .u8:=by infer_instance)(h3:xZ P t':=by infer_instance)(hx:ev ρ x=some v:=by exact rfl)(hg:gd L ρ o=some true:=by exact rfl)(hd:dk C.n o.dst=some d':=by exact rfl)(hQ:∀ c ρ H,Q (.panic c) ρ H→False:=by exact fun _ _ _ h=>Fin.np h):SS P C L Q B R (fuel+1) listed ρ H:=
 tN (R':=Hs++R) i Ws hi hok hQ (fun x hx=>aN _ hx) (fun x hx=>(bQ.1 hx).elim (fun h=>.inr (hp.perm.mem_iff.2 (aT _ h))) .inl) (fun a hf=>.inl ⟨fQ hf hg,fun w hr=>by
  obtain⟨pa,len,cap,rfl,hs⟩:=hv.src (P:=P) (w:=w) (fun x hx=>hr.2 x (aT _ hx))
  unfold execOp;rw [ho]
  simp [hf.eval hx,aAy (P:=P) (t:=t) (t':=t') (e:=e) (n:=n) hs]⟩) hd hk
theorem aH0{t t':TypeId}{x y:Operand}{a c:List UInt8}(ho:o.op=.binOp .neq t x y t')(hx:ev ρ x=some (.string (wQ a)))(hy:ev ρ y=some (.string (wQ c)))(h:a≠c):Pu P C ρ H o (.bool true):=by
 have:=aBF (P:=P) (C:=C) (H:=H) ho hx hy
 rw [wR,decide_eq_false h] at this
 exact this
end
section
variable {P:Program}{C:Ctx}{ρ:Fr}{H:Hp}{o:Oper}
theorem aHW{t t':TypeId}{x y:Operand}{a c:List UInt8}(ho:o.op=.binOp .eql t x y t')(hx:ev ρ x=some (.string (wQ a)))(hy:ev ρ y=some (.string (wQ c))):Pu P C ρ H o (.bool (decide (a=c))):=by
 have:=aBE (P:=P) (C:=C) (H:=H) ho hx hy
 rw [wR] at this
 exact this
end
section
attribute [local irreducible] SW SL SQ SH SA SS Pu Fin bU aP
theorem aCY{sp:Nat}{F0:List Value}{st:Int}(hF:F0[9]?=some (.int .i64 st)):Tri prog 13 [ptv sp] [(sp,cl F0 97)] (fun _=>True) (fun v H=>v=.int .i64 st∧H=[(sp,cl F0 97)]):=by
 refine Tri.mk func13 rfl ntmps13 rfl fun w hw=>?_
 refine W.k ?_
 refine Fin.to [(sp,cl F0 97)] ?_
 exact F.f1 ⟨rfl,rfl⟩
section
variable {P:Program}{C:Ctx}{L:List Oper}{Q:Exit→Fr→Hp→Prop}{B:List Nat}{R R' H:Hp}{fuel:Nat}{listed:Array Bool}{ρ:Fr}{o:Oper}
theorem aFv{t r c:Nat}{z:Value}{x:Operand}{l:List Ei}(i:Nat)(Ws:List Nat)(hi:L[i]?=some o){d':Option Nat}(iM:aAJ P t z)(hk:SS P C L Q B R' fuel (listed.setIfInBounds i true) (pt ρ d' (.int .i64 (l.length:Int))) H)(hok:zR L B listed i Ws=true:=by kernel_rfl)(ho:o.op=.call { callee:=.builtin .len,args:=#[x],argTypes:=#[t] }:=by exact rfl)(hx:ev ρ x=some (.map (some r)):=by exact rfl)(hat:At H r (moI l c):=by infer_instance)(hin:Ins R r (moI l c) R':=by infer_instance)(hg:gd L ρ o=some true:=by exact rfl)(hd:dk C.n o.dst=some d':=by exact rfl)(hQ:∀ c ρ H,Q (.panic c) ρ H→False:=by exact fun _ _ _ h=>Fin.np h):SS P C L Q B R (fuel+1) listed ρ H:=
 tN i Ws hi hok hQ hin.ok.2.1 (fun x hx=>(hin.ok.2.2 x hx).elim (fun e=>.inr (e▸hat.mem)) .inl) (fun a hf=>.inl ⟨fQ hf hg,fun w hr=>by
  have hb2:=hr.2 _ hin.ok.1
  obtain⟨k,e,hu,-⟩:=iM.ok
  unfold execOp;rw [ho];simp [resolve,invoke,builtin,hf.eval hx,Builtin.len_,run_underlying hu,MapKept.run_getObj_map hb2,goInt]⟩) hd hk
end
theorem F.f4{P:Program}{C:Ctx}{ρ:Fr}{H:Hp}{fn:Func}{R:Value→Hp→Prop}{e:Exit}{t u x y:Nat}{v v2 v3 v4:Value}(hR:R (.tuple #[v,v2,v3,v4]) H)(he:e=.ret∨e=.normal:=by first|exact .inl rfl|exact .inr rfl)(hrs:fn.results=#[.tmp t,.tmp u,.tmp x,.tmp y]:=by exact rfl)(ht:lk ρ t=some v:=by exact rfl)(hu:lk ρ u=some v2:=by exact rfl)(hx:lk ρ x=some v3:=by exact rfl)(hy:lk ρ y=some v4:=by exact rfl):Fin P C fn R e ρ H:=
 Fin.of he (List.Perm.of_eq (aE H).symm) hR fun a w hf _=>by
  have h1:=jA hf ht
  have h2:=jA hf hu
  have h3:=jA hf hx
  have h4:=jA hf hy
  rw [fY] at h1 h2 h3 h4
  simp [results,hrs,h1,h2,h3,h4]
abbrev Bl:=List (Int×List UInt8)
def Bl.at(l:Bl)(k:Int):Option (List UInt8):=(l.find? fun x=>decide (k=x.1)).map Prod.snd
def Bl.put:Bl→Int→List UInt8→Bl
 | [],k,d=>[(k,d)]
 | x::r,k,d=>if k=x.1 then (k,d)::r else x::Bl.put r k d
def Bl.no(most:Int)(l:Bl)(k:Int):Int:=if k<0∨65536≤k then 3 else if l.at k=none∧most≤(l.length:Int) then 28 else 0
def Bl.step(most:Int)(l:Bl)(k:Int)(d:List UInt8):Bl:=if l.no most k=0 then l.put k d else l
abbrev plB(es:List Ei):Bl:=es.map fun x=>(x.k,x.bs)
theorem aFF(es:List Ei)(k:Int):Bl.at (plB es) k=(atI es k).map Ei.bs:=by
 unfold Bl.at atI plB
 rw [mB]
 simp [Function.comp_def]
theorem aEg(y:Ei):∀ es:List Ei,plB (qX es y)=Bl.put (plB es) y.k y.bs
 | []=>rfl
 | x::r=>by
  unfold qX
  by_cases h:y.k=x.k
  ·rw [if_pos h]
   show (y.k,y.bs)::plB r=Bl.put ((x.k,x.bs)::plB r) y.k y.bs
   unfold Bl.put
   rw [if_pos h]
  ·rw [if_neg h]
   show (x.k,x.bs)::plB (qX r y)=Bl.put ((x.k,x.bs)::plB r) y.k y.bs
   rw [aEg y r]
   conv=>rhs;unfold Bl.put
   rw [if_neg h]
theorem aCG{y:Ei}:∀ {es:List Ei} {x:Ei},x∈qX es y→x∈es∨x.v=y.v∧x.bs=y.bs
 | [],x,h=>by
  rw [show qX [] y=[y] from rfl,cY] at h
  exact .inr ⟨by rw [h],by rw [h]⟩
 | z::r,x,h=>by
  unfold qX at h
  by_cases hk:y.k=z.k
  ·rw [if_pos hk] at h
   rcases cB.1 h with rfl|h
   ·exact .inr ⟨rfl,rfl⟩
   ·exact .inl (cC _ h)
  ·rw [if_neg hk] at h
   rcases cB.1 h with rfl|h
   ·exact .inl (gQ ..)
   ·exact (aCG h).imp (cC _) id
instance plBM:aAJ prog 155 (.slice none 0 0) where
 ok:=⟨3,23,underlying155,underlying3,by kernel_rfl⟩
abbrev yI(sp m:Nat)(most:Int):List Value:=[ptv sp,.func (.func 8) #[ptv sp] #[],.int .i64 most,.map (some m)]
def yH(b sp:Nat)(most:Int)(l:Bl)(H:Hp):Prop:=
 ∃ (m c:Nat) (es:List Ei) (Ht:Hp),H=(b,cl (yI sp m most) 157)::(m,moI es c)::Ht∧l=plB es∧∀ x∈es,RdH Ht x.v x.bs∧x.bs.length=256
theorem aFL(sp:Nat){most:Int}(h0:0≤most):Tri prog 35 [ptv sp,.int .i64 most] [] (fun _=>True) (fun v H=>∃ b,v=ptv b∧yH b sp most [] H):=by
 refine Tri.mk func35 rfl ntmps35 rfl fun w hw=>?_
 have hm:max most 0=most:=oQ
 refine W.k ?_
 refine aFz fun m=>?_
 have hbd:bP (fun i=>[(0,1),(1,1),(2,1),(3,1)][i]?) ([.pointer none]++[.nilFunc]++[.int .i64 0]++[.map none]) [(0,ptv sp),(1,.func (.func 8) #[ptv sp] #[]),(2,.int .i64 (max most 0)),(3,.map (some m))]=some (yI sp m most):=by rw [hm];rfl
 refine W.k fun b_=>?_
 refine F.f1 ?_
 exact⟨b_,rfl,m,0,[],[],rfl,rfl,by simp⟩
theorem aJd{b sp:Nat}{most:Int}{l:Bl}{H:Hp}(hB:yH b sp most l H):Tri prog 32 [ptv b] H (fun _=>True) (fun v H'=>v=.int .i64 (l.length:Int)∧H'=H):=by
 obtain⟨m,c,es,Ht,rfl,rfl,hr⟩:=hB
 refine Tri.mk func32 rfl ntmps32 rfl fun w hw=>?_
 refine W.k ?_
 refine aKF ?_
 refine W.k ?_
 refine F.f1 ?_
 exact⟨by rw [aJ],rfl⟩
theorem aFG{b sp:Nat}{most:Int}{l:Bl}{H:Hp}(hB:yH b sp most l H):Tri prog 28 [ptv b] H (fun _=>True) (fun v H'=>yH b sp most [] H'):=by
 obtain⟨m,c,es,Ht,rfl,rfl,hr⟩:=hB
 refine Tri.mk func28 rfl ntmps28 rfl fun w hw=>?_
 refine W.k ?_
 refine aKE ?_
 refine W.k ?_
 refine Fin.to ((b,cl (yI sp m most) 157)::(m,moI [] c)::Ht) ?_
 exact F.f0 ⟨m,c,[],Ht,rfl,rfl,by simp⟩
theorem aJe{b sp:Nat}{most:Int}{l:Bl}{H:Hp}{F0:List Value}{Hx:Hp}(hF:F0[9]?=some (.int .i64 0))(hB:yH b sp most l H)(k:Int)(dv:Value)(d:List UInt8)(hd:d.length=256) :
  Tri prog 30 [ptv b,.int .i64 k,dv] (H++((sp,cl F0 97)::Hx)) (fun w=>Rd ((H++((sp,cl F0 97)::Hx)).map Prod.fst) w 1 dv (cbs d)) (fun v H'=>∃ H2,v=.int .i64 (l.no most k)∧yH b sp most (l.step most k d) H2∧H'=H2++((sp,cl F0 97)::Hx)):=by
 obtain⟨m,c,es,Ht,rfl,rfl,hr⟩:=hB
 refine Tri.mk func30 rfl ntmps30 rfl fun w hw=>?_
 obtain⟨da,dl,dc,rfl,hdl,hdc,-⟩:=hw.get
 rw [aF,Nat.mul_one,hd] at hdl
 subst hdl
 have hst:=aCY (sp:=sp) hF
 have hat:=aFF es k
 have hlen:(plB es).length=es.length:=aJ ..
 have hone:One (((atI es k).map Ei.v).getD (.slice none 0 0)):=by
  cases hq:atI es k with
  | none=>exact inferInstanceAs (One (.slice none 0 0))
  | some x=>exact (hr x (gN hq)).1.one
 have keep:∀ e,Bl.no most (plB es) k=e→e≠0→yH b sp most ((plB es).step most k d) ((b,cl (yI sp m most) 157)::(m,moI es c)::Ht):=fun e he hn=>by
  unfold Bl.step
  rw [he,if_neg hn]
  exact⟨m,c,es,Ht,rfl,rfl,hr⟩
 by_cases hk:k<0∨65536≤k
 ·have e:Bl.no most (plB es) k=3:=by unfold Bl.no;rw [if_pos hk]
  have hkp:=keep 3 e dQ
  refine W.k ?_
  refine aAY ?_
  refine W.k ?_
  refine W.cq hst ?_
  by_cases hk1:k<0
  ·refine W.k ?_
   refine Fin.to (((b,cl (yI sp m most) 157)::(m,moI es c)::Ht)++((sp,cl F0 97)::Hx)) ?_
   exact F.f1 ⟨_,by rw [e],hkp,rfl⟩
  ·have hk2:65536≤k:=oQ
   refine W.k ?_
   refine Fin.to (((b,cl (yI sp m most) 157)::(m,moI es c)::Ht)++((sp,cl F0 97)::Hx)) ?_
   exact F.f1 ⟨_,by rw [e],hkp,rfl⟩
 ·have hk1:¬ k<0:=oQ
  have hk2:¬ 65536≤k:=oQ
  have put:Bl.no most (plB es) k=0→∀ (v1:Value) (H1:Hp),Sl 5 1 v1 (cbs d) H1→yH b sp most ((plB es).step most k d) ((b,cl (yI sp m most) 157)::(m,moI (qX es ⟨k,v1,c,d⟩) (if (atI es k).isSome then c else c+1))::(H1++Ht)):=fun he v1 H1 h1=>by
   unfold Bl.step
   rw [he,if_pos rfl]
   refine⟨m,_,_,H1++Ht,rfl,(aEg ⟨k,v1,c,d⟩ es).symm,fun x hx=>?_⟩
   rcases aCG hx with h|⟨h2,h3⟩
   ·exact⟨(hr x h).1.mono fun y hy=>aN _ hy,(hr x h).2⟩
   ·rw [h2,h3]
    exact⟨(RdH.of h1).mono fun y hy=>aT _ hy,hd⟩
  cases hq:atI es k with
  | none=>
   rw [hq] at hat put
   by_cases hm:most≤(es.length:Int)
   ·have e:Bl.no most (plB es) k=28:=by unfold Bl.no;rw [if_neg hk,if_pos ⟨by rw [hat];rfl,by rw [hlen];exact hm⟩]
    have hkp:=keep 28 e dQ
    refine W.k ?_
    refine aAY ?_
    rw [hq]
    dsimp only [Option.map_none,Option.getD_none,Option.isSome_none]
    refine W.k ?_
    refine W.cw hst ?_
    (refine SW.l [] [0,1,2,3,4,5,6] ?_;(first|refine dU 7 rfl ?_|refine aFv 7 [] rfl inferInstance ?_);refine SG.l [8,9,10,11,12,13,14,15] ?_)
    refine W.k ?_
    refine Fin.to (((b,cl (yI sp m most) 157)::(m,moI es c)::Ht)++((sp,cl F0 97)::Hx)) ?_
    exact F.f1 ⟨_,by rw [e],hkp,rfl⟩
   ·have e:Bl.no most (plB es) k=0:=by unfold Bl.no;rw [if_neg hk,if_neg (fun hh=>hm (by have:=hh.2;rw [hlen] at this;exact this))]
    have hkp:=put e
    refine W.k ?_
    refine aAY ?_
    rw [hq]
    dsimp only [Option.map_none,Option.getD_none,Option.isSome_none]
    refine W.k ?_
    refine W.cw hst ?_
    (refine SW.l [] [0,1,2,3,4,5,6] ?_;(first|refine dU 7 rfl ?_|refine aFv 7 [] rfl inferInstance ?_);refine SG.l [8,9,10,11,12,13,14,15] ?_)
    refine W.k ?_
    (refine SW.l [7] [0,1,2,3,4,5] ?_;refine aU 6 ?_)
    refine aH (rB (.slice da 256 dc) d oQ) ?_ (hpre:=fun w2 hs=>hw.ro (Hc:=[]) hs)
    intro v1 H1 h1
    have h11:=h1.isOne
    (refine bI [] ?_;refine cQ 7 ?_)
    refine aFA d ?_
    rw [hq]
    (refine bI [] ?_;refine eH ?_)
    refine W.k ?_
    refine Fin.to (((b,cl (yI sp m most) 157)::(m,moI (qX es ⟨k,v1,c,d⟩) (if (none:Option Ei).isSome then c else c+1))::(H1++Ht))++((sp,cl F0 97)::Hx)) ?_
    exact F.f1 ⟨_,by rw [e],hkp v1 H1 h1,rfl⟩
  | some x=>
   rw [hq] at hat put hone
   have e:Bl.no most (plB es) k=0:=by unfold Bl.no;rw [if_neg hk,if_neg (fun hh=>by have:=hh.1;rw [hat] at this;cases this)]
   have hkp:=put e
   have hone2:One x.v:=hone
   refine W.k ?_
   refine aAY ?_
   rw [hq]
   dsimp only [Option.map_some,Option.getD_some,Option.isSome_some]
   refine W.k ?_
   refine W.cw hst ?_
   (refine SW.l [] [0,1,2,3,4,5,6,7,8,9,10,11,12,13,14,15] ?_)
   refine W.k ?_
   (refine SW.l [7] [0,1,2,3,4,5] ?_;refine aU 6 ?_)
   refine aH (rB (.slice da 256 dc) d oQ) ?_ (hpre:=fun w2 hs=>hw.ro (Hc:=[]) hs)
   intro v1 H1 h1
   have h11:=h1.isOne
   (refine bI [] ?_;refine cQ 7 ?_)
   refine aFA d ?_
   rw [hq]
   (refine bI [] ?_;refine eH ?_)
   refine W.k ?_
   refine Fin.to (((b,cl (yI sp m most) 157)::(m,moI (qX es ⟨k,v1,c,d⟩) (if (some x).isSome then c else c+1))::(H1++Ht))++((sp,cl F0 97)::Hx)) ?_
   exact F.f1 ⟨_,by rw [e],hkp v1 H1 h1,rfl⟩
end
end Go.Proofs.YtmceanmblcadcaaGreat
