/- Bytes: padded, mixed, read as numbers, in rows. -/
import Derived.Test.YtnhnpjokpelkbaaGreatPp14
set_option linter.unusedVariables false
set_option linter.unusedSimpArgs false
set_option linter.unusedSectionVars false
set_option maxHeartbeats 8000000
namespace Go.Proofs.YtnhnpjokpelkbaaGreat
open Go Go.Proofs.Tryz
section
section
variable {P:Program}{C:Ctx}{Q:Exit→Fr→Hp→Prop}{ρ:Fr}{H H':Hp}{L rest:List Oper}{d:Option Tmp}{ty:TypeId}{pos:String}{af:Array Edge}{g:Option (Nat×Bool)}{d':Option Nat}{x y z:Operand}{o:Oper}
theorem aKg{t e n len cap l h:Nat}{lo hi:Option Operand}{a:Option Addr}{k kk:IntKind}{m q:Int} [cI P t e n] [i0:eI m l] [i1:eI q h](ho:o.op=.slice t x (some y) (some z) none)(hx:ev ρ x=some (.slice a len cap))(hy:ev ρ y=some (.int k m))(hz:ev ρ z=some (.int kk q))(h1:l≤h)(h2:h≤cap):Pu P C ρ H o (.slice (lR a cap l n) (h-l) (cap-l)):=
 oW (vl:=none) (vh:=none) ho hx (.inr ⟨y,k,m,rfl,hy,i0.ok⟩) (.inr ⟨z,kk,q,rfl,hz,i1.ok⟩) h1 h2
theorem aPn{t e n len cap l:Nat}{a:Option Addr}{k:IntKind}{m:Int} [cI P t e n] [i0:eI m l](ho:o.op=.slice t x (some y) none none)(hx:ev ρ x=some (.slice a len cap))(hy:ev ρ y=some (.int k m))(h1:l≤len)(h2:len≤cap):Pu P C ρ H o (.slice (lR a cap l n) (len-l) (cap-l)):=
 oW (vl:=none) (vh:=none) ho hx (.inr ⟨y,k,m,rfl,hy,i0.ok⟩) (.inl ⟨rfl,rfl⟩) h1 h2
theorem aPp{t e n len cap h:Nat}{a:Option Addr}{k:IntKind}{m:Int} [cI P t e n] [i0:eI m h](ho:o.op=.slice t x none (some y) none)(hx:ev ρ x=some (.slice a len cap))(hy:ev ρ y=some (.int k m))(h2:h≤cap):Pu P C ρ H o (.slice (lR a cap 0 n) h cap):=
 oW (vl:=none) (vh:=none) ho hx (.inl ⟨rfl,rfl⟩) (.inr ⟨y,k,m,rfl,hy,i0.ok⟩) (Nat.zero_le _) h2
theorem aPo{t e n len cap h:Nat}{a:Option Addr}{k kk:IntKind}{m q:Int} [ht:cI P t e n] [i0:eI m h] [i1:eI q h](ho:o.op=.slice t x none (some y) (some z))(hx:ev ρ x=some (.slice a len cap))(hy:ev ρ y=some (.int k m))(hz:ev ρ z=some (.int kk q))(h2:h≤cap):Pu P C ρ H o (.slice (lR a h 0 n) h h):=fun ac w hf _=>by
 unfold execOp;rw [ho]
 have e0:=i0.ok
 have e1:=i1.ok
 subst e0 e1
 simp [hf.eval hx,hf.eval hy,hf.eval hz,Instr.sliceAt,run_underlying ht.ok,Instr.slice,Instr.sliceBounds,Instr.sliceBound,asIntOf,h2,eQ ht.size,lR]
end
attribute [local irreducible] SW SL SQ SH SA SS Pu Fin bT aQ
section
variable {P:Program}{C:Ctx}{Q:Exit→Fr→Hp→Prop}{ρ:Fr}{H H':Hp}{L rest:List Oper}{d:Option Tmp}{ty:TypeId}{pos:String}{af:Array Edge}{g:Option (Nat×Bool)}{d':Option Nat}{x y z:Operand}{o:Oper}
theorem W.s3{t e n len cap h:Nat}{a:Option Addr}{k kk:IntKind}{m q:Int} [ht:cI P t e n](hk:SL P C L Q rest (pt ρ d' (.slice (lR a h 0 n) h h)) H)(hx:ev ρ x=some (.slice a len cap):=by exact rfl)(hy:ev ρ y=some (.int k m):=by exact rfl)(hz:ev ρ z=some (.int kk q):=by exact rfl)(i0:eI m h:=by infer_instance)(i1:eI q h:=by infer_instance)(h2:h≤cap:=by omega)(hg:gd L ρ ⟨d,.slice t x none (some y) (some z),ty,pos,af,g⟩=some true:=by exact rfl)(hd:dk C.n d=some d':=by exact rfl):SL P C L Q (⟨d,.slice t x none (some y) (some z),ty,pos,af,g⟩::rest) ρ H:=bP (aPo rfl hx hy hz h2) hg hd hk
theorem W.sF{t e n len cap l:Nat}{a:Option Addr}{k:IntKind}{m:Int} [ht:cI P t e n](hk:SL P C L Q rest (pt ρ d' (.slice (lR a cap l n) (len-l) (cap-l))) H)(hx:ev ρ x=some (.slice a len cap):=by exact rfl)(hy:ev ρ y=some (.int k m):=by exact rfl)(i0:eI m l:=by infer_instance)(h1:l≤len:=by omega)(h2:len≤cap:=by omega)(hg:gd L ρ ⟨d,.slice t x (some y) none none,ty,pos,af,g⟩=some true:=by exact rfl)(hd:dk C.n d=some d':=by exact rfl):SL P C L Q (⟨d,.slice t x (some y) none none,ty,pos,af,g⟩::rest) ρ H:=bP (aPn rfl hx hy h1 h2) hg hd hk
theorem W.sT{t e n len cap h:Nat}{a:Option Addr}{k:IntKind}{m:Int} [ht:cI P t e n](hk:SL P C L Q rest (pt ρ d' (.slice (lR a cap 0 n) h cap)) H)(hx:ev ρ x=some (.slice a len cap):=by exact rfl)(hy:ev ρ y=some (.int k m):=by exact rfl)(i0:eI m h:=by infer_instance)(h2:h≤cap:=by omega)(hg:gd L ρ ⟨d,.slice t x none (some y) none,ty,pos,af,g⟩=some true:=by exact rfl)(hd:dk C.n d=some d':=by exact rfl):SL P C L Q (⟨d,.slice t x none (some y) none,ty,pos,af,g⟩::rest) ρ H:=bP (aPp rfl hx hy h2) hg hd hk
theorem W.sG{t e n len cap l h:Nat}{a:Option Addr}{k kk:IntKind}{m q:Int} [ht:cI P t e n](hk:SL P C L Q rest (pt ρ d' (.slice (lR a cap l n) (h-l) (cap-l))) H)(hx:ev ρ x=some (.slice a len cap):=by exact rfl)(hy:ev ρ y=some (.int k m):=by exact rfl)(hz:ev ρ z=some (.int kk q):=by exact rfl)(i0:eI m l:=by infer_instance)(i1:eI q h:=by infer_instance)(h1:l≤h:=by omega)(h2:h≤cap:=by omega)(hg:gd L ρ ⟨d,.slice t x (some y) (some z) none,ty,pos,af,g⟩=some true:=by exact rfl)(hd:dk C.n d=some d':=by exact rfl):SL P C L Q (⟨d,.slice t x (some y) (some z) none,ty,pos,af,g⟩::rest) ρ H:=bP (aKg rfl hx hy hz h1 h2 (lo:=none) (hi:=none)) hg hd hk
theorem aMD{t e n b j len cap m:Nat} [ht:kZ P t m e n](hk:SL P C L Q rest (pt ρ d' (.pointer (some ⟨b,j,none⟩))) H)(hx:ev ρ x=some (.slice (some ⟨b,j,none⟩) len cap):=by exact rfl)(h1:m≤len:=by omega)(hg:gd L ρ ⟨d,.sliceToArrayPointer t x,ty,pos,af,g⟩=some true:=by exact rfl)(hd:dk C.n d=some d':=by exact rfl):SL P C L Q (⟨d,.sliceToArrayPointer t x,ty,pos,af,g⟩::rest) ρ H:=bP (aMM rfl hx h1) hg hd hk
end
theorem RdH.cut{H:Hp}{a:Option Addr}{len cap:Nat}{bs:List UInt8}(h:RdH H (.slice a len cap) bs)(c l q cap':Nat)(hl:l≤q)(hq:q≤len)(hc:q-l≤cap')(hcl:c=l→q=l):RdH H (.slice (lR a c l 1) (q-l) cap') ((bs.drop l).take (q-l)):=by
 obtain⟨a',len',cap'',he,h2,h3,h4⟩:=h
 cases he
 refine⟨_,_,_,rfl,by rw [aG,bG];omega,hc,?_⟩
 by_cases h0:q-l=0
 ·exact .inl h0
 ·rcases h4 with h4|⟨b,o,cs,T,fz,rfl,hm,hy⟩
  ·omega
  ·refine .inr ⟨b,o+l,cs,T,fz,?_,hm,?_⟩
   ·unfold lR
    rw [if_neg (fun e=>h0 (by rw [hcl e];omega))]
    simp [Addr.add]
   ·have e:(cs.drop (o+l)).take (q-l)=(((cs.drop o).take len).drop l).take (q-l):=by
     rw [jW,fP,cJ,cR oQ]
    rw [e,hy]
    simp [iJ,iB]
theorem RdH.len{H:Hp}{a:Option Addr}{len cap:Nat}{bs:List UInt8}(h:RdH H (.slice a len cap) bs):bs.length=len∧len≤cap:=by
 obtain⟨a',len',cap'',he,h2,h3,h4⟩:=h
 cases he
 exact⟨h2,h3⟩
theorem aA9{l:List Value}{o len:Nat}{xs:List UInt8}{i:Nat}{c:UInt8}(hy:(l.drop o).take (len*1)=cbs xs)(hi:xs[i]?=some c):l[o+i]?=some (.int .u8 (c.toNat:Int)):=by
 have h1:i<len*1:=by
  have:=congrArg List.length hy
  have h2:=(aE.1 hi).1
  rw [aG,aI] at this;omega
 have h2:((l.drop o).take (len*1))[i]?=(cbs xs)[i]?:=by rw [hy]
 rw [bE,if_pos h1,bI] at h2
 rw [h2,aJ,hi];rfl
abbrev ptv(b:Nat):Value:=.pointer (some ⟨b,0,none⟩)
def pad(n:Nat)(b:List UInt8):List UInt8:=(b++List.replicate n 0).take n
theorem aBM(n:Nat)(b:List UInt8):(pad n b).length=n:=by unfold pad;rw [aG,aB,aS];omega
theorem aDu{n:Nat}{b:List UInt8}(h:b.length≤n):pad n b=b++List.replicate (n-b.length) 0:=by
 unfold pad
 rw [iG,aK h,List.take_replicate,cR oQ]
def qZ(b:List UInt8):Nat:=b.foldr (fun c v=>v*256+c.toNat) 0
def jU(b:List UInt8):Nat:=qZ (b.take 8)
theorem aAe(b:List UInt8):qZ b<256^b.length:=by
 unfold qZ
 induction b with
 | nil=>simp
 | cons c r ih=>
  have:=c.toNat_lt
  simp only [List.foldr_cons,aX,fE]
  omega
theorem aGv(b:List UInt8)(c:UInt8):qZ (b++[c])=qZ b+c.toNat*256^b.length:=by
 unfold qZ
 induction b with
 | nil=>simp
 | cons x r ih=>
  simp only [eE,List.foldr_cons,aX,fE,ih,Nat.add_mul]
  rw [← pR];omega
theorem aHm(b:List UInt8):jU b<18446744073709551616:=by
 have h:=aAe (b.take 8)
 have h2:256^(b.take 8).length≤256^8:=dE dQ (by rw [aG];omega)
 unfold jU
 omega
theorem aD7{b:List UInt8}(h:b.length≤2):jU b<65536:=by
 have h1:=aAe (b.take 8)
 have h2:256^(b.take 8).length≤256^2:=dE dQ (by rw [aG];omega)
 unfold jU
 omega
def yZ(b:List UInt8):UInt64:=UInt64.ofNat (jU b)
theorem aAf(b:List UInt8):(yZ b).toNat=jU b:=by
 unfold yZ;rw [aW];exact dO (aHm b)
def aBA(x y:List UInt8):List UInt8:=List.zipWith (· ^^^ ·) x y
theorem aF7(x y:List UInt8):(aBA x y).length=min x.length y.length:=by unfold aBA;simp
theorem aOY(va vb:Value)(x y:List UInt8)(hx:x.length≤1099511627776):Tri prog 147 [va,vb] [] (fun w=>Rd [] w 1 va (cbs x)∧Rd [] w 1 vb (cbs y))
  (fun v H=>∃ b,v=.slice (some ⟨b,0,none⟩) (min x.length y.length) (min x.length y.length)∧H=[(b,cl (cbs (aBA x y)) 5)]):=by
 refine Tri.mk func147 rfl ntmps147 rfl fun w hw=>?_
 obtain⟨h1,h2⟩:=hw
 obtain⟨a,la,ca,rfl,hl1,hc1,hr1⟩:=h1.get
 obtain⟨b,lb,cb,rfl,hl2,hc2,hr2⟩:=h2.get
 rw [aI,Nat.mul_one] at hl1 hl2
 subst hl1 hl2
 haveI i1:eI (min (x.length:Int) (y.length:Int)) (min x.length y.length):=⟨by omega⟩
 have hmin:min x.length y.length≤x.length∧min x.length y.length≤y.length:=⟨Nat.min_le_left ..,Nat.min_le_right ..⟩
 have hxl:=aF7 x y
 rw [← hxl] at hmin
 refine W.j fun b_=>?_
 generalize hn:min x.length y.length=n at *
 have hg:∀ k,(cbs (oS (fun i=>x.getD i 0 ^^^ y.getD i 0) n k)).length=(oS (fun i=>x.getD i 0 ^^^ y.getD i 0) n k).length:=fun k=>aI _
 rw [show zs [.int .u8 0] n=cbs (oS (fun i=>x.getD i 0 ^^^ y.getD i 0) n 0) by rw [lH];simp [oS]]
 refine SW.cut [5] [b_] (fun _:Unit=>[]) (fun _=>[(b_,cl (cbs (oS (fun i=>x.getD i 0 ^^^ y.getD i 0) n n)) 5)]) (fun _=>True) ?_ ?_
 ·refine W.k ?_
  refine cK [0,1,5,14] [b_] (fun k:Nat=>[(15,.int .i64 (k:Int))]) (fun k=>[(b_,cl (cbs (oS (fun i=>x.getD i 0 ^^^ y.getD i 0) n k)) 5)]) (fun k=>n-k) (fun k=>k≤n) 0 oQ ?_
  intro k hk
  by_cases hkn:k<n
  ·have hlen:k<(cbs (oS (fun i=>x.getD i 0 ^^^ y.getD i 0) n k)).length:=by rw [aD,aDm _ hk];exact hkn
   obtain⟨b1,o1,l1,T1,z1,rfl,hb1,hk1,hy1⟩:=hr1 oQ
   obtain⟨b2,o2,l2,T2,z2,rfl,hb2,hk2,hy2⟩:=hr2 oQ
   have g1:=aA9 hy1 (aA (show k<x.length by omega))
   have g2:=aA9 hy2 (aA (show k<y.length by omega))
   have gx:x.getD k 0=x[k]'oQ:=by rw [aC,aA (show k<x.length by omega)];rfl
   have gy:y.getD k 0=y[k]'oQ:=by rw [aC,aA (show k<y.length by omega)];rfl
   have hfs:=aDn (fun i=>x.getD i 0 ^^^ y.getD i 0) hkn
   rw [gx,gy] at hfs
   refine W.k ?_
   (refine SW.l [12] [0,1,2,3,4,5,6,7,8,9,10,11] ?_;refine bO 12 ?_;refine W.i ?_;refine SS.dn ?_)
   rw [hfs]
   refine W.k ?_
   refine aQ.mk (k+1) ?_
   omega
  ·have:k=n:=oQ
   subst this
   refine W.k ?_
   refine bT.mk () ?_
   trivial
 rintro _ -
 refine W.k ?_
 rw [aDl]
 have e:(List.range n).map (fun i=>x.getD i 0 ^^^ y.getD i 0)=aBA x y:=by
  apply cB
  intro i
  unfold aBA
  rw [aJ,eK]
  by_cases h:i<n
  ·rw [eN h,aA (show i<x.length by omega),aA (show i<y.length by omega)]
   simp [aC,aA (show i<x.length by omega),aA (show i<y.length by omega)]
  ·rw [bB (by simp;omega)]
   by_cases h2:i<x.length
   ·rw [bB (show y.length≤i by omega)];cases x[i]? <;> rfl
   ·rw [bB (show x.length≤i by omega)];rfl
 rw [e]
 refine Fin.to [(b_,cl (cbs (aBA x y)) 5)] ?_
 refine F.f1 ?_
 exact⟨b_,rfl,rfl⟩
theorem aDP(v:Value)(x:List UInt8)(n:Nat)(h1:1≤n)(hn:n≤65536)(hx:x.length≤n):Tri prog 163 [v,.int .i64 (n:Int)] [] (fun w=>Rd [] w 1 v (cbs x)) (fun r H=>∃ b,r=.slice (some ⟨b,0,none⟩) n n∧H=[(b,cl (cbs (pad n x)) 5)]):=by
 refine Tri.mk func163 rfl ntmps163 rfl fun w hw=>?_
 obtain⟨a,la,ca,rfl,hl1,hc1,hr1⟩:=hw.get
 rw [aI,Nat.mul_one] at hl1
 subst hl1
 have hfit:0+(cbs x).length≤(zs [Value.int .u8 0] n).length:=by rw [lH,aS,aI];omega
 refine W.k fun b_=>?_
 refine W.cy (fun w2 hs=>hw.srcAt hs) ?_
 have e:(zs [Value.int .u8 0] n).take 0++cbs x++(zs [Value.int .u8 0] n).drop (0+(cbs x).length)=cbs (pad n x):=by
  rw [aDu hx,lH,aI,List.drop_replicate,fX,jB]
  simp
 rw [e]
 refine W.k ?_
 refine Fin.to [(b_,cl (cbs (pad n x)) 5)] ?_
 refine F.f1 ?_
 exact⟨b_,rfl,rfl⟩
theorem aOF(v:Value)(x:List UInt8):Tri prog 289 [v] [] (fun w=>Rd [] w 1 v (cbs x)) (fun r H=>r=.int .u64 (jU x:Nat)∧H=[]):=by
 refine Tri.mk func289 rfl ntmps289 rfl fun w hw=>?_
 obtain⟨a,la,ca,rfl,hl1,hc1,hr1⟩:=hw.get
 rw [aI,Nat.mul_one] at hl1
 subst hl1
 refine W.j ?_
 refine SW.cut [] [] (fun _:Unit=>[(3,.int .u64 (jU x:Nat))]) (fun _=>[]) (fun _=>True) ?_ ?_
 ·refine W.k ?_
  refine bF [6,7] (fun k:Nat=>[(3,.int .u64 (jU (x.take k):Nat)),(8,.int .i64 (k:Int))]) (fun _=>[]) (fun k=>x.length-k) (fun k=>k≤x.length∧k≤8) 0 ⟨Nat.zero_le _,Nat.zero_le _⟩ ?_
  rintro k ⟨hk,hk8⟩
  by_cases hkn:k<x.length
  ·obtain⟨b1,o1,l1,T1,z1,rfl,hb1,hk1,hy1⟩:=hr1 oQ
   have g1:=aA9 hy1 (aA hkn)
   generalize hc:x[k]'hkn=c at *
   by_cases h8:k=8
   ·subst h8
    have e:jU (x.take 8)=jU x:=by unfold jU;rw [fP,iN]
    rw [e]
    refine W.k ?_
    refine bT.mk () ?_
    trivial
   ·have e0:(x.take k).length=k:=by rw [aG];omega
    have e1:jU (x.take k)=qZ (x.take k):=by unfold jU;rw [fP,Nat.min_eq_right oQ]
    have e2:jU (x.take (k+1))=qZ (x.take k)+c.toNat*256^k:=by
     unfold jU
     rw [fP,Nat.min_eq_right oQ,aZ,aA hkn,hc,dJ,aGv,e0]
    have hlt:=aAe (x.take k)
    rw [e0] at hlt
    have hlt2:=aHm (x.take (k+1))
    rw [e1]
    generalize qZ (x.take k)=F at *
    have hF:F<18446744073709551616:=by have:=c.toNat_lt;rw [e2] at hlt2;omega
    haveI i1:U64 (F:Int) (UInt64.ofNat F):=⟨by rw [aW];omega⟩
    haveI i2:aH1 (8*(k:Int)) (UInt64.ofNat (8*k)):=⟨by rw [aW];omega,by rw [aW];omega⟩
    have e3:(UInt64.ofNat F ||| c.toUInt64 <<< UInt64.ofNat (8*k)).toNat=jU (x.take (k+1)):=by
     have hp:256^k=2^(8*k):=by rw [Nat.pow_mul]
     have h8k:(UInt64.ofNat (8*k)).toNat=8*k:=by rw [aW];omega
     rw [e2,UInt64.toNat_or,UInt64.toNat_shiftLeft,h8k,qB,aW,dO hF,dO (show 8*k<64 by omega)]
     rw [hp] at hlt ⊢
     have hc2:c.toNat <<< (8*k)<2^64:=by
      rw [jT]
      rw [e2,hp] at hlt2
      omega
     rw [dO hc2,Nat.or_comm,← Nat.shiftLeft_add_eq_or_of_lt hlt,jT]
     omega
    refine W.k ?_
    rw [e3]
    refine aQ.mk (k+1) ?_
    omega
  ·have hk2:k=x.length:=oQ
   have e:jU (x.take k)=jU x:=by rw [hk2,bN]
   rw [e]
   refine W.k ?_
   refine bT.mk () ?_
   trivial
 rintro _ -
 refine W.k ?_
 exact F.n
def aEL(p:Nat)(bs:List UInt8)(H:Hp):Prop:=∃ v Ht,H=(p,cl [v,.int .i64 0] 403)::Ht∧RdH Ht v bs
theorem aOJ(v:Value)(x:List UInt8)(hx:x.length≤1099511627776):Tri prog 279 [v] [] (fun w=>Rd [] w 1 v (cbs x)) (fun r H=>∃ p,r=.pointer (some ⟨p,0,none⟩)∧aEL p x H):=by
 refine Tri.mk func279 rfl ntmps279 rfl fun w hw=>?_
 obtain⟨a,la,ca,rfl,hl1,hc1,hr1⟩:=hw.get
 refine W.k ?_
 refine aF (wZ _ x hx) ?_ (hpre:=fun w2 hs=>hw.ro (Hc:=[]) hs)
 intro v1 H1 h1
 have h11:=h1.isOne
 obtain⟨a1,l1,c1,rfl,hl1⟩:=h1.form
 have hb:bX (fun i=>[(0,1),(1,1)][i]?) [.slice none 0 0,.int .i64 0] [(0,.slice a1 l1 c1)]=some [.slice a1 l1 c1,.int .i64 0]:=rfl
 refine W.k fun b_=>?_
 refine Fin.to ((b_,cl [.slice a1 l1 c1,.int .i64 0] 403)::H1) ?_
 exact F.f1 ⟨b_,rfl,_,H1,rfl,RdH.of h1⟩
theorem aJY{p:Nat}{bs:List UInt8}{H:Hp}(hR:aEL p bs H)(n:Nat)(hn:n≤bs.length)(hb:bs.length≤1099511627776):Tri prog 290 [.pointer (some ⟨p,0,none⟩),.int .i64 (n:Int)] H (fun _=>True)
  (fun r H'=>∃ v Ht,H'=(p,cl [v,.int .i64 0] 403)::Ht∧RdH Ht v (bs.drop n)∧RdH Ht r (bs.take n)):=by
 obtain⟨v,Ht,rfl,hv⟩:=hR
 have hv2:=hv
 obtain⟨a,len,cap,rfl,-⟩:=hv2
 obtain⟨hl,hc⟩:=hv.len
 subst hl
 refine Tri.mk func290 rfl ntmps290 rfl fun w hw=>?_
 refine W.k ?_
 refine W.s3 ?_
 have c1:=hv.cut n 0 n n (Nat.zero_le _) hn oQ oQ
 refine W.k ?_
 refine W.sF ?_
 have c2:=hv.cut cap n bs.length (cap-n) hn (Nat.le_refl _) oQ oQ
 rw [aK (by simp)] at c2
 rw [bR,iZ] at c1
 have o1:=c1.one
 have o2:=c2.one
 refine W.k ?_
 exact F.f1 ⟨_,Ht,rfl,c2,c1⟩
theorem aG3{p:Nat}{bs:List UInt8}{H:Hp}(hR:aEL p bs H)(n:Nat)(h1:1≤n)(h8:n≤8)(hn:n≤bs.length)(hb:bs.length≤1099511627776):Tri prog 280 [.pointer (some ⟨p,0,none⟩),.int .i64 (n:Int)] H (fun _=>True)
  (fun r H'=>r=.int .u64 (jU (bs.take n):Nat)∧aEL p (bs.drop n) H'):=by
 refine Tri.mk func280 rfl ntmps280 rfl fun w hw=>?_
 have hnx:=aJY hR n hn hb
 refine W.k ?_
 refine aF hnx ?_
 rintro u H1 ⟨v,Ht,rfl,hv,hu⟩
 have hu1:=hu.one
 refine W.k ?_
 refine W.cw (aOF u (bs.take n)) ?_ (hpre:=fun w2 hs=>hu.rd (Hc:=[]) hs)
 refine Fin.to ((p,cl [v,.int .i64 0] 403)::Ht) ?_
 exact F.f1 ⟨rfl,v,Ht,rfl,hv⟩
theorem aK0{p:Nat}{bs:List UInt8}{H:Hp}(hR:aEL p bs H)(n:Nat)(hn:n≤bs.length)(hb:bs.length≤1099511627776):Tri prog 282 [.pointer (some ⟨p,0,none⟩),.int .i64 (n:Int)] H (fun _=>True)
  (fun r H'=>∃ H1 Ht,aEL p (bs.drop n) H1∧Sl 5 1 r (cbs (bs.take n)) Ht∧H'=H1++Ht):=by
 refine Tri.mk func282 rfl ntmps282 rfl fun w hw=>?_
 have hnx:=aJY hR n hn hb
 refine W.k ?_
 refine aF hnx ?_
 rintro u H1 ⟨v,Ht,rfl,hv,hu⟩
 have hu1:=hu.one
 refine W.k ?_
 refine aF (wZ u (bs.take n) (by rw [aG];omega)) ?_ (hpre:=fun w2 hs=>hu.rd (Hc:=[]) hs)
 intro v2 H2 h2
 have h21:=h2.isOne
 refine W.k ?_
 refine Fin.to (((p,cl [v,.int .i64 0] 403)::Ht)++H2) ?_
 exact F.f1 ⟨_,H2,⟨v,Ht,rfl,hv⟩,h2,rfl⟩
end
section
theorem aFV{P:Program}{w:World}{K:List Nat}{w0:World}{H:Hp}{t t2 e n bytes m len cap:Nat}{ty:TypeId}{a:Option Addr}{sv:Value}{xs ys z:List Value} [ht:cI P t e n] [hb:fV P e bytes] [hz:cN P e z] [h2:pJ P t2]
  (hzn:z.length=n) (hv:eU P w (.slice a len cap) n len xs) (hx:xs.length=len*n) (hs:St K w0 H w) (hsrc:eU P w sv n m ys) (hys:ys.length=m*n) (hn:0<n) (hbytes:(xs.length+ys.length)*bytes≤140737488355328*n) (hb1:1≤bytes) (hg:cap<len+m) :
  ∃ v' w' Hs',(Builtin.append_ #[t,t2] ty #[.slice a len cap,sv]).run P w=.ok v' w'∧Sl e n v' (xs++ys) Hs'∧St K w0 (Hs'++H) w':=by
 obtain⟨i,hi,hisz⟩:=tS ht.size
 have hby:i.bytes=bytes:=by have:=hb.ok;simpa [hi] using this
 obtain⟨zv,hzv,hzc⟩:=hz.ok
 have hzi:i.zero=some zv:=by simpa [hi] using hzv
 have hzl:zv.cells.size=n:=by rw [hzc];simpa using hzn
 have hl1:=(hsrc w rfl).1
 subst hisz hby
 have hmb:(len+m)*i.bytes≤140737488355328:=by
  refine xL hn ?_
  rw [hx,hys,← Nat.add_mul] at hbytes
  exact hbytes
 have hm63:len+m≤9223372036854775807:=by
  have:(len+m)*1≤(len+m)*i.bytes:=iP _ hb1
  omega
 have hrun:=oZ (P:=P) (w:=w) (ty:=ty) (sLen:=len) (sCap:=cap) (base:=a) (xs:=xs) ht.ok hi hzi h2 hl1 (hv w.drew rfl).2 (hsrc w.drew rfl).2 hg hmb hm63
 refine⟨_,_,[(w.heap.size,_)],hrun,?_,hs.drew.alloc _⟩
 have hge:=grownCap_ge w (len+m) cap e
 exact .inr ⟨w.heap.size,len+m,grownCap w (len+m) cap e,(Builtin.zeroCells zv.cells (grownCap w (len+m) cap e-(len+m))).toList,rfl,by rw [aB,hx,hys,Nat.add_mul],by rw [gW,size_zeroCells,hzl,← Nat.add_mul];congr 1;omega,hge,rfl⟩
section
variable {P:Program}{C:Ctx}{Q:Exit→Fr→Hp→Prop}{ρ:Fr}{H:Hp}{L rest:List Oper}{d:Option Tmp}{ty:TypeId}{pos:String}{af:Array Edge}{g:Option (Nat×Bool)}{t t2 e n:Nat}{d':Option Nat}{x y:Operand}{a:Option Addr}{len cap:Nat}{sv:Value}
theorem aMz{bytes mm:Nat}{xs ys zv:List Value} [ht:cI P t e n] [fV P e bytes] [cN P e zv] [pJ P t2](hv:∀ w,St C.K C.w0 H w→eU P w (.slice a len cap) n len xs)(hsrc:∀ w,St C.K C.w0 H w→eU P w sv n mm ys)(hk:∀ v' Hs',Sl e n v' (xs++ys) Hs'→SL P C L Q rest (pt ρ d' v') (Hs'++H))(hx:ev ρ x=some (.slice a len cap):=by exact rfl)(hy:ev ρ y=some sv:=by exact rfl)(hxs:xs.length=len*n:=by first|assumption|omega)(hys:ys.length=mm*n:=by first|assumption|omega)(hc:cap<len+mm:=by omega)(hzn:zv.length=n:=by exact rfl)(hn:0<n:=by decide)(hb1:1≤bytes:=by decide)(hbytes:(xs.length+ys.length)*bytes≤140737488355328*n:=by omega)
  (hg:gd L ρ ⟨d,.call { callee:=.builtin .append,args:=#[x,y],argTypes:=#[t,t2] },ty,pos,af,g⟩=some true:=by exact rfl) (hd:dk C.n d=some d':=by exact rfl):SL P C L Q (⟨d,.call { callee:=.builtin .append,args:=#[x,y],argTypes:=#[t,t2] },ty,pos,af,g⟩::rest) ρ H:=
 nH hg hd fun ac w hf hs=>by
  obtain⟨v',w',Hs',hrun,hv',hst⟩:=aFV (P:=P) (t:=t) (t2:=t2) (ty:=ty) hzn (hv w hs) hxs hs (hsrc w hs) hys hn hbytes hb1 hc
  exact⟨v',w',Hs'++H,.inl (by unfold execOp;simp [resolve,invoke,builtin,hf.eval hx,hf.eval hy,hrun]),hst,hk v' Hs' hv'⟩
end
attribute [local irreducible] SW SL SQ SH SA SS Pu Fin bT aQ
theorem aN2(n:Nat)(x:List UInt8){i:Nat}(h:i<n):(pad n x)[i]?=some (x.getD i 0):=by
 unfold pad
 rw [bE,if_pos h,aC]
 by_cases hx:i<x.length
 ·rw [aL hx,aA hx];rfl
 ·rw [aY oQ,bB (show x.length≤i by omega),nZ,if_pos oQ];rfl
theorem aKr(v:Value)(x:List UInt8)(n:Nat)(hn:n≤65536):Tri prog 230 [v,.int .i64 (n:Int)] [] (fun w=>Rd [] w 1 v (cbs x)) (fun r H=>Sl 5 1 r (cbs (pad n x)) H):=by
 refine Tri.mk func230 rfl ntmps230 rfl fun w hw=>?_
 obtain⟨a,la,ca,rfl,hl1,hc1,hr1⟩:=hw.get
 rw [aI,Nat.mul_one] at hl1
 subst hl1
 have hY:One (Value.slice a x.length ca):=⟨rfl⟩
 have hpl:=aBM n x
 refine W.j ?_
 refine bQ [] [] (fun x:Value×Hp=>[(5,x.1)]) (fun x=>x.2) (fun y=>Sl 5 1 y.1 (cbs (pad n x)) y.2) ?_ ?_
 ·refine W.k ?_
  refine bF [0,1] (fun x:Nat×Value×Hp=>[(5,x.2.1),(6,.int .i64 (x.1:Int))]) (fun x=>x.2.2) (fun x=>n-x.1) (fun y=>y.1≤n∧Sl 5 1 y.2.1 (cbs ((pad n x).take y.1)) y.2.2) (0,.slice none 0 0,[]) ⟨Nat.zero_le _,Sl.nil _ _⟩ ?_
  rintro⟨j,v2,H2⟩ ⟨hj,h2⟩
  dsimp only at hj h2 ⊢
  have h21:=h2.isOne
  by_cases hjn:j<n
  ·have hts:(pad n x).take (j+1)=(pad n x).take j++[x.getD j 0]:=by rw [aZ,aN2 n x hjn];rfl
   have htl:((pad n x).take j).length=j:=by rw [aG];omega
   have hb1:∀ c:UInt8,bX (fun i=>some (i*1,1)) (zs [.int .u8 0] 1) [(0,.int .u8 (c.toNat:Int))]=some (cbs [c]):=fun c=>rfl
   by_cases hjx:j<x.length
   case' pos=>
    obtain⟨b1,o1,l1,T1,z1,rfl,hbb,hk1,hy1⟩:=hr1 oQ
    have g1:=aA9 hy1 (aA hjx)
    have gx:x.getD j 0=x[j]:=by rw [aC,aA hjx];rfl
    rw [← gx] at g1
   case' neg=>
    have gx:x.getD j 0=0:=by rw [aC,bB oQ];rfl
    have hb0:bX (fun i=>some (i*1,1)) (zs [.int .u8 0] 1) [(0,.int .u8 0)]=some (cbs [x.getD j 0]):=by rw [gx];rfl
   all_goals
    generalize x.getD j 0=c at *
    have hbc:=hb1 c
    clear hb1
    refine W.k fun b_=>?_
    refine W.ap h2 (ys:=cbs [c]) (mm:=1) (fun w2 hs=>(Sl.own 5 1 b_ (xs:=cbs [c]) rfl).srcAt hs inferInstance) (fun v3 H3 h3=>?_) (hys:=rfl) (hbytes:=by rw [aI,htl,aI];simp only [aX,List.length_nil];omega)
    have h31:=h3.isOne
    rw [← jB,← hts] at h3
    refine W.k ?_
    refine aQ.mk (j+1,v3,H3) ?_
    exact⟨hjn,h3⟩
  ·have:j=n:=oQ
   subst this
   rw [aK oQ] at h2
   refine W.k ?_
   refine bT.mk (v2,H2) ?_
   exact h2
 rintro⟨v2,H2⟩ h2
 dsimp only at h2 ⊢
 have h21:=h2.isOne
 refine W.k ?_
 refine Fin.to H2 ?_
 exact F.f1 h2
theorem aEn(v:Value)(x:List UInt8)(hx:x.length≤8):Tri prog 264 [v] [] (fun w=>Rd [] w 1 v (cbs x)) (fun r H=>r=.int .u64 (jU x:Nat)∧H=[]):=by
 refine Tri.mk func264 rfl ntmps264 rfl fun w hw=>?_
 obtain⟨a,la,ca,rfl,hl1,hc1,hr1⟩:=hw.get
 rw [aI,Nat.mul_one] at hl1
 subst hl1
 have hY:One (Value.slice a x.length ca):=⟨rfl⟩
 rw [show jU x=qZ (x.drop 0) by unfold jU;rw [aK hx,bR]]
 refine W.j ?_
 refine SW.cut [] [] (fun _:Unit=>[(3,.int .u64 (qZ (x.drop 0):Nat))]) (fun _=>[]) (fun _=>True) ?_ ?_
 ·refine W.k ?_
  refine bF [0] (fun k:Nat=>[(3,.int .u64 (qZ (x.drop (x.length-k)):Nat)),(4,.int .i64 ((x.length:Int)-1-k))]) (fun _=>[]) (fun k=>x.length-k) (fun k=>k≤x.length) 0 (Nat.zero_le _) ?_ (hr:=by rw [iZ,tI,Int.natCast_zero,Int.sub_zero];exact⟨rfl,rfl,trivial⟩)
  intro k hk
  by_cases hkn:k<x.length
  ·obtain⟨b1,o1,l1,T1,z1,rfl,hbb,hk1,hy1⟩:=hr1 oQ
   have hj:x.length-k-1<x.length:=oQ
   have g1:=aA9 hy1 (aA hj)
   haveI i0:eI ((x.length:Int)-1-k) (x.length-k-1):=⟨by omega⟩
   have hdr:x.drop (x.length-(k+1))=x[x.length-k-1]::x.drop (x.length-k):=by
    rw [show x.length-(k+1)=x.length-k-1 by omega,bL hj,show x.length-k-1+1=x.length-k by omega]
   have hf:=aAe (x.drop (x.length-(k+1)))
   have hp:256^(x.drop (x.length-(k+1))).length≤256^8:=dE dQ (by rw [bG];omega)
   have hfs:qZ (x.drop (x.length-(k+1)))=qZ (x.drop (x.length-k))*256+(x[x.length-k-1]).toNat:=by rw [hdr];rfl
   rw [hfs] at hf
   generalize x[x.length-k-1]=c at *
   generalize qZ (x.drop (x.length-k))=F at *
   have hc:=c.toNat_lt
   have hF:F*256+c.toNat<18446744073709551616:=oQ
   haveI i1:U64 (F:Int) (UInt64.ofNat F):=⟨by rw [aW];omega⟩
   have e3:(UInt64.ofNat F*256+c.toUInt64).toNat=qZ (x.drop (x.length-(k+1))):=by
    rw [hfs,gT,pM,qB,aW,dO (show F<2^64 by omega),show (256:UInt64).toNat=256 from rfl]
    omega
   refine W.k ?_
   rw [e3,show (x.length:Int)-1-k-1=(x.length:Int)-1-((k+1:Nat):Int) by omega]
   refine aQ.mk (k+1) ?_
   omega
  ·have:k=x.length:=oQ
   subst this
   rw [dW]
   refine W.k ?_
   refine bT.mk () ?_
   trivial
 rintro _ -
 refine W.k ?_
 exact F.n
end
section
attribute [local irreducible] SW SL SQ SH SA SS Pu Fin bT aQ
def kG:List UInt8:=[71,65,82,68,82,79,66,69]
def iE(p t:Nat):List UInt8:=pad 256 (kG++leN 2 1++leN 2 (UInt64.ofNat p)++leN 2 (UInt64.ofNat t))
def epB(k:Nat)(es:List UInt64):List UInt8:=pad 256 (((es.drop (32*k)).take 32).flatMap (leN 8))
theorem zI(p t:Nat):(iE p t).length=256:=aBM _ _
theorem nA(k:Nat)(es:List UInt64):(epB k es).length=256:=aBM _ _
theorem bsM:bX (fun i=>some (i*1,1)) (zs [Value.int .u8 0] 8) [(0,.int .u8 71),(1,.int .u8 65),(2,.int .u8 82),(3,.int .u8 68),(4,.int .u8 82),(5,.int .u8 79),(6,.int .u8 66),(7,.int .u8 69)]=some (cbs kG):=rfl
theorem aF0{p t:Nat}(h:Gm.Ok p t):Tri prog 225 [kF p t] [] (fun _=>True) (fun v H=>∃ b,v=.tuple #[.slice (some ⟨b,0,none⟩) 256 256,.int .i64 0]∧H=[(b,cl (cbs (iE p t)) 5)]):=by
 refine Tri.mk func225 rfl ntmps225 rfl fun w hw=>?_
 have hck:=qG h
 have hp1:=yK 2 1 oQ oQ
 have hp2:=yK 2 (UInt64.ofNat p) oQ oQ
 have hp3:=yK 2 (UInt64.ofNat t) oQ oQ
 have hfl:[kG,leN 2 1,leN 2 (UInt64.ofNat p),leN 2 (UInt64.ofNat t)].flatten=kG++leN 2 1++leN 2 (UInt64.ofNat p)++leN 2 (UInt64.ofNat t):=by simp
 have hfn:(kG++leN 2 1++leN 2 (UInt64.ofNat p)++leN 2 (UInt64.ofNat t)).length=14:=by simp [eC,kG]
 have hpd:=fun v=>aDP v (kG++leN 2 1++leN 2 (UInt64.ofNat p)++leN 2 (UInt64.ofNat t)) 256 dQ dQ (by rw [hfn];decide)
 rw [show pad 256 (kG++leN 2 1++leN 2 (UInt64.ofNat p)++leN 2 (UInt64.ofNat t))=iE p t from rfl] at hpd
 refine W.k fun b_=>?_
 refine W.cw hck ?_
 (refine SW.l [] [3,4,5,7,8,9] ?_;skip )
 repeat' (first
  | refine jA 0 2 ?_ ?_ rfl rfl (hok:=by decide +kernel)|refine jA 1 2 ?_ ?_ rfl rfl (hok:=by decide +kernel)|refine jA 0 6 ?_ ?_ rfl rfl (hok:=by decide +kernel)|refine jA 1 6 ?_ ?_ rfl rfl (hok:=by decide +kernel)|refine jA 0 10 ?_ ?_ rfl rfl (hok:=by decide +kernel)|refine jA 1 10 ?_ ?_ rfl rfl (hok:=by decide +kernel)
  | refine pT 0 ?_ rfl (by decide +kernel)|refine pT 1 ?_ rfl (by decide +kernel)|refine pT 2 ?_ rfl (by decide +kernel)|refine pT 6 ?_ rfl (by decide +kernel)|refine pT 10 ?_ rfl (by decide +kernel)
  | (refine iS (fun b1=>?_) (hr:=bsM);refine eB ?_)
  | (refine W.mk ?_;refine eB ?_)
  | (refine eJ hp1 rfl ?_;rintro _ _ ⟨b2,rfl,rfl⟩;refine eB ?_)
  | (refine eJ hp2 rfl ?_;rintro _ _ ⟨b3,rfl,rfl⟩;refine eB ?_)
  | (refine eJ hp3 rfl ?_;rintro _ _ ⟨b4,rfl,rfl⟩;refine eB ?_))
 all_goals
  refine bA 11 ?_
  refine iS (fun b5=>?_) (hr:=bs4 ..)
  (refine bC [] ?_;refine bA 12 ?_)
  refine aF (vY _ [kG,leN 2 1,leN 2 (UInt64.ofNat p),leN 2 (UInt64.ofNat t)] (by rw [hfl,hfn];decide) (by simp only [aX,List.length_nil];omega)) ?_ (hpre:=fun w2 hs=>RdS.at (T:=23) (fz:=(0,0)) (Hc:=[]) hs rfl (Nat.le_refl _) rfl (xE rfl (Rd.atB (Hc:=[]) (b:=b1) (len:=8) (cap:=8) (T:=5) (fz:=((cbs kG).length,(cbs kG).length+1)) kG hs rfl (Nat.le_refl _)) (Rd.my (Hc:=[]) (T:=5) b2 _ hs (eC ..)) (Rd.my (Hc:=[]) (T:=5) b3 _ hs (eC ..)) (Rd.my (Hc:=[]) (T:=5) b4 _ hs (eC ..))))
  rw [hfl]
  intro v6 H6 h6
  have h61:=h6.isOne
  (refine SL.l [13,14] ?_)
  refine W.k ?_
  refine aF (hpd v6) ?_ (hpre:=fun w2 hs=>Rd.own (Hc:=[]) h6 hs inferInstance)
  rintro _ _ ⟨b7,rfl,rfl⟩
  refine W.k ?_
  refine Fin.to [(b7,cl (cbs (iE p t)) 5)] ?_
  exact F.f2 ⟨b7,rfl,rfl⟩
theorem aNv(v:Value)(x:List UInt8):Tri prog 277 [v] [] (fun w=>Rd [] w 1 v (cbs x)) (fun r H=>r=.bool (decide (x.length≠256))∧H=[]):=by
 refine Tri.mk func277 rfl ntmps277 rfl fun w hw=>?_
 obtain⟨a,la,ca,rfl,hl1,hc1,hr1⟩:=hw.get
 rw [aI,Nat.mul_one] at hl1
 subst hl1
 by_cases h:x.length=256
 ·rw [decide_eq_false (by simp [h])]
  refine W.k ?_
  exact F.f1 ⟨rfl,rfl⟩
 ·rw [decide_eq_true h]
  refine W.k ?_
  exact F.f1 ⟨rfl,rfl⟩
def RB(Ht:Hp)(vs:List Value)(bss:List (List UInt8)):Prop:=vs.length=bss.length∧∀ (i:Nat) (bs:List UInt8),bss[i]?=some bs→∃ v,vs[i]?=some v∧RdH Ht v bs
theorem RB.nil(Ht:Hp):RB Ht [] []:=⟨rfl,fun i bs h=>by simp at h⟩
theorem RB.mono{H H':Hp}{vs:List Value}{bss:List (List UInt8)}(h:RB H vs bss)(hs:∀ x∈H,x∈H'):RB H' vs bss:=⟨h.1,fun i bs hi=>let ⟨v,h1,h2⟩:=h.2 i bs hi;⟨v,h1,h2.mono hs⟩⟩
theorem RB.snoc{H:Hp}{vs:List Value}{bss:List (List UInt8)}{v:Value}{bs:List UInt8}(h:RB H vs bss)(hv:RdH H v bs):RB H (vs++[v]) (bss++[bs]):=⟨by simp [h.1],fun i b hi=>by
 by_cases hl:i<bss.length
 ·rw [aL hl] at hi
  obtain⟨u,h1,h2⟩:=h.2 i b hi
  exact⟨u,by rw [aL (by rw [h.1];exact hl)];exact h1,h2⟩
 ·rw [aY oQ] at hi
  have h0:i-bss.length=0:=by have:=(aE.1 hi).1;simp at this;omega
  rw [h0] at hi
  cases hi
  exact⟨v,by rw [aY (by rw [h.1];omega),h.1,h0];rfl,hv⟩⟩
theorem RB.set{H:Hp}{vs:List Value}{bss:List (List UInt8)}{v:Value}{bs:List UInt8}(h:RB H vs bss)(hv:RdH H v bs)(k:Nat):RB H (vs.set k v) (bss.set k bs):=⟨by simp [h.1],fun i b hi=>by
 rw [dT] at hi ⊢
 by_cases hk:k=i
 ·rw [if_pos hk] at hi ⊢
  by_cases hl:k<bss.length
  ·rw [if_pos hl] at hi
   cases hi
   exact⟨v,by rw [if_pos (by rw [h.1];exact hl)],hv⟩
  ·rw [if_neg hl] at hi;cases hi
 ·rw [if_neg hk] at hi ⊢
  exact h.2 i b hi⟩
theorem RB.part{H:Hp}{vs:List Value}{bss:List (List UInt8)}(h:RB H vs bss)(a n:Nat):RB H ((vs.drop a).take n) ((bss.drop a).take n):=⟨by simp [h.1],fun i b hi=>by
 rw [bE,bI] at hi ⊢
 by_cases hn:i<n
 ·rw [if_pos hn] at hi ⊢
  exact h.2 _ _ hi
 ·rw [if_neg hn] at hi;cases hi⟩
theorem RB.oc{H:Hp}{vs:List Value}{bss:List (List UInt8)}(h:RB H vs bss):OC vs:=⟨fun u hu=>by
 obtain⟨i,hi⟩:=cC.1 hu
 have hl:i<bss.length:=by have:=(aE.1 hi).1;rw [h.1] at this;exact this
 obtain⟨v,h1,h2⟩:=h.2 i _ (aA hl)
 rw [h1] at hi
 cases hi
 exact h2.one.ok⟩
theorem aNC{Ht:Hp}(v:Value)(vs:List Value)(bss:List (List UInt8))(hB:RB Ht vs bss)(hn:bss.length≤1000000):Tri prog 288 [v,.func (.func 277) #[] #[]] Ht (fun w=>Rd (Ht.map Prod.fst) w 1 v vs)
  (fun r H=>∃ z:Int,r=.int .i64 z∧H=Ht∧(0≤z↔∃ b∈bss,b.length≠256)):=by
 refine Tri.mk func288 rfl ntmps288 rfl fun w hw=>?_
 obtain⟨a,la,ca,rfl,hl1,hc1,hr1⟩:=hw.get
 rw [Nat.mul_one,hB.1] at hl1
 subst hl1
 refine W.k ?_
 refine bF [0,1,7] (fun k:Nat=>[(8,.int .i64 (k:Int))]) (fun _=>Ht) (fun k=>bss.length-k) (fun k=>k≤bss.length∧∀ i b,i<k→bss[i]?=some b→b.length=256) 0 ⟨Nat.zero_le _,fun i b h=>by omega⟩ ?_
 rintro k ⟨hk,hk2⟩
 by_cases h:k<bss.length
 ·obtain⟨bb,o,l,T,fz,rfl,hb,hkK,hy⟩:=hr1 oQ
  obtain⟨u,hu1,hu2⟩:=hB.2 k _ (aA h)
  have hlu:l[o+k]?=some u:=by
   have h2:((l.drop o).take (bss.length*1))[k]?=vs[k]?:=by rw [hy]
   rw [bE,if_pos oQ,bI,hu1] at h2
   exact h2
  have hbl:=aA h
  generalize bss[k]=bs at *
  have huo:=hu2.one
  have h1:=aNv u bs
  refine W.k ?_
  refine dV [] rfl rfl rfl rfl rfl rfl h1 (fun w2 hs=>hu2.rd (Hc:=[]) hs) ?_
  rintro _ _ ⟨rfl,rfl⟩
  by_cases h256:bs.length=256
  ·rw [decide_eq_false (by simp [h256])]
   refine W.k ?_
   refine aQ.mk (k+1) ?_
   refine⟨h,fun i b hi hib=>?_⟩
   by_cases hik:i=k
   ·subst hik;rw [hbl] at hib;cases hib;exact h256
   ·exact hk2 i b oQ hib
  ·rw [decide_eq_true h256]
   refine W.k ?_
   refine Fin.to Ht ?_
   exact F.f1 ⟨(k:Int),rfl,rfl,⟨fun _=>⟨bs,aT hbl,h256⟩,fun _=>by omega⟩⟩
 ·have hkn:k=bss.length:=oQ
  subst hkn
  refine W.k ?_
  refine Fin.to Ht ?_
  refine F.f1 ⟨-1,rfl,rfl,⟨fun h=>by omega,fun⟨b,hb,hne⟩=>?_⟩⟩
  obtain⟨i,hi⟩:=cC.1 hb
  exact absurd (hk2 i b (aE.1 hi).1 hi) hne
theorem aLv{Ht:Hp}(v:Value)(vs:List Value)(bss:List (List UInt8))(hB:RB Ht vs bss)(hn:bss.length≤1000000)(h256:∀ b∈bss,b.length=256):Tri prog 278 [v,.func (.func 277) #[] #[]] Ht (fun w=>Rd (Ht.map Prod.fst) w 1 v vs)
  (fun r H=>r=.bool false∧H=Ht):=by
 refine Tri.mk func278 rfl ntmps278 rfl fun w hw=>?_
 have hv:=hw.isOne
 obtain⟨a,la,ca,rfl,-⟩:=hw.get
 refine W.k ?_
 refine aF (aNC _ vs bss hB hn) ?_ (hpre:=fun w2 hs=>hw.ro (Hc:=Ht) hs)
 rintro _ Ht ⟨z,rfl,rfl,hz⟩
 have hz2:z<0:=by
  rcases zM z 0 with h|h
  ·exact h
  ·obtain⟨b,hb,hne⟩:=hz.1 h
   exact absurd (h256 b hb) hne
 refine W.k ?_
 refine Fin.to Ht ?_
 exact F.f1 ⟨rfl,rfl⟩
theorem aF1{sp:Nat}{F0:List Value}{st:Int}(hF:F0[9]?=some (.int .i64 st)):Tri prog 14 [ptv sp] [(sp,cl F0 98)] (fun _=>True) (fun v H=>v=.int .i64 st∧H=[(sp,cl F0 98)]):=by
 refine Tri.mk func14 rfl ntmps14 rfl fun w hw=>?_
 refine W.k ?_
 refine Fin.to [(sp,cl F0 98)] ?_
 exact F.f1 ⟨rfl,rfl⟩
end
section
variable {P:Program}{C:Ctx}{Q:Exit→Fr→Hp→Prop}{ρ:Fr}{H:Hp}{L rest:List Oper}{o:Oper}{B:List Nat}{R R':Hp}{fuel:Nat}{listed:Array Bool}
theorem RdH.src{Ht:Hp}{v:Value}{bs:List UInt8}{w:World}(hv:RdH Ht v bs)(hh:∀ x∈Ht,w.heap[x.1]?=some x.2):∃ a len cap,v=.slice a len cap∧eU P w (.slice a len cap) 1 len (cbs bs):=by
 obtain⟨a,len,cap,rfl,hl,hc,hor⟩:=hv
 refine⟨a,len,cap,rfl,?_⟩
 rcases hor with h0|⟨b,j,l,T,fz,rfl,hm,hy⟩
 ·subst h0
  have:bs=[]:=bJ hl
  subst this
  exact eU.empty w a cap 1
 ·exact eU.block (hh _ hm) (by rw [Nat.mul_one];exact hy) (by rw [aI,Nat.mul_one];exact hl)
theorem zS{t t' e n:Nat}{x:Operand}{v:Value}{bs:List UInt8}{Hs rr:Hp}(hv:RdH Hs v bs) [hp:fA H Hs rr](i:Nat)(Ws:List Nat)(hi:L[i]?=some o){d':Option Nat}(hk:SS P C L Q B (Hs++R) fuel (listed.setIfInBounds i true) (pt ρ d' (.string (zH bs))) H)(hok:aB6 L B listed i Ws=true:=by kernel_rfl)(ho:o.op=.convert t t' x:=by exact rfl)(h1:cI P t e n:=by infer_instance)(h2:mI P e .u8:=by infer_instance)(h3:zV P t':=by infer_instance)(hx:ev ρ x=some v:=by exact rfl)(hg:gd L ρ o=some true:=by exact rfl)(hd:dk C.n o.dst=some d':=by exact rfl)(hQ:∀ c ρ H,Q (.panic c) ρ H→False:=by exact fun _ _ _ h=>Fin.np h):SS P C L Q B R (fuel+1) listed ρ H:=
 xA (R':=Hs++R) i Ws hi hok hQ (fun x hx=>aN _ hx) (fun x hx=>(bK.1 hx).elim (fun h=>.inr (hp.perm.mem_iff.2 (aO _ h))) .inl) (fun a hf=>.inl ⟨gZ hf hg,fun w hr=>by
  obtain⟨pa,len,cap,rfl,hs⟩:=hv.src (P:=P) (w:=w) (fun x hx=>hr.2 x (aO _ hx))
  unfold execOp;rw [ho]
  simp [hf.eval hx,aAx (P:=P) (t:=t) (t':=t') (e:=e) (n:=n) hs]⟩) hd hk
theorem aLU{t t':TypeId}{x y:Operand}{a c:List UInt8}(ho:o.op=.binOp .neq t x y t')(hx:ev ρ x=some (.string (zH a)))(hy:ev ρ y=some (.string (zH c)))(h:a≠c):Pu P C ρ H o (.bool true):=by
 have:=aEj (P:=P) (C:=C) (H:=H) ho hx hy
 rw [aBP,decide_eq_false h] at this
 exact this
end
section
variable {P:Program}{C:Ctx}{ρ:Fr}{H:Hp}{o:Oper}
theorem aLR{t t':TypeId}{x y:Operand}{a c:List UInt8}(ho:o.op=.binOp .eql t x y t')(hx:ev ρ x=some (.string (zH a)))(hy:ev ρ y=some (.string (zH c))):Pu P C ρ H o (.bool (decide (a=c))):=by
 have:=aEh (P:=P) (C:=C) (H:=H) ho hx hy
 rw [aBP] at this
 exact this
end
end Go.Proofs.YtnhnpjokpelkbaaGreat
