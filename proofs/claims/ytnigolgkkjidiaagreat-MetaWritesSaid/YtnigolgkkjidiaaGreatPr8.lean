/- Bytes: padded, mixed, read as numbers, in rows. -/
import Derived.Test.YtnigolgkkjidiaaGreatPr6
import Derived.Test.YtnigolgkkjidiaaGreatPr3
import Derived.Test.YtnigolgkkjidiaaGreatPr7
import Derived.Test.YtnigolgkkjidiaaGreatPr4
set_option linter.unusedVariables false
set_option linter.unusedSimpArgs false
set_option linter.unusedSectionVars false
set_option maxHeartbeats 1000000
namespace Go.Proofs.YtnigolgkkjidiaaGreat
open Go Go.Proofs.Tryz
section
section
variable {P:Program}{C:Ctx}{Q:Exit→Fr→Hp→Prop}{ρ:Fr}{H H':Hp}{L rest:List Oper}{d:Option Tmp}{ty:TypeId}{pos:String}{af:Array Edge}{g:Option (Nat×Bool)}{d':Option Nat}{x y z:Operand}{o:Oper}
theorem aJK{t e n len cap l h:Nat}{lo hi:Option Operand}{a:Option Addr}{k kk:IntKind}{m q:Int} [cG P t e n] [i0:eG m l] [i1:eG q h](ho:o.op=.slice t x (some y) (some z) none)(hx:ev ρ x=some (.slice a len cap))(hy:ev ρ y=some (.int k m))(hz:ev ρ z=some (.int kk q))(h1:l≤h)(h2:h≤cap):Pu P C ρ H o (.slice (lJ a cap l n) (h-l) (cap-l)):=
 oJ (vl:=none) (vh:=none) ho hx (.inr ⟨y,k,m,rfl,hy,i0.ok⟩) (.inr ⟨z,kk,q,rfl,hz,i1.ok⟩) h1 h2
theorem aOM{t e n len cap l:Nat}{a:Option Addr}{k:IntKind}{m:Int} [cG P t e n] [i0:eG m l](ho:o.op=.slice t x (some y) none none)(hx:ev ρ x=some (.slice a len cap))(hy:ev ρ y=some (.int k m))(h1:l≤len)(h2:len≤cap):Pu P C ρ H o (.slice (lJ a cap l n) (len-l) (cap-l)):=
 oJ (vl:=none) (vh:=none) ho hx (.inr ⟨y,k,m,rfl,hy,i0.ok⟩) (.inl ⟨rfl,rfl⟩) h1 h2
theorem aON{t e n len cap h:Nat}{a:Option Addr}{k:IntKind}{m:Int} [cG P t e n] [i0:eG m h](ho:o.op=.slice t x none (some y) none)(hx:ev ρ x=some (.slice a len cap))(hy:ev ρ y=some (.int k m))(h2:h≤cap):Pu P C ρ H o (.slice (lJ a cap 0 n) h cap):=
 oJ (vl:=none) (vh:=none) ho hx (.inl ⟨rfl,rfl⟩) (.inr ⟨y,k,m,rfl,hy,i0.ok⟩) (Nat.zero_le _) h2
theorem aMh{t e n len cap h:Nat}{a:Option Addr}{k kk:IntKind}{m q:Int} [ht:cG P t e n] [i0:eG m h] [i1:eG q h](ho:o.op=.slice t x none (some y) (some z))(hx:ev ρ x=some (.slice a len cap))(hy:ev ρ y=some (.int k m))(hz:ev ρ z=some (.int kk q))(h2:h≤cap):Pu P C ρ H o (.slice (lJ a h 0 n) h h):=fun ac w hf _=>by
 unfold execOp;rw [ho]
 have e0:=i0.ok
 have e1:=i1.ok
 subst e0 e1
 simp [hf.eval hx,hf.eval hy,hf.eval hz,Instr.sliceAt,run_underlying ht.ok,Instr.slice,Instr.sliceBounds,Instr.sliceBound,asIntOf,h2,eJ ht.size,lJ]
end
attribute [local irreducible] SW SL SQ SH SA SS Pu Fin bZ aT
section
variable {P:Program}{C:Ctx}{Q:Exit→Fr→Hp→Prop}{ρ:Fr}{H H':Hp}{L rest:List Oper}{d:Option Tmp}{ty:TypeId}{pos:String}{af:Array Edge}{g:Option (Nat×Bool)}{d':Option Nat}{x y z:Operand}{o:Oper}
theorem W.s3{t e n len cap h:Nat}{a:Option Addr}{k kk:IntKind}{m q:Int} [ht:cG P t e n](hk:SL P C L Q rest (pt ρ d' (.slice (lJ a h 0 n) h h)) H)(hx:ev ρ x=some (.slice a len cap):=by exact rfl)(hy:ev ρ y=some (.int k m):=by exact rfl)(hz:ev ρ z=some (.int kk q):=by exact rfl)(i0:eG m h:=by infer_instance)(i1:eG q h:=by infer_instance)(h2:h≤cap:=by omega)(hg:gd L ρ ⟨d,.slice t x none (some y) (some z),ty,pos,af,g⟩=some true:=by exact rfl)(hd:dk C.n d=some d':=by exact rfl):SL P C L Q (⟨d,.slice t x none (some y) (some z),ty,pos,af,g⟩::rest) ρ H:=bJ (aMh rfl hx hy hz h2) hg hd hk
theorem W.sF{t e n len cap l:Nat}{a:Option Addr}{k:IntKind}{m:Int} [ht:cG P t e n](hk:SL P C L Q rest (pt ρ d' (.slice (lJ a cap l n) (len-l) (cap-l))) H)(hx:ev ρ x=some (.slice a len cap):=by exact rfl)(hy:ev ρ y=some (.int k m):=by exact rfl)(i0:eG m l:=by infer_instance)(h1:l≤len:=by omega)(h2:len≤cap:=by omega)(hg:gd L ρ ⟨d,.slice t x (some y) none none,ty,pos,af,g⟩=some true:=by exact rfl)(hd:dk C.n d=some d':=by exact rfl):SL P C L Q (⟨d,.slice t x (some y) none none,ty,pos,af,g⟩::rest) ρ H:=bJ (aOM rfl hx hy h1 h2) hg hd hk
theorem W.sT{t e n len cap h:Nat}{a:Option Addr}{k:IntKind}{m:Int} [ht:cG P t e n](hk:SL P C L Q rest (pt ρ d' (.slice (lJ a cap 0 n) h cap)) H)(hx:ev ρ x=some (.slice a len cap):=by exact rfl)(hy:ev ρ y=some (.int k m):=by exact rfl)(i0:eG m h:=by infer_instance)(h2:h≤cap:=by omega)(hg:gd L ρ ⟨d,.slice t x none (some y) none,ty,pos,af,g⟩=some true:=by exact rfl)(hd:dk C.n d=some d':=by exact rfl):SL P C L Q (⟨d,.slice t x none (some y) none,ty,pos,af,g⟩::rest) ρ H:=bJ (aON rfl hx hy h2) hg hd hk
theorem W.sG{t e n len cap l h:Nat}{a:Option Addr}{k kk:IntKind}{m q:Int} [ht:cG P t e n](hk:SL P C L Q rest (pt ρ d' (.slice (lJ a cap l n) (h-l) (cap-l))) H)(hx:ev ρ x=some (.slice a len cap):=by exact rfl)(hy:ev ρ y=some (.int k m):=by exact rfl)(hz:ev ρ z=some (.int kk q):=by exact rfl)(i0:eG m l:=by infer_instance)(i1:eG q h:=by infer_instance)(h1:l≤h:=by omega)(h2:h≤cap:=by omega)(hg:gd L ρ ⟨d,.slice t x (some y) (some z) none,ty,pos,af,g⟩=some true:=by exact rfl)(hd:dk C.n d=some d':=by exact rfl):SL P C L Q (⟨d,.slice t x (some y) (some z) none,ty,pos,af,g⟩::rest) ρ H:=bJ (aJK rfl hx hy hz h1 h2 (lo:=none) (hi:=none)) hg hd hk
theorem aL8{t e n b j len cap m:Nat} [ht:kD P t m e n](hk:SL P C L Q rest (pt ρ d' (.pointer (some ⟨b,j,none⟩))) H)(hx:ev ρ x=some (.slice (some ⟨b,j,none⟩) len cap):=by exact rfl)(h1:m≤len:=by omega)(hg:gd L ρ ⟨d,.sliceToArrayPointer t x,ty,pos,af,g⟩=some true:=by exact rfl)(hd:dk C.n d=some d':=by exact rfl):SL P C L Q (⟨d,.sliceToArrayPointer t x,ty,pos,af,g⟩::rest) ρ H:=bJ (aMg rfl hx h1) hg hd hk
end
theorem RdH.cut{H:Hp}{a:Option Addr}{len cap:Nat}{bs:List UInt8}(h:RdH H (.slice a len cap) bs)(c l q cap':Nat)(hl:l≤q)(hq:q≤len)(hc:q-l≤cap')(hcl:c=l→q=l):RdH H (.slice (lJ a c l 1) (q-l) cap') ((bs.drop l).take (q-l)):=by
 obtain⟨a',len',cap'',he,h2,h3,h4⟩:=h
 cases he
 refine⟨_,_,_,rfl,by rw [aD,aK];omega,hc,?_⟩
 by_cases h0:q-l=0
 ·exact .inl h0
 ·rcases h4 with h4|⟨b,o,cs,T,fz,rfl,hm,hy⟩
  ·omega
  ·refine .inr ⟨b,o+l,cs,T,fz,?_,hm,?_⟩
   ·unfold lJ
    rw [if_neg (fun e=>h0 (by rw [hcl e];omega))]
    simp [Addr.add]
   ·have e:(cs.drop (o+l)).take (q-l)=(((cs.drop o).take len).drop l).take (q-l):=by
     rw [jX,fS,bR,dB om]
    rw [e,hy]
    simp [jQ,jR]
theorem RdH.len{H:Hp}{a:Option Addr}{len cap:Nat}{bs:List UInt8}(h:RdH H (.slice a len cap) bs):bs.length=len∧len≤cap:=by
 obtain⟨a',len',cap'',he,h2,h3,h4⟩:=h
 cases he
 exact⟨h2,h3⟩
theorem sO{l:List Value}{o len:Nat}{xs:List UInt8}{i:Nat}{c:UInt8}(hy:(l.drop o).take (len*1)=cbs xs)(hi:xs[i]?=some c):l[o+i]?=some (.int .u8 (c.toNat:Int)):=by
 have h1:i<len*1:=by
  have:=congrArg List.length hy
  have h2:=(aG.1 hi).1
  rw [aD,aI] at this;omega
 have h2:((l.drop o).take (len*1))[i]?=(cbs xs)[i]?:=by rw [hy]
 rw [bI,if_pos h1,bD] at h2
 rw [h2,aH,hi];rfl
abbrev ptv(b:Nat):Value:=.pointer (some ⟨b,0,none⟩)
def pad(n:Nat)(b:List UInt8):List UInt8:=(b++List.replicate n 0).take n
theorem sD(n:Nat)(b:List UInt8):(pad n b).length=n:=by unfold pad;rw [aD,aC,aM];omega
theorem xB{n:Nat}{b:List UInt8}(h:b.length≤n):pad n b=b++List.replicate (n-b.length) 0:=by
 unfold pad
 rw [jA,aB h,List.take_replicate,dB om]
def mQ(b:List UInt8):Nat:=b.foldr (fun c v=>v*256+c.toNat) 0
def eP(b:List UInt8):Nat:=mQ (b.take 8)
theorem tD(b:List UInt8):mQ b<256^b.length:=by
 unfold mQ
 induction b with
 | nil=>simp
 | cons c r ih=>
  have:=c.toNat_lt
  simp only [List.foldr_cons,aW,gG]
  omega
theorem aBN(b:List UInt8)(c:UInt8):mQ (b++[c])=mQ b+c.toNat*256^b.length:=by
 unfold mQ
 induction b with
 | nil=>simp
 | cons x r ih=>
  simp only [eY,List.foldr_cons,aW,gG,ih,Nat.add_mul]
  rw [← pB];omega
theorem zL(b:List UInt8):eP b<18446744073709551616:=by
 have h:=tD (b.take 8)
 have h2:256^(b.take 8).length≤256^8:=cV dc (by rw [aD];omega)
 unfold eP
 omega
theorem aBP{b:List UInt8}(h:b.length≤2):eP b<65536:=by
 have h1:=tD (b.take 8)
 have h2:256^(b.take 8).length≤256^2:=cV dc (by rw [aD];omega)
 unfold eP
 omega
def yL(b:List UInt8):UInt64:=UInt64.ofNat (eP b)
theorem zM(b:List UInt8):(yL b).toNat=eP b:=by
 unfold yL;rw [bC];exact dC (zL b)
def aA7(x y:List UInt8):List UInt8:=List.zipWith (· ^^^ ·) x y
theorem aFz(x y:List UInt8):(aA7 x y).length=min x.length y.length:=by unfold aA7;simp
theorem aOq(va vb:Value)(x y:List UInt8)(hx:x.length≤1099511627776):Tri prog 210 [va,vb] [] (fun w=>Rd [] w 1 va (cbs x)∧Rd [] w 1 vb (cbs y))
  (fun v H=>∃ b,v=.slice (some ⟨b,0,none⟩) (min x.length y.length) (min x.length y.length)∧H=[(b,cl (cbs (aA7 x y)) 5)]):=by
 refine Tri.mk func210 rfl ntmps210 rfl fun w hw=>?_
 obtain⟨h1,h2⟩:=hw
 obtain⟨a,la,ca,rfl,hl1,hc1,hr1⟩:=h1.get
 obtain⟨b,lb,cb,rfl,hl2,hc2,hr2⟩:=h2.get
 rw [aI,Nat.mul_one] at hl1 hl2
 subst hl1 hl2
 haveI i1:eG (min (x.length:Int) (y.length:Int)) (min x.length y.length):=⟨by omega⟩
 have hmin:min x.length y.length≤x.length∧min x.length y.length≤y.length:=⟨Nat.min_le_left ..,Nat.min_le_right ..⟩
 have hxl:=aFz x y
 rw [← hxl] at hmin
 refine W.j fun b_=>?_
 generalize hn:min x.length y.length=n at *
 have hg:∀ k,(cbs (oG (fun i=>x.getD i 0 ^^^ y.getD i 0) n k)).length=(oG (fun i=>x.getD i 0 ^^^ y.getD i 0) n k).length:=fun k=>aI _
 rw [show zs [.int .u8 0] n=cbs (oG (fun i=>x.getD i 0 ^^^ y.getD i 0) n 0) by rw [lK];simp [oG]]
 refine SW.cut [5] [b_] (fun _:Unit=>[]) (fun _=>[(b_,cl (cbs (oG (fun i=>x.getD i 0 ^^^ y.getD i 0) n n)) 5)]) (fun _=>True) ?_ ?_
 ·refine W.k ?_
  refine bV [0,1,5,14] [b_] (fun k:Nat=>[(15,.int .i64 (k:Int))]) (fun k=>[(b_,cl (cbs (oG (fun i=>x.getD i 0 ^^^ y.getD i 0) n k)) 5)]) (fun k=>n-k) (fun k=>k≤n) 0 om ?_
  intro k hk
  by_cases hkn:k<n
  ·have hlen:k<(cbs (oG (fun i=>x.getD i 0 ^^^ y.getD i 0) n k)).length:=by rw [aE,aCZ _ hk];exact hkn
   obtain⟨b1,o1,l1,T1,z1,rfl,hb1,hk1,hy1⟩:=hr1 om
   obtain⟨b2,o2,l2,T2,z2,rfl,hb2,hk2,hy2⟩:=hr2 om
   have g1:=sO hy1 (aA (show k<x.length by omega))
   have g2:=sO hy2 (aA (show k<y.length by omega))
   have gx:x.getD k 0=x[k]'om:=by rw [aF,aA (show k<x.length by omega)];rfl
   have gy:y.getD k 0=y[k]'om:=by rw [aF,aA (show k<y.length by omega)];rfl
   have hfs:=aC0 (fun i=>x.getD i 0 ^^^ y.getD i 0) hkn
   rw [gx,gy] at hfs
   refine W.k ?_
   (refine SW.l [12] [0,1,2,3,4,5,6,7,8,9,10,11] ?_;refine cB 12 ?_;refine W.i ?_;refine eI ?_)
   rw [hfs]
   refine W.k ?_
   refine aT.mk (k+1) ?_
   omega
  ·have:k=n:=om
   subst this
   refine W.k ?_
   refine bZ.mk () ?_
   trivial
 rintro _ -
 refine W.k ?_
 rw [aCY]
 have e:(List.range n).map (fun i=>x.getD i 0 ^^^ y.getD i 0)=aA7 x y:=by
  apply cM
  intro i
  unfold aA7
  rw [aH,gN]
  by_cases h:i<n
  ·rw [dY h,aA (show i<x.length by omega),aA (show i<y.length by omega)]
   simp [aF,aA (show i<x.length by omega),aA (show i<y.length by omega)]
  ·rw [aY (by simp;omega)]
   by_cases h2:i<x.length
   ·rw [aY (show y.length≤i by omega)];cases x[i]? <;> rfl
   ·rw [aY (show x.length≤i by omega)];rfl
 rw [e]
 refine Fin.to [(b_,cl (cbs (aA7 x y)) 5)] ?_
 refine F.f1 ?_
 exact⟨b_,rfl,rfl⟩
theorem yA(v:Value)(x:List UInt8)(n:Nat)(h1:1≤n)(hn:n≤65536)(hx:x.length≤n):Tri prog 163 [v,.int .i64 (n:Int)] [] (fun w=>Rd [] w 1 v (cbs x)) (fun r H=>∃ b,r=.slice (some ⟨b,0,none⟩) n n∧H=[(b,cl (cbs (pad n x)) 5)]):=by
 refine Tri.mk func163 rfl ntmps163 rfl fun w hw=>?_
 obtain⟨a,la,ca,rfl,hl1,hc1,hr1⟩:=hw.get
 rw [aI,Nat.mul_one] at hl1
 subst hl1
 have hfit:0+(cbs x).length≤(zs [Value.int .u8 0] n).length:=by rw [lK,aM,aI];omega
 refine W.k fun b_=>?_
 refine W.cy (fun w2 hs=>hw.srcAt hs) ?_
 have e:(zs [Value.int .u8 0] n).take 0++cbs x++(zs [Value.int .u8 0] n).drop (0+(cbs x).length)=cbs (pad n x):=by
  rw [xB hx,lK,aI,List.drop_replicate,fP,gT]
  simp
 rw [e]
 refine W.k ?_
 refine Fin.to [(b_,cl (cbs (pad n x)) 5)] ?_
 refine F.f1 ?_
 exact⟨b_,rfl,rfl⟩
theorem aOc(v:Value)(x:List UInt8):Tri prog 212 [v] [] (fun w=>Rd [] w 1 v (cbs x)) (fun r H=>r=.int .u64 (eP x:Nat)∧H=[]):=by
 refine Tri.mk func212 rfl ntmps212 rfl fun w hw=>?_
 obtain⟨a,la,ca,rfl,hl1,hc1,hr1⟩:=hw.get
 rw [aI,Nat.mul_one] at hl1
 subst hl1
 refine W.j ?_
 refine SW.cut [] [] (fun _:Unit=>[(3,.int .u64 (eP x:Nat))]) (fun _=>[]) (fun _=>True) ?_ ?_
 ·refine W.k ?_
  refine bN [6,7] (fun k:Nat=>[(3,.int .u64 (eP (x.take k):Nat)),(8,.int .i64 (k:Int))]) (fun _=>[]) (fun k=>x.length-k) (fun k=>k≤x.length∧k≤8) 0 ⟨Nat.zero_le _,Nat.zero_le _⟩ ?_
  rintro k ⟨hk,hk8⟩
  by_cases hkn:k<x.length
  ·obtain⟨b1,o1,l1,T1,z1,rfl,hb1,hk1,hy1⟩:=hr1 om
   have g1:=sO hy1 (aA hkn)
   generalize hc:x[k]'hkn=c at *
   by_cases h8:k=8
   ·subst h8
    have e:eP (x.take 8)=eP x:=by unfold eP;rw [fS,lO]
    rw [e]
    refine W.k ?_
    refine bZ.mk () ?_
    trivial
   ·have e0:(x.take k).length=k:=by rw [aD];omega
    have e1:eP (x.take k)=mQ (x.take k):=by unfold eP;rw [fS,sW om]
    have e2:eP (x.take (k+1))=mQ (x.take k)+c.toNat*256^k:=by
     unfold eP
     rw [fS,sW om,aO,aA hkn,hc,eQ,aBN,e0]
    have hlt:=tD (x.take k)
    rw [e0] at hlt
    have hlt2:=zL (x.take (k+1))
    rw [e1]
    generalize mQ (x.take k)=F at *
    have hF:F<18446744073709551616:=by have:=c.toNat_lt;rw [e2] at hlt2;omega
    haveI i1:U64 (F:Int) (UInt64.ofNat F):=⟨by rw [bC];omega⟩
    haveI i2:aEm (8*(k:Int)) (UInt64.ofNat (8*k)):=⟨by rw [bC];omega,by rw [bC];omega⟩
    have e3:(UInt64.ofNat F ||| c.toUInt64 <<< UInt64.ofNat (8*k)).toNat=eP (x.take (k+1)):=by
     have hp:256^k=2^(8*k):=by rw [Nat.pow_mul]
     have h8k:(UInt64.ofNat (8*k)).toNat=8*k:=by rw [bC];omega
     rw [e2,UInt64.toNat_or,UInt64.toNat_shiftLeft,h8k,pJ,bC,dC hF,dC (show 8*k<64 by omega)]
     rw [hp] at hlt ⊢
     have hc2:c.toNat <<< (8*k)<2^64:=by
      rw [jT]
      rw [e2,hp] at hlt2
      omega
     rw [dC hc2,Nat.or_comm,← Nat.shiftLeft_add_eq_or_of_lt hlt,jT]
     omega
    refine W.k ?_
    rw [e3]
    refine aT.mk (k+1) ?_
    omega
  ·have hk2:k=x.length:=om
   have e:eP (x.take k)=eP x:=by rw [hk2,bT]
   rw [e]
   refine W.k ?_
   refine bZ.mk () ?_
   trivial
 rintro _ -
 refine W.k ?_
 exact F.n
def aDt(p:Nat)(bs:List UInt8)(H:Hp):Prop:=∃ v Ht,H=(p,cl [v,.int .i64 0] 353)::Ht∧RdH Ht v bs
theorem aKy(v:Value)(x:List UInt8)(hx:x.length≤1099511627776):Tri prog 150 [v] [] (fun w=>Rd [] w 1 v (cbs x)) (fun r H=>∃ p,r=.pointer (some ⟨p,0,none⟩)∧aDt p x H):=by
 refine Tri.mk func150 rfl ntmps150 rfl fun w hw=>?_
 obtain⟨a,la,ca,rfl,hl1,hc1,hr1⟩:=hw.get
 refine W.k ?_
 refine aL (yX _ x hx) ?_ (hpre:=fun w2 hs=>hw.ro (Hc:=[]) hs)
 intro v1 H1 h1
 have h11:=h1.isOne
 obtain⟨a1,l1,c1,rfl,hl1⟩:=h1.form
 have hb:bQ (fun i=>[(0,1),(1,1)][i]?) [.slice none 0 0,.int .i64 0] [(0,.slice a1 l1 c1)]=some [.slice a1 l1 c1,.int .i64 0]:=rfl
 refine W.k fun b_=>?_
 refine Fin.to ((b_,cl [.slice a1 l1 c1,.int .i64 0] 353)::H1) ?_
 exact F.f1 ⟨b_,rfl,_,H1,rfl,RdH.of h1⟩
theorem aJq{p:Nat}{bs:List UInt8}{H:Hp}(hR:aDt p bs H)(n:Nat)(hn:n≤bs.length)(hb:bs.length≤1099511627776):Tri prog 213 [.pointer (some ⟨p,0,none⟩),.int .i64 (n:Int)] H (fun _=>True)
  (fun r H'=>∃ v Ht,H'=(p,cl [v,.int .i64 0] 353)::Ht∧RdH Ht v (bs.drop n)∧RdH Ht r (bs.take n)):=by
 obtain⟨v,Ht,rfl,hv⟩:=hR
 have hv2:=hv
 obtain⟨a,len,cap,rfl,-⟩:=hv2
 obtain⟨hl,hc⟩:=hv.len
 subst hl
 refine Tri.mk func213 rfl ntmps213 rfl fun w hw=>?_
 refine W.k ?_
 refine W.s3 ?_
 have c1:=hv.cut n 0 n n (Nat.zero_le _) hn om om
 refine W.k ?_
 refine W.sF ?_
 have c2:=hv.cut cap n bs.length (cap-n) hn (Nat.le_refl _) om om
 rw [aB (by simp)] at c2
 rw [bH,lP] at c1
 have o1:=c1.one
 have o2:=c2.one
 refine W.k ?_
 exact F.f1 ⟨_,Ht,rfl,c2,c1⟩
theorem vM{p:Nat}{bs:List UInt8}{H:Hp}(hR:aDt p bs H)(n:Nat)(h1:1≤n)(h8:n≤8)(hn:n≤bs.length)(hb:bs.length≤1099511627776):Tri prog 151 [.pointer (some ⟨p,0,none⟩),.int .i64 (n:Int)] H (fun _=>True)
  (fun r H'=>r=.int .u64 (eP (bs.take n):Nat)∧aDt p (bs.drop n) H'):=by
 refine Tri.mk func151 rfl ntmps151 rfl fun w hw=>?_
 have hnx:=aJq hR n hn hb
 refine W.k ?_
 refine aL hnx ?_
 rintro u H1 ⟨v,Ht,rfl,hv,hu⟩
 have hu1:=hu.one
 refine W.k ?_
 refine W.cw (aOc u (bs.take n)) ?_ (hpre:=fun w2 hs=>hu.rd (Hc:=[]) hs)
 refine Fin.to ((p,cl [v,.int .i64 0] 353)::Ht) ?_
 exact F.f1 ⟨rfl,v,Ht,rfl,hv⟩
theorem aKv{p:Nat}{bs:List UInt8}{H:Hp}(hR:aDt p bs H)(n:Nat)(hn:n≤bs.length)(hb:bs.length≤1099511627776):Tri prog 232 [.pointer (some ⟨p,0,none⟩),.int .i64 (n:Int)] H (fun _=>True)
  (fun r H'=>∃ H1 Ht,aDt p (bs.drop n) H1∧Sl 5 1 r (cbs (bs.take n)) Ht∧H'=H1++Ht):=by
 refine Tri.mk func232 rfl ntmps232 rfl fun w hw=>?_
 have hnx:=aJq hR n hn hb
 refine W.k ?_
 refine aL hnx ?_
 rintro u H1 ⟨v,Ht,rfl,hv,hu⟩
 have hu1:=hu.one
 refine W.k ?_
 refine aL (yX u (bs.take n) (by rw [aD];omega)) ?_ (hpre:=fun w2 hs=>hu.rd (Hc:=[]) hs)
 intro v2 H2 h2
 have h21:=h2.isOne
 refine W.k ?_
 refine Fin.to (((p,cl [v,.int .i64 0] 353)::Ht)++H2) ?_
 exact F.f1 ⟨_,H2,⟨v,Ht,rfl,hv⟩,h2,rfl⟩
end
section
attribute [local irreducible] SW SL SQ SH SA SS Pu Fin bZ aT
structure Pg where
 kind:Int
 cls:Int
 run:Int
 size:Int
 ser:Int
deriving DecidableEq
def pgC(p:Pg):List Value:=[.int .i64 p.kind,.int .i64 p.cls,.int .i64 p.run,.int .i64 p.size,.int .u64 p.ser]
abbrev Pg.pl(k:Int):Pg:=⟨k,0,0,0,0⟩
theorem dW(p:Pg):(pgC p).length=5:=rfl
instance pgC_one(p:Pg):OC (pgC p):=by unfold pgC;infer_instance
theorem oK{p q:Pg}(h:pgC p=pgC q):p=q:=by
 unfold pgC at h
 simp only [kK,Value.int.injEq,true_and,and_true] at h
 obtain⟨h1,h2,h3,h4,h5⟩:=h
 cases p;cases q
 simp only at h1 h2 h3 h4 h5
 subst h1 h2 h3 h4 h5
 rfl
def pgQ(l:List Value):Prop:=(∃ n,(l.drop 0).take 1=[.int .i64 n])∧(∃ n,(l.drop (0+1)).take 1=[.int .i64 n])∧(∃ n,(l.drop (0+1+1)).take 1=[.int .i64 n])∧(∃ n,(l.drop (0+1+1+1)).take 1=[.int .i64 n])∧(∃ n,(l.drop (0+1+1+1+1)).take 1=[.int .u64 n])∧l.length=5
theorem gB(p:Pg):pgQ (pgC p):=⟨⟨_,rfl⟩,⟨_,rfl⟩,⟨_,rfl⟩,⟨_,rfl⟩,⟨_,rfl⟩,rfl⟩
instance pgEq:EqS prog 185 pgQ where
 under:=by kernel_rfl
 held:=by kernel_rfl
 guard:=by kernel_rfl
 cov:=by
  refine⟨_,1,5,underlying185,by decide,?_⟩
  unfold pgQ
  iterate 4
   refine Cov.cons (n:=1) (D':=1) (agg:=false) (p:=fun l=>∃ n,l=[.int .i64 n]) ?_ rfl ?_ ?_ ?_
   ·decide
   ·exact sJ.int (t:=3) underlying3
   ·decide
  refine Cov.cons (n:=1) (D':=1) (agg:=false) (p:=fun l=>∃ n,l=[.int .u64 n]) ?_ rfl ?_ ?_ ?_
  ·decide
  ·exact sJ.int (t:=28) underlying28
  ·decide
  exact Cov.nil 5
instance rpgEq:EqS prog 177 pgQ where
 under:=by kernel_rfl
 held:=by kernel_rfl
 guard:=by kernel_rfl
 cov:=by
  refine⟨_,1,5,underlying177,by decide,?_⟩
  unfold pgQ
  iterate 4
   refine Cov.cons (n:=1) (D':=1) (agg:=false) (p:=fun l=>∃ n,l=[.int .i64 n]) ?_ rfl ?_ ?_ ?_
   ·decide
   ·exact sJ.int (t:=3) underlying3
   ·decide
  refine Cov.cons (n:=1) (D':=1) (agg:=false) (p:=fun l=>∃ n,l=[.int .u64 n]) ?_ rfl ?_ ?_ ?_
  ·decide
  ·exact sJ.int (t:=28) underlying28
  ·decide
  exact Cov.nil 5
theorem aBm(k:Int):Tri prog 265 [.int .i64 k] [] (fun _=>True) (fun v H=>v=.agg (pgC (.pl k)).toArray∧H=[]):=by
 refine Tri.mk func265 rfl ntmps265 rfl fun w hw=>?_
 have hb:bQ (fun i=>[(0,1),(1,1),(2,1),(3,1),(4,1)][i]?) ([.int .i64 0]++[.int .i64 0]++[.int .i64 0]++[.int .i64 0]++[.int .u64 0]) [(0,.int .i64 k)]=some (pgC (.pl k)):=rfl
 refine W.k fun b_=>?_
 exact F.c0 (pgC (.pl k)) ⟨rfl,rfl⟩
theorem aM3(p:Pg):Tri prog 262 [.agg (pgC p).toArray] [] (fun _=>True) (fun v H=>v=.bool (decide (p=.pl 0))∧H=[]):=by
 refine Tri.mk func262 rfl ntmps262 rfl fun w hw=>?_
 have hl:=dW p
 by_cases h:p=.pl 0
 ·rw [decide_eq_true h]
  refine W.k fun b_=>?_
  (refine SW.l [] [0] ?_;refine aX 1 ?_)
  refine W.cq (aBm 0) ?_
  (refine bO [] ?_;refine dL 2 rfl (lS rfl rfl rfl (gB p) (gB (.pl 0)) (by rw [h])) ?_;refine SG.l [3,4] ?_)
  refine W.k ?_
  exact F.n
 ·rw [decide_eq_false h]
  refine W.k fun b_=>?_
  (refine SW.l [] [0] ?_;refine aX 1 ?_)
  refine W.cq (aBm 0) ?_
  (refine bO [] ?_;refine dL 2 rfl (nC rfl rfl rfl (gB p) (gB (.pl 0)) (fun hh=>h (oK hh))) ?_;refine SG.l [3,4] ?_)
  refine W.k ?_
  exact F.n
theorem aKj(p:Pg):Tri prog 216 [.agg (pgC p).toArray] [] (fun _=>True) (fun v H=>v=.bool (decide (p=.pl 3))∧H=[]):=by
 refine Tri.mk func216 rfl ntmps216 rfl fun w hw=>?_
 have hl:=dW p
 by_cases h:p=.pl 3
 ·rw [decide_eq_true h]
  refine W.k fun b_=>?_
  (refine SW.l [] [0] ?_;refine aX 1 ?_)
  refine W.cq (aBm 3) ?_
  (refine bO [] ?_;refine dL 2 rfl (lS rfl rfl rfl (gB p) (gB (.pl 3)) (by rw [h])) ?_;refine SG.l [3,4] ?_)
  refine W.k ?_
  exact F.n
 ·rw [decide_eq_false h]
  refine W.k fun b_=>?_
  (refine SW.l [] [0] ?_;refine aX 1 ?_)
  refine W.cq (aBm 3) ?_
  (refine bO [] ?_;refine dL 2 rfl (nC rfl rfl rfl (gB p) (gB (.pl 3)) (fun hh=>h (oK hh))) ?_;refine SG.l [3,4] ?_)
  refine W.k ?_
  exact F.n
theorem aJ9{sp:Nat}{F0:List Value}{st:Int}(hF:F0[9]?=some (.int .i64 st)):Tri prog 64 [ptv sp] [(sp,cl F0 169)] (fun _=>True) (fun v H=>v=.int .i64 st∧H=[(sp,cl F0 169)]):=by
 refine Tri.mk func64 rfl ntmps64 rfl fun w hw=>?_
 refine W.k ?_
 refine Fin.to [(sp,cl F0 169)] ?_
 exact F.f1 ⟨rfl,rfl⟩
section
variable {P:Program}{C:Ctx}{L:List Oper}{Q:Exit→Fr→Hp→Prop}{B:List Nat}{R R' H:Hp}{fuel:Nat}{listed:Array Bool}{ρ:Fr}{o:Oper}
end
theorem F.f4{P:Program}{C:Ctx}{ρ:Fr}{H:Hp}{fn:Func}{R:Value→Hp→Prop}{e:Exit}{t u x y:Nat}{v v2 v3 v4:Value}(hR:R (.tuple #[v,v2,v3,v4]) H)(he:e=.ret∨e=.normal:=by first|exact .inl rfl|exact .inr rfl)(hrs:fn.results=#[.tmp t,.tmp u,.tmp x,.tmp y]:=by exact rfl)(ht:lk ρ t=some v:=by exact rfl)(hu:lk ρ u=some v2:=by exact rfl)(hx:lk ρ x=some v3:=by exact rfl)(hy:lk ρ y=some v4:=by exact rfl):Fin P C fn R e ρ H:=
 Fin.of he (List.Perm.of_eq (aJ H).symm) hR fun a w hf _=>by
  have h1:=jK hf ht
  have h2:=jK hf hu
  have h3:=jK hf hx
  have h4:=jK hf hy
  rw [fV] at h1 h2 h3 h4
  simp [results,hrs,h1,h2,h3,h4]
abbrev Bl:=List (Int×List UInt8)
def Bl.at(l:Bl)(k:Int):Option (List UInt8):=(l.find? fun x=>decide (k=x.1)).map Prod.snd
abbrev plB(es:List Ei):Bl:=es.map fun x=>(x.k,x.bs)
theorem aMM(es:List Ei)(k:Int):Bl.at (plB es) k=(atI es k).map Ei.bs:=by
 unfold Bl.at atI plB
 rw [oB]
 simp [Function.comp_def]
instance plBM:aKx prog 161 (.slice none 0 0) where
 ok:=⟨3,50,underlying161,underlying3,by kernel_rfl⟩
abbrev aKR(sp m:Nat)(most:Int):List Value:=[ptv sp,.func (.func 25) #[ptv sp] #[],.int .i64 most,.map (some m)]
def aKt(b sp:Nat)(most:Int)(l:Bl)(H:Hp):Prop:=
 ∃ (m c:Nat) (es:List Ei) (Ht:Hp),H=(b,cl (aKR sp m most) 163)::(m,moI es c)::Ht∧l=plB es∧∀ x∈es,RdH Ht x.v x.bs∧x.bs.length=256
theorem aIE(sp:Nat){most:Int}(h0:0≤most):Tri prog 63 [ptv sp,.int .i64 most] [] (fun _=>True) (fun v H=>∃ b,v=ptv b∧aKt b sp most [] H):=by
 refine Tri.mk func63 rfl ntmps63 rfl fun w hw=>?_
 have hm:max most 0=most:=om
 refine W.k ?_
 refine aIz fun m=>?_
 have hbd:bQ (fun i=>[(0,1),(1,1),(2,1),(3,1)][i]?) ([.pointer none]++[.nilFunc]++[.int .i64 0]++[.map none]) [(0,ptv sp),(1,.func (.func 25) #[ptv sp] #[]),(2,.int .i64 (max most 0)),(3,.map (some m))]=some (aKR sp m most):=by rw [hm];rfl
 refine W.k fun b_=>?_
 refine F.f1 ?_
 exact⟨b_,rfl,m,0,[],[],rfl,rfl,by simp⟩
end
section
theorem aFq{P:Program}{w:World}{K:List Nat}{w0:World}{H:Hp}{t t2 e n bytes m len cap:Nat}{ty:TypeId}{a:Option Addr}{sv:Value}{xs ys z:List Value} [ht:cG P t e n] [hb:fO P e bytes] [hz:cD P e z] [h2:oC P t2]
  (hzn:z.length=n) (hv:eR P w (.slice a len cap) n len xs) (hx:xs.length=len*n) (hs:St K w0 H w) (hsrc:eR P w sv n m ys) (hys:ys.length=m*n) (hn:0<n) (hbytes:(xs.length+ys.length)*bytes≤140737488355328*n) (hb1:1≤bytes) (hg:cap<len+m) :
  ∃ v' w' Hs',(Builtin.append_ #[t,t2] ty #[.slice a len cap,sv]).run P w=.ok v' w'∧Sl e n v' (xs++ys) Hs'∧St K w0 (Hs'++H) w':=by
 obtain⟨i,hi,hisz⟩:=qQ ht.size
 have hby:i.bytes=bytes:=by have:=hb.ok;simpa [hi] using this
 obtain⟨zv,hzv,hzc⟩:=hz.ok
 have hzi:i.zero=some zv:=by simpa [hi] using hzv
 have hzl:zv.cells.size=n:=by rw [hzc];simpa using hzn
 have hl1:=(hsrc w rfl).1
 subst hisz hby
 have hmb:(len+m)*i.bytes≤140737488355328:=by
  refine wX hn ?_
  rw [hx,hys,← Nat.add_mul] at hbytes
  exact hbytes
 have hm63:len+m≤9223372036854775807:=by
  have:(len+m)*1≤(len+m)*i.bytes:=iL _ hb1
  omega
 have hrun:=oN (P:=P) (w:=w) (ty:=ty) (sLen:=len) (sCap:=cap) (base:=a) (xs:=xs) ht.ok hi hzi h2 hl1 (hv w.drew rfl).2 (hsrc w.drew rfl).2 hg hmb hm63
 refine⟨_,_,[(w.heap.size,_)],hrun,?_,hs.drew.alloc _⟩
 have hge:=grownCap_ge w (len+m) cap e
 exact .inr ⟨w.heap.size,len+m,grownCap w (len+m) cap e,(Builtin.zeroCells zv.cells (grownCap w (len+m) cap e-(len+m))).toList,rfl,by rw [aC,hx,hys,Nat.add_mul],by rw [gK,size_zeroCells,hzl,← Nat.add_mul];congr 1;omega,hge,rfl⟩
section
variable {P:Program}{C:Ctx}{Q:Exit→Fr→Hp→Prop}{ρ:Fr}{H:Hp}{L rest:List Oper}{d:Option Tmp}{ty:TypeId}{pos:String}{af:Array Edge}{g:Option (Nat×Bool)}{t t2 e n:Nat}{d':Option Nat}{x y:Operand}{a:Option Addr}{len cap:Nat}{sv:Value}
theorem aGy{bytes mm:Nat}{xs ys zv:List Value} [ht:cG P t e n] [fO P e bytes] [cD P e zv] [oC P t2](hv:∀ w,St C.K C.w0 H w→eR P w (.slice a len cap) n len xs)(hsrc:∀ w,St C.K C.w0 H w→eR P w sv n mm ys)(hk:∀ v' Hs',Sl e n v' (xs++ys) Hs'→SL P C L Q rest (pt ρ d' v') (Hs'++H))(hx:ev ρ x=some (.slice a len cap):=by exact rfl)(hy:ev ρ y=some sv:=by exact rfl)(hxs:xs.length=len*n:=by first|assumption|omega)(hys:ys.length=mm*n:=by first|assumption|omega)(hc:cap<len+mm:=by omega)(hzn:zv.length=n:=by exact rfl)(hn:0<n:=by decide)(hb1:1≤bytes:=by decide)(hbytes:(xs.length+ys.length)*bytes≤140737488355328*n:=by omega)
  (hg:gd L ρ ⟨d,.call { callee:=.builtin .append,args:=#[x,y],argTypes:=#[t,t2] },ty,pos,af,g⟩=some true:=by exact rfl) (hd:dk C.n d=some d':=by exact rfl):SL P C L Q (⟨d,.call { callee:=.builtin .append,args:=#[x,y],argTypes:=#[t,t2] },ty,pos,af,g⟩::rest) ρ H:=
 mM hg hd fun ac w hf hs=>by
  obtain⟨v',w',Hs',hrun,hv',hst⟩:=aFq (P:=P) (t:=t) (t2:=t2) (ty:=ty) hzn (hv w hs) hxs hs (hsrc w hs) hys hn hbytes hb1 hc
  exact⟨v',w',Hs'++H,.inl (by unfold execOp;simp [resolve,invoke,builtin,hf.eval hx,hf.eval hy,hrun]),hst,hk v' Hs' hv'⟩
end
attribute [local irreducible] SW SL SQ SH SA SS Pu Fin bZ aT
theorem aNB(n:Nat)(x:List UInt8){i:Nat}(h:i<n):(pad n x)[i]?=some (x.getD i 0):=by
 unfold pad
 rw [bI,if_pos h,aF]
 by_cases hx:i<x.length
 ·rw [aN hx,aA hx];rfl
 ·rw [aS om,aY (show x.length≤i by omega),gX,if_pos om];rfl
theorem aD8(v:Value)(x:List UInt8)(n:Nat)(hn:n≤65536):Tri prog 160 [v,.int .i64 (n:Int)] [] (fun w=>Rd [] w 1 v (cbs x)) (fun r H=>Sl 5 1 r (cbs (pad n x)) H):=by
 refine Tri.mk func160 rfl ntmps160 rfl fun w hw=>?_
 obtain⟨a,la,ca,rfl,hl1,hc1,hr1⟩:=hw.get
 rw [aI,Nat.mul_one] at hl1
 subst hl1
 have hY:One (Value.slice a x.length ca):=⟨rfl⟩
 have hpl:=sD n x
 refine W.j ?_
 refine cN [] [] (fun x:Value×Hp=>[(5,x.1)]) (fun x=>x.2) (fun y=>Sl 5 1 y.1 (cbs (pad n x)) y.2) ?_ ?_
 ·refine W.k ?_
  refine bN [0,1] (fun x:Nat×Value×Hp=>[(5,x.2.1),(6,.int .i64 (x.1:Int))]) (fun x=>x.2.2) (fun x=>n-x.1) (fun y=>y.1≤n∧Sl 5 1 y.2.1 (cbs ((pad n x).take y.1)) y.2.2) (0,.slice none 0 0,[]) ⟨Nat.zero_le _,Sl.nil _ _⟩ ?_
  rintro⟨j,v2,H2⟩ ⟨hj,h2⟩
  dsimp only at hj h2 ⊢
  have h21:=h2.isOne
  by_cases hjn:j<n
  ·have hts:(pad n x).take (j+1)=(pad n x).take j++[x.getD j 0]:=by rw [aO,aNB n x hjn];rfl
   have htl:((pad n x).take j).length=j:=by rw [aD];omega
   have hb1:∀ c:UInt8,bQ (fun i=>some (i*1,1)) (zs [.int .u8 0] 1) [(0,.int .u8 (c.toNat:Int))]=some (cbs [c]):=fun c=>rfl
   by_cases hjx:j<x.length
   case' pos=>
    obtain⟨b1,o1,l1,T1,z1,rfl,hbb,hk1,hy1⟩:=hr1 om
    have g1:=sO hy1 (aA hjx)
    have gx:x.getD j 0=x[j]:=by rw [aF,aA hjx];rfl
    rw [← gx] at g1
   case' neg=>
    have gx:x.getD j 0=0:=by rw [aF,aY om];rfl
    have hb0:bQ (fun i=>some (i*1,1)) (zs [.int .u8 0] 1) [(0,.int .u8 0)]=some (cbs [x.getD j 0]):=by rw [gx];rfl
   all_goals
    generalize x.getD j 0=c at *
    have hbc:=hb1 c
    clear hb1
    refine W.k fun b_=>?_
    refine W.ap h2 (ys:=cbs [c]) (mm:=1) (fun w2 hs=>(Sl.own 5 1 b_ (xs:=cbs [c]) rfl).srcAt hs inferInstance) (fun v3 H3 h3=>?_) (hys:=rfl) (hbytes:=by rw [aI,htl,aI];simp only [aW,dA];omega)
    have h31:=h3.isOne
    rw [← gT,← hts] at h3
    refine W.k ?_
    refine aT.mk (j+1,v3,H3) ?_
    exact⟨hjn,h3⟩
  ·have:j=n:=om
   subst this
   rw [aB om] at h2
   refine W.k ?_
   refine bZ.mk (v2,H2) ?_
   exact h2
 rintro⟨v2,H2⟩ h2
 dsimp only at h2 ⊢
 have h21:=h2.isOne
 refine W.k ?_
 refine Fin.to H2 ?_
 exact F.f1 h2
theorem uO(v:Value)(x:List UInt8)(hx:x.length≤8):Tri prog 161 [v] [] (fun w=>Rd [] w 1 v (cbs x)) (fun r H=>r=.int .u64 (eP x:Nat)∧H=[]):=by
 refine Tri.mk func161 rfl ntmps161 rfl fun w hw=>?_
 obtain⟨a,la,ca,rfl,hl1,hc1,hr1⟩:=hw.get
 rw [aI,Nat.mul_one] at hl1
 subst hl1
 have hY:One (Value.slice a x.length ca):=⟨rfl⟩
 rw [show eP x=mQ (x.drop 0) by unfold eP;rw [aB hx,bH]]
 refine W.j ?_
 refine SW.cut [] [] (fun _:Unit=>[(3,.int .u64 (mQ (x.drop 0):Nat))]) (fun _=>[]) (fun _=>True) ?_ ?_
 ·refine W.k ?_
  refine bN [0] (fun k:Nat=>[(3,.int .u64 (mQ (x.drop (x.length-k)):Nat)),(4,.int .i64 ((x.length:Int)-1-k))]) (fun _=>[]) (fun k=>x.length-k) (fun k=>k≤x.length) 0 (Nat.zero_le _) ?_ (hr:=by rw [lP,mV,Int.natCast_zero,Int.sub_zero];exact⟨rfl,rfl,trivial⟩)
  intro k hk
  by_cases hkn:k<x.length
  ·obtain⟨b1,o1,l1,T1,z1,rfl,hbb,hk1,hy1⟩:=hr1 om
   have hj:x.length-k-1<x.length:=om
   have g1:=sO hy1 (aA hj)
   haveI i0:eG ((x.length:Int)-1-k) (x.length-k-1):=⟨by omega⟩
   have hdr:x.drop (x.length-(k+1))=x[x.length-k-1]::x.drop (x.length-k):=by
    rw [show x.length-(k+1)=x.length-k-1 by omega,bM hj,show x.length-k-1+1=x.length-k by omega]
   have hf:=tD (x.drop (x.length-(k+1)))
   have hp:256^(x.drop (x.length-(k+1))).length≤256^8:=cV dc (by rw [aK];omega)
   have hfs:mQ (x.drop (x.length-(k+1)))=mQ (x.drop (x.length-k))*256+(x[x.length-k-1]).toNat:=by rw [hdr];rfl
   rw [hfs] at hf
   generalize x[x.length-k-1]=c at *
   generalize mQ (x.drop (x.length-k))=F at *
   have hc:=c.toNat_lt
   have hF:F*256+c.toNat<18446744073709551616:=om
   haveI i1:U64 (F:Int) (UInt64.ofNat F):=⟨by rw [bC];omega⟩
   have e3:(UInt64.ofNat F*256+c.toUInt64).toNat=mQ (x.drop (x.length-(k+1))):=by
    rw [hfs,jU,oV,pJ,bC,dC (show F<2^64 by omega),show (256:UInt64).toNat=256 from rfl]
    omega
   refine W.k ?_
   rw [e3,show (x.length:Int)-1-k-1=(x.length:Int)-1-((k+1:Nat):Int) by omega]
   refine aT.mk (k+1) ?_
   omega
  ·have:k=x.length:=om
   subst this
   rw [dM]
   refine W.k ?_
   refine bZ.mk () ?_
   trivial
 rintro _ -
 refine W.k ?_
 exact F.n
end
section
variable {P:Program}{C:Ctx}{Q:Exit→Fr→Hp→Prop}{ρ:Fr}{H:Hp}{L rest:List Oper}{o:Oper}{B:List Nat}{R R':Hp}{fuel:Nat}{listed:Array Bool}
theorem RdH.src{Ht:Hp}{v:Value}{bs:List UInt8}{w:World}(hv:RdH Ht v bs)(hh:∀ x∈Ht,w.heap[x.1]?=some x.2):∃ a len cap,v=.slice a len cap∧eR P w (.slice a len cap) 1 len (cbs bs):=by
 obtain⟨a,len,cap,rfl,hl,hc,hor⟩:=hv
 refine⟨a,len,cap,rfl,?_⟩
 rcases hor with h0|⟨b,j,l,T,fz,rfl,hm,hy⟩
 ·subst h0
  have:bs=[]:=cE hl
  subst this
  exact eR.empty w a cap 1
 ·exact eR.block (hh _ hm) (by rw [Nat.mul_one];exact hy) (by rw [aI,Nat.mul_one];exact hl)
theorem oE{t t' e n:Nat}{x:Operand}{v:Value}{bs:List UInt8}{Hs rr:Hp}(hv:RdH Hs v bs) [hp:fI H Hs rr](i:Nat)(Ws:List Nat)(hi:L[i]?=some o){d':Option Nat}(hk:SS P C L Q B (Hs++R) fuel (listed.setIfInBounds i true) (pt ρ d' (.string (aAQ bs))) H)(hok:aCz L B listed i Ws=true:=by kernel_rfl)(ho:o.op=.convert t t' x:=by exact rfl)(h1:cG P t e n:=by infer_instance)(h2:mJ P e .u8:=by infer_instance)(h3:aBA P t':=by infer_instance)(hx:ev ρ x=some v:=by exact rfl)(hg:gd L ρ o=some true:=by exact rfl)(hd:dk C.n o.dst=some d':=by exact rfl)(hQ:∀ c ρ H,Q (.panic c) ρ H→False:=by exact fun _ _ _ h=>Fin.np h):SS P C L Q B R (fuel+1) listed ρ H:=
 zE (R':=Hs++R) i Ws hi hok hQ (fun x hx=>aV _ hx) (fun x hx=>(cK.1 hx).elim (fun h=>.inr (hp.perm.mem_iff.2 (bA _ h))) .inl) (fun a hf=>.inl ⟨iA hf hg,fun w hr=>by
  obtain⟨pa,len,cap,rfl,hs⟩:=hv.src (P:=P) (w:=w) (fun x hx=>hr.2 x (bA _ hx))
  unfold execOp;rw [ho]
  simp [hf.eval hx,aCm (P:=P) (t:=t) (t':=t') (e:=e) (n:=n) hs]⟩) hd hk
theorem aG8{t t':TypeId}{x y:Operand}{a c:List UInt8}(ho:o.op=.binOp .neq t x y t')(hx:ev ρ x=some (.string (aAQ a)))(hy:ev ρ y=some (.string (aAQ c)))(h:a≠c):Pu P C ρ H o (.bool true):=by
 have:=aD1 (P:=P) (C:=C) (H:=H) ho hx hy
 rw [aBo,decide_eq_false h] at this
 exact this
end
section
variable {P:Program}{C:Ctx}{ρ:Fr}{H:Hp}{o:Oper}
theorem aD0{t t':TypeId}{x y:Operand}{a c:List UInt8}(ho:o.op=.binOp .eql t x y t')(hx:ev ρ x=some (.string (aAQ a)))(hy:ev ρ y=some (.string (aAQ c))):Pu P C ρ H o (.bool (decide (a=c))):=by
 have:=aDZ (P:=P) (C:=C) (H:=H) ho hx hy
 rw [aBo] at this
 exact this
end
end Go.Proofs.YtnigolgkkjidiaaGreat
