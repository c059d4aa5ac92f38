/- The document's Pad. The document's words. The document's Block. The document's Sum. -/
import Derived.Test.YtmceanmblcadcaaGreatPn7
import Derived.Test.YtmceanmblcadcaaGreatPn6
set_option linter.unusedVariables false
set_option linter.unusedSimpArgs false
set_option linter.unusedSectionVars false
set_option maxHeartbeats 8000000
namespace Go.Proofs.YtmceanmblcadcaaGreat
open Go Go.Proofs.Tryz
section
attribute [local irreducible] SW SL SQ SH SA SS Pu Fin bU aP
section
variable {P:Program}{C:Ctx}{Q:Exit→Fr→Hp→Prop}{ρ:Fr}{H:Hp}{L rest:List Oper}{d:Option Tmp}{ty:TypeId}{pos:String}{af:Array Edge}{g:Option (Nat×Bool)}{t t' len:Nat}{d':Option Nat}{x y:Operand}{m q:Int}{o:Oper}
theorem aJQ(ho:o.op=.binOp .quo t x y t')(hx:ev ρ x=some (.int .u64 m))(hy:ev ρ y=some (.int .u64 q))(h0:0≤m)(h1:m<18446744073709551616)(hn:0<q):Pu P C ρ H o (.int .u64 (m/q)):=
 aBc ho hx hy oQ (by
  rw [kM h0]
  have h2:0≤m/q:=rR h0 oQ
  have h3:m/q≤m:=pW q h0
  rw [lI];omega)
theorem aDc(h:SL P C L Q rest (pt ρ d' (.int .u64 (m/q))) H)(hx:ev ρ x=some (.int .u64 m):=by exact rfl)(hy:ev ρ y=some (.int .u64 q):=by exact rfl)(h0:0≤m:=by omega)(h1:m<18446744073709551616:=by omega)(hn:0<q:=by omega)(hg:gd L ρ ⟨d,.binOp .quo t x y t',ty,pos,af,g⟩=some true:=by exact rfl)(hd:dk C.n d=some d':=by exact rfl):SL P C L Q (⟨d,.binOp .quo t x y t',ty,pos,af,g⟩::rest) ρ H:=bD (aJQ rfl hx hy h0 h1 hn) hg hd h
end
def rT(v k:Nat):List UInt8:=List.replicate (8-k) 0++(Sha.beN 8 v).drop (8-k)
theorem aED(v k:Nat)(h:k≤8):(rT v k).length=8:=by simp [rT,Sha.beN_len];try omega
theorem aEE(v:Nat){k:Nat}(h:k<8):(cbs (rT v k)).set (7-k) (.int .u8 ((UInt8.ofNat (v/256^k)).toNat:Int))=cbs (rT v (k+1)):=by
 rcases lt8 h with rfl|rfl|rfl|rfl|rfl|rfl|rfl|rfl <;> rfl
theorem aHu(v:Nat):List.replicate 8 (Value.int .u8 0)=cbs (rT v 0):=by
 unfold rT
 rw [cD (by rw [Sha.beN_len];exact Nat.le_refl _),aE];rfl
theorem aHv(v:Nat):rT v 8=Sha.beN 8 v:=by simp [rT]
theorem aIY(n:Nat)(hn:n≤1099511627776):Tri prog 307 [.int .i64 (n:Int)] [] (fun _=>True) (fun r H=>Sl 5 1 r (cbs (Sha.padN n)) H):=by
 refine Tri.mk func307 rfl ntmps307 rfl fun w hw=>?_
 have hv8:(UInt64.ofNat n*8).toNat=8*n:=by
  have e8:(8:UInt64).toNat=8:=rfl
  rw [mR,aV,e8];omega
 have hbl:bP (fun i=>some (i*1,1)) (zs [.int .u8 0] 1) [(0,.int .u8 128)]=some [.int .u8 128]:=rfl
 have hbl0:bP (fun i=>some (i*1,1)) (zs [.int .u8 0] 1) [(0,.int .u8 0)]=some [.int .u8 0]:=rfl
 refine W.j fun b_=>?_
 obtain⟨Z,hZ⟩:∃ Z,Z=(119-n%64)%64:=⟨_,rfl⟩
 have hpad:Sha.padN n=(0x80::List.replicate Z 0)++Sha.beN 8 (8*n):=by rw [hZ];rfl
 rw [hpad]
 refine bZ [0] [(b_,cl [.int .u8 128] 5)] (fun x:Value×Hp=>[(3,x.1)]) (fun x=>x.2) (fun x=>Sl 5 1 x.1 (cbs (0x80::List.replicate Z 0)) x.2) ?_ ?_
 ·refine W.k ?_
  have h0:Sl 5 1 (.slice (some ⟨b_,0,none⟩) 1 1) (cbs (0x80::List.replicate 0 0)) [(b_,cl [.int .u8 128] 5)]:=Sl.mk (xs:=[.int .u8 128]) (junk:=[]) (len:=1) (cap:=1) rfl rfl (Nat.le_refl _)
  refine bX [0] [b_] (fun x:Nat×Value×Hp=>[(3,x.2.1)]) (fun x=>x.2.2) (fun x=>Z-x.1) (fun x=>x.1≤Z∧Sl 5 1 x.2.1 (cbs (0x80::List.replicate x.1 0)) x.2.2) (0,_,_) ⟨by omega,h0⟩ ?_
  rintro⟨z,v,Hs⟩ ⟨hz,hv⟩
  dsimp only at hz hv ⊢
  have hv1:=hv.isOne
  obtain⟨a,len,cap,rfl,hl⟩:=hv.form
  have hlen:len=z+1:=by rw [aF,aY,aM] at hl;omega
  subst hlen
  by_cases hzz:z<Z
  ·refine W.k fun b_=>?_
   refine W.ap hv (ys:=[.int .u8 0]) (mm:=1) (fun w2 hs=>eJ.block (l:=[.int .u8 0]) hs.at rfl rfl) (fun v2 H2 h2=>?_) (hys:=rfl) (hbytes:=by rw [aF];simp;omega)
   have h21:=h2.isOne
   have e:cbs (0x80::List.replicate z 0)++[.int .u8 0]=cbs (0x80::List.replicate (z+1) 0):=by
    rw [nA,← eD,gU];rfl
   rw [e] at h2
   refine W.k ?_
   refine aP.mk (z+1,v2,H2) ?_
   exact⟨by omega,h2⟩
  ·have:z=Z:=oQ
   subst this
   refine W.k ?_
   refine bU.mk (.slice a (z+1) cap,Hs) ?_
   exact hv
 rintro⟨v,Hs⟩ hv
 dsimp only at hv ⊢
 have hv1:=hv.isOne
 refine W.j fun b_=>?_
 rw [hv8]
 have hV:8*n<18446744073709551616:=oQ
 generalize 8*n=V at hV ⊢
 rw [show zs [Value.int .u8 0] 8=cbs (rT V 0) by rw [← aHu];rfl]
 refine SW.cut [3,5] [b_] (fun _:Unit=>[]) (fun _=>[(b_,cl (cbs (rT V 8)) 5)]) (fun _=>True) ?_ ?_
 ·refine W.k ?_
  rw [show (V:Int)=((V/256^0:Nat):Int) by simp]
  refine bX [3,5] [b_] (fun k:Nat=>[(4,.int .u64 ((V/256^k:Nat):Int)),(6,.int .i64 (7-(k:Int)))]) (fun k=>[(b_,cl (cbs (rT V k)) 5)]) (fun k=>8-k) (fun k=>k≤8) 0 oQ ?_
  intro k hk
  have hlen:=aED V k hk
  have hVk:V/256^k≤V:=jZ _ _
  by_cases hk8:k<8
  ·have hs:=aEE V hk8
   haveI i1:Cv .u8 (((V/256^k:Nat):Int)%256) ((UInt8.ofNat (V/256^k)).toNat:Int):=⟨by rw [rA,cP];omega⟩
   haveI i2:dK (7-(k:Int)) (7-k):=⟨by omega⟩
   have hlk:7-k<(cbs (rT V k)).length:=by rw [aF];omega
   have hd:((V/256^k:Nat):Int)/256=((V/256^(k+1):Nat):Int):=by
    rw [fT,← jT];rfl
   generalize V/256^k=X at hs i1 hVk hd ⊢
   refine W.k ?_
   refine aDc ?_
   refine W.k ?_
   rw [hs,hd,show (7:Int)-(k:Int)-1=7-((k+1:Nat):Int) by omega]
   refine aP.mk (k+1) ?_
   omega
  ·have:k=8:=oQ
   subst this
   refine W.k ?_
   refine bU.mk () ?_
   trivial
 rintro _ -
 rw [aHv]
 refine W.k ?_
 refine W.ap hv (ys:=cbs (Sha.beN 8 V)) (mm:=8) (fun w2 hs=>eJ.block (l:=cbs (Sha.beN 8 V)) hs.at (by rw [bN,aG (by rw [aF,Sha.beN_len];exact Nat.le_refl _)]) (by rw [aF,Sha.beN_len])) (fun v2 H2 h2=>?_) (hys:=by rw [aF,Sha.beN_len]) (hbytes:=by rw [aF,aF,Sha.beN_len];simp;omega)
 have h21:=h2.isOne
 rw [← gU] at h2
 refine W.k ?_
 refine Fin.to H2 ?_
 refine F.f1 ?_
 exact h2
set_option maxRecDepth 100000 in
theorem aHq:Tri prog 310 [] [] (fun _=>True) (fun v H=>∃ b,v=.slice (some ⟨b,0,none⟩) 64 64∧H=[(b,cl (Sha.tabK.map eN) 182)]):=by
 refine Tri.mk func310 rfl ntmps310 rfl fun w hw=>?_
 (repeat' first|refine mQ ?_|refine lE ?_|refine W.as ?_|refine cW ?_|refine gW ?_)
 refine iO (rv:=Sha.tabK.map eN) (fun b_=>?_) (hr:=by kernel_rfl)
 refine W.k ?_
 exact F.f1 ⟨b_,rfl,rfl⟩
theorem aFl:Tri prog 308 [] [] (fun _=>True) (fun v H=>v=.agg (s8c Sha.ini).toArray∧H=[]):=by
 refine Tri.mk func308 rfl ntmps308 rfl fun w hw=>?_
 (repeat' first|refine mQ ?_|refine lE ?_|refine W.al fun b_=>?_|refine cW ?_|refine gW ?_)
 refine aKC (rv:=s8c Sha.ini) ?_ (hr:=by kernel_rfl)
 have hl:(s8c Sha.ini).length=8:=rfl
 refine W.k ?_
 refine F.c0 (s8c Sha.ini) ?_
 exact⟨rfl,rfl⟩
theorem aKM(e f g:UInt32):g ^^^ (e &&& (f ^^^ g))=Sha.ch e f g:=by
 unfold Sha.ch
 apply UInt32.toBitVec_inj.1
 simp only [UInt32.toBitVec_xor,UInt32.toBitVec_and,UInt32.toBitVec_not]
 ext i hi
 simp only [BitVec.getElem_xor,BitVec.getElem_and,BitVec.getElem_not]
 generalize e.toBitVec[i]=x
 generalize f.toBitVec[i]=y
 generalize g.toBitVec[i]=z
 cases x <;> cases y <;> cases z <;> rfl
theorem aJB(a b c:UInt32):(a &&& b) ||| (c &&& (a ||| b))=Sha.maj a b c:=by
 unfold Sha.maj
 apply UInt32.toBitVec_inj.1
 simp only [UInt32.toBitVec_xor,UInt32.toBitVec_and,UInt32.toBitVec_or]
 ext i hi
 simp only [BitVec.getElem_xor,BitVec.getElem_and,BitVec.getElem_or]
 generalize a.toBitVec[i]=x
 generalize b.toBitVec[i]=y
 generalize c.toBitVec[i]=z
 cases x <;> cases y <;> cases z <;> rfl
theorem aKg(a b c d:UInt32):a+b+c+d=d+c+b+a:=by ac_rfl
theorem pT(x:UInt32)(k:Nat)(hk:k<32)(h0:0<k):Tri prog 311 [eN x,.int .u64 (k:Int)] [] (fun _=>True) (fun v H=>v=eN (Sha.rotr x (UInt32.ofNat k))∧H=[]):=by
 refine Tri.mk func311 rfl ntmps311 rfl fun w hw=>?_
 obtain⟨f1,f2,f3⟩:=aAG k hk h0
 haveI i3:zG ((32-k:Nat):Int) (UInt32.ofNat (32-k)):=⟨by rw [f2],by rw [f2];omega⟩
 haveI i4:UAr .sub .u64 32 (k:Int) ((32-k:Nat):Int):=⟨fun P w t=>by
  have h:IntKind.u64.wrap (32-(k:Int))=((32-k:Nat):Int):=by rw [lI];omega
  simp [binOp,Op.intArith,h]⟩
 haveI i5:zG (k:Int) (UInt32.ofNat k):=⟨by rw [lL];omega,by rw [lL];omega⟩
 refine W.k ?_
 refine F.f1 ?_
 refine⟨?_,rfl⟩
 unfold Sha.rotr eN
 rw [f3]
abbrev rgs(S:S8):Fr:=[(10,eN S.a),(11,eN S.b),(12,eN S.c),(13,eN S.d),(14,eN S.e),(15,eN S.f),(16,eN S.g),(17,eN S.h)]
theorem aHw(bs:List UInt8){t:Nat}(h:4*t+4≤bs.length):Sha.be ((bs.drop (4*t)).take 4)=(bs.getD (4*t) 0).toUInt32*16777216+(bs.getD (4*t+1) 0).toUInt32*65536+(bs.getD (4*t+2) 0).toUInt32*256+(bs.getD (4*t+3) 0).toUInt32:=by
 have hb:(bs.drop (4*t)).take 4=[bs.getD (4*t) 0,bs.getD (4*t+1) 0,bs.getD (4*t+2) 0,bs.getD (4*t+3) 0]:=by
  have hg:∀ j (hj:j<bs.length),bs.getD j 0=bs[j]:=fun j hj=>by rw [List.getD,aA hj];rfl
  rw [bS oQ,bS oQ,bS oQ,bS oQ,hg _ oQ,hg _ oQ,hg _ oQ,hg _ oQ]
  rfl
 rw [hb]
 generalize bs.getD (4*t) 0=a
 generalize bs.getD (4*t+1) 0=b
 generalize bs.getD (4*t+2) 0=c
 generalize bs.getD (4*t+3) 0=d
 show ((((((0:UInt32) <<< 8) ||| a.toUInt32) <<< 8 ||| b.toUInt32) <<< 8 ||| c.toUInt32) <<< 8 ||| d.toUInt32)=_
 have st:∀ (v:UInt32) (c:UInt8),v.toNat<16777216→((v <<< 8) ||| c.toUInt32)=v*256+c.toUInt32:=fun v c hv=>by
  have hc:=c.toNat_lt
  apply UInt32.toNat_inj.1
  have e8:(8:UInt32).toNat=8:=rfl
  have e256:(256:UInt32).toNat=256:=rfl
  rw [UInt32.toNat_or,UInt32.toNat_shiftLeft,jM,jN,fW,e8,e256,iH,show 2^(8%32)=2^8 from rfl,dC (show v.toNat*2^8<2^32 by omega)]
  have:=Nat.shiftLeft_add_eq_or_of_lt (i:=8) (b:=c.toNat) oQ v.toNat
  rw [iH] at this
  rw [← this]
  omega
 have h0:((0:UInt32) <<< 8) ||| a.toUInt32=a.toUInt32:=by
  rw [st 0 a dQ];simp
 have ha:=a.toNat_lt
 have hb:=b.toNat_lt
 have hc:=c.toNat_lt
 have e256:(256:UInt32).toNat=256:=rfl
 have n1:(a.toUInt32*256+b.toUInt32).toNat=a.toNat*256+b.toNat:=by
  rw [jM,jN,fW,fW,e256];omega
 have n2:((a.toUInt32*256+b.toUInt32)*256+c.toUInt32).toNat=(a.toNat*256+b.toNat)*256+c.toNat:=by
  rw [jM,jN,n1,fW,e256];omega
 rw [h0,st _ b (by rw [fW];omega),st _ c (by rw [n1];omega),st _ d (by rw [n2];omega)]
 apply UInt32.toNat_inj.1
 have hd:=d.toNat_lt
 have e3:(16777216:UInt32).toNat=16777216:=rfl
 have e4:(65536:UInt32).toNat=65536:=rfl
 rw [jM,jN,n2,e256]
 simp only [jM,jN,fW,e256,e3,e4]
 omega
theorem aFq(s:S8)(a:Option Addr)(cap:Nat)(bs:List UInt8)(hb:bs.length=64):Tri prog 309 [.agg (s8c s).toArray,.slice a 64 cap] [] (fun w=>Rd [] w 1 (.slice a 64 cap) (cbs bs)) (fun v H=>v=.agg (s8c (Sha.blk s bs)).toArray∧H=[]):=by
 refine Tri.mk func309 rfl ntmps309 rfl fun w hw=>?_
 obtain⟨a',len,cap',e,hl,hc,hr⟩:=hw.get
 cases e
 obtain⟨blk,ob,l,T,fz,rfl,hb2,hbk,hys⟩:=hr oQ
 have hsz:∀ j,j<64→l[ob+j]?=some (.int .u8 ((bs.getD j 0).toNat:Int)):=fun j hj=>by
  have h1:((l.drop ob).take (64*1))[j]?=(cbs bs)[j]?:=by rw [hys]
  rw [bB,if_pos oQ,bA] at h1
  rw [h1,aL,List.getD,aA oQ];rfl
 refine W.j fun _ b_=>?_
 refine aH aHq ?_
 rintro _ _ ⟨bk,rfl,rfl⟩
 refine W.j fun b_=>?_
 rw [show List.replicate 64 (Value.int .u32 0)=kF bs 0 from rfl]
 refine bZ [2,4,5,6] [(b_,cl (kF bs 0) 201)] (fun _=>[]) (fun _:Unit=>[(b_,cl (kF bs 64) 201)]) (fun _=>True) ?_ ?_
 ·refine W.k ?_
  refine bX [1,2,4,5,6] [b_] (fun t:Nat=>[(7,.int .i64 (t:Int))]) (fun t=>[(b_,cl (kF bs t) 201)]) (fun t=>64-t) (fun t=>t≤64) 0 oQ ?_
  intro t ht
  by_cases ht64:t<64
  ·have hlen:t<(kF bs t).length:=by rw [tJ bs ht];exact ht64
   by_cases h16:t<16
   ·have e0:=hsz (4*t) oQ
    have e1:=hsz (4*t+1) oQ
    have e2:=hsz (4*t+2) oQ
    have e3:=hsz (4*t+3) oQ
    have hs:=wM bs ht64 (aGT bs h16)
    rw [aHw bs oQ] at hs
    generalize bs.getD (4*t) 0=x0 at e0 hs
    generalize bs.getD (4*t+1) 0=x1 at e1 hs
    generalize bs.getD (4*t+2) 0=x2 at e2 hs
    generalize bs.getD (4*t+3) 0=x3 at e3 hs
    generalize kF bs t=Z at hs hlen ⊢
    refine W.k ?_
    (refine SW.l [35] [0,1,2,3,4,5,6,7,8,9,10,11,12,13,14,15,16,17,18,19,20,21,22,23,24,25,26,27,28,29,30,31,32,33,34] ?_;refine cQ 35 ?_;refine W.i ?_;refine eH ?_)
    rw [hs]
    refine W.k ?_
    refine aP.mk (t+1) ?_
    omega
   ·have g2:=mZ bs (show t-2<t by omega)
    have g7:=mZ bs (show t-7<t by omega)
    have g15:=mZ bs (show t-15<t by omega)
    have g16:=mZ bs (show t-16<t by omega)
    haveI n2:dK ((t:Int)-2) (t-2):=⟨by omega⟩
    haveI n7:dK ((t:Int)-7) (t-7):=⟨by omega⟩
    haveI n15:dK ((t:Int)-15) (t-15):=⟨by omega⟩
    haveI n16:dK ((t:Int)-16) (t-16):=⟨by omega⟩
    have hs:=wM bs ht64 (aGS bs h16)
    generalize (Sha.sch bs t).getD (t-2) 0=x2 at g2 hs
    generalize (Sha.sch bs t).getD (t-7) 0=x7 at g7 hs
    generalize (Sha.sch bs t).getD (t-15) 0=x15 at g15 hs
    generalize (Sha.sch bs t).getD (t-16) 0=x16 at g16 hs
    have hZo:OC (kF bs t):=inferInstance
    generalize kF bs t=Z at g2 g7 g15 g16 hs hlen hZo ⊢
    rw [← aKg] at hs
    refine W.k ?_
    (refine SW.l [29] [0,1,2,3,4,5,7,10,11,14,15,16,17,19,21,24,25] ?_;refine aU 6 ?_)
    refine W.cq (pT x15 7 oQ oQ) ?_
    (refine bI [] ?_;refine aU 8 ?_)
    refine W.cq (pT x15 18 oQ oQ) ?_
    (refine SL.l [9,12,13,18] ?_;refine aU 20 ?_)
    refine W.cq (pT x2 17 oQ oQ) ?_
    (refine bI [] ?_;refine aU 22 ?_)
    refine W.cq (pT x2 19 oQ oQ) ?_
    (refine SL.l [23,26,27,28] ?_;refine cQ 29 ?_;refine W.i ?_;refine eH ?_)
    have hs':Z.set t (eN (x16+(Sha.rotr x15 (UInt32.ofNat 7) ^^^ Sha.rotr x15 (UInt32.ofNat 18) ^^^ x15 >>> 3)+x7+(Sha.rotr x2 (UInt32.ofNat 17) ^^^ Sha.rotr x2 (UInt32.ofNat 19) ^^^ x2 >>> 10)))=kF bs (t+1):=hs
    rw [hs']
    refine W.k ?_
    refine aP.mk (t+1) ?_
    omega
  ·have:t=64:=oQ
   subst this
   refine W.k ?_
   refine bU.mk () ?_
   trivial
 rintro _ -
 have hZ:∀ t,t<64→(kF bs 64)[t]?=some (eN ((Sha.sch bs 64).getD t 0)):=fun t h=>mZ bs h
 have hZl:(kF bs 64).length=64:=tJ bs oQ
 have hZo:OC (kF bs 64):=inferInstance
 generalize kF bs 64=Z at hZ hZl hZo ⊢
 have hT:∀ t,t<64→(Sha.tabK.map eN)[t]?=some (eN (Sha.tabK.getD t 0)):=fun t h=>by
  have hl:Sha.tabK.length=64:=rfl
  rw [aL,List.getD,aA oQ];rfl
 generalize Sha.tabK.map eN=TC at hT ⊢
 refine mQ ?_
 (refine SW.l [] [0,1,2,3,4,5,6,7,8,9,10,11,12,13,14,15,16,17,18,19,20,21,22,23,24] ?_)
 refine W.j ?_
 obtain⟨R,hR⟩:∃ R,R=Sha.rnds s bs 64:=⟨_,rfl⟩
 have hfin:Sha.blk s bs=Sha.plus s R:=by rw [hR];rfl
 rw [hfin]
 refine SW.cut [2,4] [] (fun _:Unit=>rgs R) (fun _=>[]) (fun _=>True) ?_ ?_
 ·refine W.k ?_
  refine bX [2,4,5,6] [] (fun t:Nat=>(18,.int .i64 (t:Int))::rgs (Sha.rnds s bs t)) (fun _=>[]) (fun t=>64-t) (fun t=>t≤64) 0 oQ ?_
  intro t ht
  by_cases ht64:t<64
  ·have hTt:=hT t ht64
   have hWt:=hZ t ht64
   have hstep:Sha.rnds s bs (t+1)=Sha.rnd (Sha.rnds s bs t) (Sha.tabK.getD t 0) ((Sha.sch bs 64).getD t 0):=rfl
   generalize Sha.rnds s bs t=S at hstep ⊢
   generalize Sha.tabK.getD t 0=K at hTt hstep
   generalize (Sha.sch bs 64).getD t 0=wt at hWt hstep
   have hzl:t<Z.length:=oQ
   refine W.k ?_
   (refine SW.l [] [0,1,3,6,10,11,12,13,14,15,16,18,19,20,21,23,24,25] ?_;refine aU 2 ?_)
   refine W.cq (pT S.e 6 oQ oQ) ?_
   (refine bI [] ?_;refine aU 4 ?_)
   refine W.cq (pT S.e 11 oQ oQ) ?_
   (refine SL.l [5] ?_;refine aU 7 ?_)
   refine W.cq (pT S.e 25 oQ oQ) ?_
   (refine SL.l [8,9,17,22,26,27,28] ?_)
   refine aDQ [2,4,5,6,10,11,12,13,14,15,16,17,18,19] ?_
   rw [aKM,show S.h+(Sha.rotr S.e (UInt32.ofNat 6) ^^^ Sha.rotr S.e (UInt32.ofNat 11) ^^^ Sha.rotr S.e (UInt32.ofNat 25))+Sha.ch S.e S.f S.g+K+wt=Sha.t1 S K wt from rfl]
   refine W.k ?_
   refine W.cw (pT S.a 2 oQ oQ) ?_
   refine W.cw (pT S.a 13 oQ oQ) ?_
   refine W.cw (pT S.a 22 oQ oQ) ?_
   rw [aJB,show (Sha.rotr S.a (UInt32.ofNat 2) ^^^ Sha.rotr S.a (UInt32.ofNat 13) ^^^ Sha.rotr S.a (UInt32.ofNat 22))+Sha.maj S.a S.b S.c=Sha.t2 S from rfl]
   refine aP.mk (t+1) ?_ (hr:=?_)
   ·omega
   ·rw [hstep]
    (repeat' first|exact trivial|refine And.intro rfl ?_)
  ·have:t=64:=oQ
   subst this
   rw [← hR]
   refine W.k ?_
   refine bU.mk () ?_
   trivial
 rintro _ -
 clear hR hfin
 generalize R=S
 have hbd:bP (fun i=>some (i*1,1)) (List.replicate 8 (.int .u32 0)) [(0,eN (s.a+S.a)),(1,eN (s.b+S.b)),(2,eN (s.c+S.c)),(3,eN (s.d+S.d)),(4,eN (s.e+S.e)),(5,eN (s.f+S.f)),(6,eN (s.g+S.g)),(7,eN (s.h+S.h))]=some (s8c (Sha.plus s S)):=rfl
 have hl8:(s8c (Sha.plus s S)).length=8:=rfl
 refine W.k ?_
 refine F.c0 (s8c (Sha.plus s S)) ?_
 exact⟨rfl,rfl⟩
theorem aLj(w:UInt32):(w >>> 24).toUInt8=UInt8.ofNat (w.toNat/256^3)∧(w >>> 16).toUInt8=UInt8.ofNat (w.toNat/256^2)∧(w >>> 8).toUInt8=UInt8.ofNat (w.toNat/256^1)∧w.toUInt8=UInt8.ofNat (w.toNat/256^0):=by
 have e24:(24:UInt32).toNat=24:=rfl
 have e16:(16:UInt32).toNat=16:=rfl
 have e8:(8:UInt32).toNat=8:=rfl
 refine⟨?_,?_,?_,?_⟩
 all_goals
  apply iY.1
  rw [UInt32.toNat_toUInt8,cP]
  try simp only [UInt32.toNat_shiftRight,e24,e16,e8,eB]
  try omega
theorem aEY(s:S8){k:Nat}(h:k<8):((((qP s k).set (4*k) (.int .u8 ((UInt8.ofNat ((s.get k).toNat/256^3)).toNat:Int))).set (4*k+1) (.int .u8 ((UInt8.ofNat ((s.get k).toNat/256^2)).toNat:Int))).set (4*k+2) (.int .u8 ((UInt8.ofNat ((s.get k).toNat/256^1)).toNat:Int))).set (4*k+3) (.int .u8 ((UInt8.ofNat ((s.get k).toNat/256^0)).toNat:Int))=qP s (k+1):=by
 rcases lt8 h with rfl|rfl|rfl|rfl|rfl|rfl|rfl|rfl <;> rfl
theorem aIZ(v:Value)(M:List UInt8)(hM:M.length≤1099511627000):Tri prog 295 [v] [] (fun w=>Rd [] w 1 v (cbs M)) (fun v H=>v=.agg (cbs (Sha.sum M)).toArray∧H=[]):=by
 refine Tri.mk func295 rfl ntmps295 rfl fun w hw=>?_
 obtain⟨a,len,cap,rfl,hl,hc,hr⟩:=hw.get
 rw [aF,Nat.mul_one] at hl
 refine W.j fun _ b_=>?_
 have h0:Sl 5 1 (.slice (some ⟨b_,0,none⟩) 0 0) [] [(b_,cl ([]:List Value) 5)]:=Sl.mk (xs:=[]) (junk:=[]) (len:=0) (cap:=0) rfl rfl (Nat.le_refl _)
 refine W.ap h0 (fun w2 hs=>hw.srcAt hs) (fun v1 H1 h1=>?_) (hys:=by rw [aF];omega) (hbytes:=by rw [aF];simp;omega)
 have h11:=h1.isOne
 rw [List.nil_append] at h1
 refine W.j ?_
 refine aH (aIY len oQ) ?_
 intro p1 HP hp1
 have hp11:=hp1.isOne
 obtain⟨q1,ql1,qc1,rfl,hql1⟩:=hp1.form
 have hpl:=Sha.padN_len len
 have hpl2:(Sha.padN len).length≤73:=by simp [Sha.padN,Sha.beN_len];omega
 have hpl3:9≤(Sha.padN len).length:=by simp [Sha.padN,Sha.beN_len]
 refine W.ap h1 (fun w2 hs=>hp1.srcAt hs inferInstance) (fun x1 X1 hx1=>?_) (hys:=by rw [hql1]) (hbytes:=by rw [aF,aF];omega)
 have hx11:=hx1.isOne
 rw [← gU] at hx1
 have hXl:(M++Sha.padN len).length=M.length+(Sha.padN len).length:=aB
 have hsum:Sha.outB (Sha.absorb Sha.ini (M++Sha.padN len)).1=Sha.sum M:=by rw [← hl];rfl
 rw [← hl] at hpl hpl2 hpl3 hXl
 rw [← hsum]
 rw [← hl] at hsum hx1 ⊢
 generalize hX:M++Sha.padN M.length=X at hx1 hXl ⊢
 have hX64:X.length%64=0:=oQ
 obtain⟨xa,xl,xc,rfl,-⟩:=hx1.form
 obtain⟨hxl,hxc,hxa⟩:=hx1.lens
 rw [aF] at hxl
 obtain⟨xb,rfl⟩:=hxa.resolve_left oQ
 obtain⟨R,hR⟩:∃ R,R=(Sha.absorb Sha.ini X).1:=⟨_,rfl⟩
 have hab:(Sha.absorb Sha.ini X).1=(Sha.absN (X.length/64) Sha.ini X).1:=rfl
 rw [← hR]
 refine W.j ?_
 refine W.cq aFl ?_
 have hl8:∀ s,(s8c s).length=8:=fun s=>rfl
 have hl80:=hl8 Sha.ini
 refine W.j fun b_=>?_
 obtain⟨b4,hb4⟩:∃ b4,b4=b_:=⟨_,rfl⟩
 rw [← hb4]
 clear hl80 hl8
 refine SW.cut [2,3] [b4] (fun _:Unit=>[(4,.pointer (some ⟨b4,0,none⟩))]) (fun _=>[(b4,cl (s8c R) 202)]) (fun _=>True) ?_ ?_
 ·refine W.k ?_
  refine bX [2,3,4] [b4] (fun j:Nat=>[(5,.int .i64 ((64*j:Nat):Int))]) (fun j=>[(b4,cl (s8c (Sha.absN j Sha.ini X).1) 202)]) (fun j=>X.length-j) (fun j=>64*j≤X.length) 0 oQ ?_
  intro j hj
  by_cases h64:64*j<xl
  ·have hst:=Sha.absN_fst j Sha.ini X
   have hblk:=aFq (Sha.absN j Sha.ini X).1 (some ⟨xb,64*j,none⟩) (xc-64*j) ((X.drop (64*j)).take 64) (by simp;omega)
   rw [← hst] at hblk
   obtain⟨S1,hS1⟩:∃ S1,S1=(Sha.absN (j+1) Sha.ini X).1:=⟨_,rfl⟩
   rw [← hS1] at hblk
   clear hst
   generalize (Sha.absN j Sha.ini X).1=S0 at hblk ⊢
   have hlj:(s8c S0).length=8:=rfl
   refine W.k ?_
   (refine SW.l [6,7] [0,1,2,3,4] ?_;refine eW 5 rfl (aBH rfl rfl rfl rfl oQ oQ) ?_;refine cQ 6 ?_)
   refine dL hblk ?_ ?_ (hpre:=fun w2 hs=>?_)
   ·rw [show 64*j+64-64*j=64 by omega]
   ·rintro _ _ ⟨rfl,rfl⟩
    have hlj1:(s8c S1).length=8:=rfl
    (refine bI [] ?_;refine cQ 7 ?_;refine W.i ?_;refine eH ?_)
    refine W.k ?_
    rw [hS1,show ((64*j:Nat):Int)+64=((64*(j+1):Nat):Int) by omega]
    refine aP.mk (j+1) ?_
    omega
   ·have h2:=(Rd.ownB [] hx1 hs).sub (64*j) (64*j+64) (xc-64*j) oQ oQ oQ
    rw [show 64*j+64-64*j=64 by omega,eX] at h2
    exact h2
  ·have hje:j=X.length/64:=oQ
   subst hje
   rw [← hab,← hR]
   refine W.k ?_
   refine bU.mk () ?_
   trivial
 rintro _ -
 refine W.j fun b_=>?_
 clear hR hab
 rename_i b6
 rw [show List.replicate 32 (Value.int .u8 0)=qP R 0 from rfl]
 refine SW.cut [2,6] [b_] (fun _:Unit=>[]) (fun _=>[(b_,cl (qP R 8) 54)]) (fun _=>True) ?_ ?_
 ·refine W.k ?_
  refine bX [2,6,30] [b_] (fun k:Nat=>[(31,.int .i64 (k:Int))]) (fun k=>[(b_,cl (qP R k) 54)]) (fun k=>8-k) (fun k=>k≤8) 0 oQ ?_
  intro k hk
  by_cases hk8:k<8
  ·have h2:=aDE R hk8
   have h3:=aEY R hk8
   obtain⟨y3,y2,y1,y0⟩:=aLj (R.get k)
   rw [← y3,← y2,← y1,← y0] at h3
   have hl32:=aCK R hk
   have hA:OC (qP R k):=inferInstance
   generalize qP R k=A at h3 hl32 hA ⊢
   generalize R.get k=y at h2 h3
   have g0:4*k<A.length:=oQ
   have g1:∀ v,4*k+1<(A.set (4*k) v).length:=fun v=>by rw [cT];omega
   have g2:∀ v v2,4*k+2<((A.set (4*k) v).set (4*k+1) v2).length:=fun v v2=>by rw [cT,cT];omega
   have g3:∀ v v2 v3,4*k+3<(((A.set (4*k) v).set (4*k+1) v2).set (4*k+2) v3).length:=fun v v2 v3=>by rw [cT,cT,cT];omega
   refine W.k ?_
   refine W.st ?_ (hi:=g1 _)
   refine W.k ?_
   refine W.st ?_ (hi:=g2 _ _)
   refine W.k ?_
   refine W.st ?_ (hi:=g3 _ _ _)
   refine W.k ?_
   rw [h3]
   refine aP.mk (k+1) ?_
   omega
  ·have:k=8:=oQ
   subst this
   refine W.k ?_
   refine bU.mk () ?_
   trivial
 rintro _ -
 rw [aGs]
 have hl3:(cbs (Sha.outB R)).length=32:=by rw [aF,Sha.outB_len]
 refine W.k ?_
 refine F.c0 (cbs (Sha.outB R)) ?_
 exact⟨rfl,rfl⟩
section
variable {P:Program}{C:Ctx}{ρ:Fr}{H:Hp}{o:Oper}{t e n len cap l h:Nat}{x y:Operand}{a:Option Addr}{k:IntKind}{m:Int}
theorem aJR [bR P t e n] [hi:dK m h](ho:o.op=.slice t x none (some y) none)(hx:ev ρ x=some (.slice a len cap))(hy:ev ρ y=some (.int k m))(hh:h≤cap):Pu P C ρ H o (.slice (jX a cap 0 n) (h-0) (cap-0)):=
 mK (vl:=none) (vh:=none) ho hx (l:=0) (h:=h) (.inl ⟨rfl,rfl⟩) (.inr ⟨y,k,m,rfl,hy,hi.ok⟩) (Nat.zero_le _) hh
end
theorem aIV(n:Nat)(hn:n≤1099511627776):Tri prog 194 [.slice none 0 0,.int .i64 (n:Int)] [] (fun _=>True) (fun v H=>Sl 5 1 v [] H):=by
 refine Tri.mk func194 rfl ntmps194 rfl fun w hw=>?_
 haveI i0:dK ((n:Int)-(0-0)) n:=⟨by omega⟩
 by_cases h:n=0
 ·subst h
  refine W.k ?_
  exact F.f1 (Sl.nil _ _)
 ·refine W.k ?_
  refine bD (aJR (a:=none) (len:=0) (cap:=0) (h:=0) rfl rfl rfl (Nat.le_refl _)) rfl rfl ?_
  refine W.k ?_
  refine aIy (Sl.nil _ _) (fun v1 H1 h1=>?_) (hbytes:=by simp;omega)
  rcases h1 with ⟨-,h1,-⟩|⟨b,len,cap,junk,rfl,hx,hj,hlc,rfl⟩
  ·simp at h1;omega
  ·have hlen:len=n:=by simpa using hx.symm
   subst hlen
   refine W.k ?_
   refine F.f1 ?_
   refine .inr ⟨b,0,cap,([]++List.replicate len (.int .u8 0))++junk,rfl,rfl,?_,Nat.zero_le _,by simp⟩
   rw [aB,hx];omega
theorem sI(v:Value)(bss:List (List UInt8))(hn:bss.flatten.length≤1099511627776)(hn2:bss.length≤1099511627776):Tri prog 134 [v] [] (fun w=>RdS [] w v bss) (fun v H=>Sl 5 1 v (cbs bss.flatten) H):=by
 refine Tri.mk func134 rfl ntmps134 rfl fun w hw=>?_
 obtain⟨vs,hR,hvl,hvs⟩:=hw
 obtain⟨pa,pl,pc,rfl,hpl,hpc,hpr⟩:=hR
 rw [Nat.mul_one] at hpl
 have hbl:bss.length=pl:=oQ
 refine W.j ?_
 refine SW.cut [0] [] (fun _:Unit=>[(3,.int .i64 (bss.flatten.length:Int))]) (fun _=>[]) (fun _=>True) ?_ ?_
 ·refine W.k ?_
  refine bX [0,9,10] [] (fun i:Nat=>[(3,.int .i64 ((bss.take i).flatten.length:Int)),(11,.int .i64 (i:Int))]) (fun _=>[]) (fun i=>pl-i) (fun i=>i≤pl) 0 oQ ?_
  intro i hi
  by_cases hip:i<pl
  ·obtain⟨bs,hbs⟩:∃ bs,bss[i]?=some bs:=⟨_,aA oQ⟩
   obtain⟨a,len,cap,hvi,hrd⟩:=hvs i bs hbs
   have hfl:=yV bss (i+1)
   have hf2:=qY bss hbs
   obtain⟨pb,po,l,T,fz,rfl,hpb,hpk,hpy⟩:=hpr.resolve_left oQ
   have hl:l[po+i]?=some (.slice a len cap):=by
    rw [← hpy,bB,if_pos oQ,bA] at hvi
    exact hvi
   obtain⟨hbsl,hlc⟩:=hrd.len1
   have hNl:((bss.take (i+1)).flatten).length=((bss.take i).flatten).length+len:=by rw [hf2,aB,hbsl]
   have hNi:(((bss.take (i+1)).flatten).length:Int)=(((bss.take i).flatten).length:Int)+len:=oQ
   generalize ((bss.take i).flatten).length=N at hNl hNi ⊢
   refine W.k ?_
   rw [← hNi]
   refine aP.mk (i+1) ?_
   omega
  ·have hi2:i=pl:=oQ
   subst hi2
   have hall:bss.take i=bss:=aG oQ
   rw [hall]
   refine W.k ?_
   refine bU.mk () ?_
   trivial
 rintro _ -
 refine W.j ?_
 refine aH (aIV bss.flatten.length hn) ?_
 intro v1 H1 h1
 have h11:=h1.isOne
 refine W.j ?_
 refine bZ [] H1 (fun x:Value×Hp=>[(6,x.1)]) (fun x=>x.2) (fun x=>Sl 5 1 x.1 (cbs bss.flatten) x.2) ?_ ?_
 ·refine W.k ?_
  refine bH [25,26] (fun x:Nat×Value×Hp=>[(6,x.2.1),(27,.int .i64 (x.1:Int))]) (fun x=>x.2.2) (fun x=>pl-x.1) (fun x=>x.1≤pl∧Sl 5 1 x.2.1 (cbs (bss.take x.1).flatten) x.2.2) (0,v1,H1) ⟨by omega,h1⟩ ?_
  rintro⟨i,v2,H2⟩ ⟨hi,h2⟩
  dsimp only at hi h2 ⊢
  have h21:=h2.isOne
  by_cases hip:i<pl
  ·obtain⟨bs,hbs⟩:∃ bs,bss[i]?=some bs:=⟨_,aA oQ⟩
   obtain⟨a,len,cap,hvi,hrd⟩:=hvs i bs hbs
   have hfl:=yV bss (i+1)
   have hf2:=qY bss hbs
   obtain⟨pb,po,l,T,fz,rfl,hpb,hpk,hpy⟩:=hpr.resolve_left oQ
   have hl:l[po+i]?=some (.slice a len cap):=by
    rw [← hpy,bB,if_pos oQ,bA] at hvi
    exact hvi
   obtain⟨hbsl,hlc⟩:=hrd.len1
   have hNl:((bss.take (i+1)).flatten).length=((bss.take i).flatten).length+len:=by rw [hf2,aB,hbsl]
   refine W.k ?_
   refine W.ap h2 (fun w2 hs=>hrd.srcAt hs) (fun v3 H3 h3=>?_) (hys:=by rw [aF];omega) (hbytes:=by rw [aF,aF];omega)
   have h31:=h3.isOne
   rw [← gU,← hf2] at h3
   refine W.k ?_
   refine aP.mk (i+1,v3,H3) ?_
   exact⟨by omega,h3⟩
  ·have hi2:i=pl:=oQ
   subst hi2
   have hall:bss.take i=bss:=aG oQ
   rw [hall] at h2
   refine W.k ?_
   refine bU.mk (v2,H2) ?_
   exact h2
 rintro⟨v2,H2⟩ h2
 dsimp only at h2 ⊢
 have h21:=h2.isOne
 refine W.k ?_
 refine Fin.to H2 ?_
 exact F.f1 h2
theorem vK(va vb:Value)(x y:List UInt8):Tri prog 135 [va,vb] [] (fun w=>Rd [] w 1 va (cbs x)∧Rd [] w 1 vb (cbs y)) (fun v H=>v=.bool (decide (x=y))∧H=[]):=by
 refine Tri.mk func135 rfl ntmps135 rfl fun w hw=>?_
 obtain⟨h1,h2⟩:=hw
 obtain⟨a,la,ca,rfl,-⟩:=h1.get
 obtain⟨b,lb,cb,rfl,-⟩:=h2.get
 refine W.k ?_
 refine aCe (fun w2 hs=>h1.srcAt hs) ?_
 refine W.k ?_
 refine aCe (fun w2 hs=>h2.srcAt hs) ?_
 refine aIz ?_
 rw [wR]
 refine W.k ?_
 exact F.f1 ⟨rfl,rfl⟩
theorem rB(v:Value)(x:List UInt8)(hx:x.length≤1099511627776):Tri prog 62 [v] [] (fun w=>Rd [] w 1 v (cbs x)) (fun v H=>Sl 5 1 v (cbs x) H):=by
 refine Tri.mk func62 rfl ntmps62 rfl fun w hw=>?_
 obtain⟨a,la,ca,rfl,hl,hc,hr⟩:=hw.get
 rw [aF,Nat.mul_one] at hl
 cases a with
 | none=>
  have h0:la=0:=by
   rcases jU la with h|h
   ·exact h
   ·obtain⟨b,o,l,T,fz,e,-⟩:=hr h
    cases e
  subst h0
  have hx0:x=[]:=cE hl
  subst hx0
  refine W.k ?_
  exact F.f1 (Sl.nil _ _)
 | some a=>
  refine W.k fun b_=>?_
  have h0:Sl 5 1 (.slice (some ⟨b_,0,none⟩) 0 0) [] [(b_,cl ([]:List Value) 5)]:=Sl.mk (xs:=[]) (junk:=[]) (len:=0) (cap:=0) rfl rfl (Nat.le_refl _)
  refine W.ap h0 (fun w2 hs=>hw.srcAt hs) (fun v1 H1 h1=>?_) (hys:=by rw [aF];omega) (hbytes:=by rw [aF];simp;omega)
  have h11:=h1.isOne
  rw [List.nil_append] at h1
  refine W.k ?_
  refine Fin.to H1 ?_
  exact F.f1 h1
section
variable {P:Program}{C:Ctx}{L:List Oper}{Q:Exit→Fr→Hp→Prop}{B:List Nat}{R R' H:Hp}{fuel:Nat}{listed:Array Bool}{ρ:Fr}{o:Oper}
theorem aI1{t len r:Nat}{z:Value}{x y:Operand}{b:List UInt8}{l:List (List UInt8×Value)}(i:Nat)(Ws:List Nat)(hi:L[i]?=some o){d':Option Nat}(hk:SS P C L Q B R' fuel (listed.setIfInBounds i true) (pt ρ d' (.tuple #[(atK l b).getD z,.bool (atK l b).isSome])) H)(hb:b.length=len)(hl:∀ x∈l,x.1.length=len)(hok:zR L B listed i Ws=true:=by kernel_rfl)(ho:o.op=.lookup t x y true:=by exact rfl)(iM:aC3 P t len z:=by infer_instance)(hx:ev ρ x=some (.map (some r)):=by exact rfl)(hy:ev ρ y=some (.agg (cbs b).toArray):=by exact rfl)(hat:At H r (mo l):=by infer_instance)(hin:Ins R r (mo l) R':=by infer_instance)(hg:gd L ρ o=some true:=by exact rfl)(hd:dk C.n o.dst=some d':=by exact rfl)(hQ:∀ c ρ H,Q (.panic c) ρ H→False:=by exact fun _ _ _ h=>Fin.np h):SS P C L Q B R (fuel+1) listed ρ H:=
 tN i Ws hi hok hQ hin.ok.2.1 (fun x hx=>(hin.ok.2.2 x hx).elim (fun e=>.inr (e▸hat.mem)) .inl) (fun a hf=>.inl ⟨fQ hf hg,fun w hr=>by
  have hb2:=hr.2 _ hin.ok.1
  unfold execOp;rw [ho];simp [hf.eval hx,hf.eval hy,aCT b hb hl hb2]⟩) hd hk
end
def RdH(H:Hp)(v:Value)(bs:List UInt8):Prop:=
 ∃ (a:Option Addr) (len cap:Nat),v=.slice a len cap∧bs.length=len∧len≤cap∧(len=0∨∃ (b o:Nat) (l:List Value) (T:TypeId) (fz:Nat×Nat),a=some ⟨b,o,none⟩∧(b,Obj.cells l.toArray T fz)∈H∧(l.drop o).take len=cbs bs)
theorem RdH.of{e:Nat}{v:Value}{bs:List UInt8}{Hs:Hp}(h:Sl e 1 v (cbs bs) Hs):RdH Hs v bs:=by
 rcases h with ⟨rfl,hb,rfl⟩|⟨b,len,cap,junk,rfl,hx,hj,hlc,rfl⟩
 ·have:bs=[]:=by simpa using hb
  subst this
  exact⟨none,0,0,rfl,rfl,Nat.le_refl _,.inl rfl⟩
 ·rw [Nat.mul_one] at hx
  refine⟨_,len,cap,rfl,by rw [← aF];exact hx,hlc,.inr ⟨b,0,cbs bs++junk,e,(0,0),rfl,by simp,?_⟩⟩
  rw [bN,← hx,dG];rfl
theorem RdH.mono{H H':Hp}{v:Value}{bs:List UInt8}(h:RdH H v bs)(hs:∀ x∈H,x∈H'):RdH H' v bs:=by
 obtain⟨a,len,cap,h1,h2,h3,h4⟩:=h
 exact⟨a,len,cap,h1,h2,h3,h4.imp id fun⟨b,o,l,T,fz,e1,e2,e3⟩=>⟨b,o,l,T,fz,e1,hs _ e2,e3⟩⟩
theorem RdH.one{H:Hp}{v:Value}{bs:List UInt8}(h:RdH H v bs):One v:=by
 obtain⟨a,len,cap,rfl,-⟩:=h;exact⟨rfl⟩
theorem RdH.rd{K:List Nat}{w0 w:World}{H Hc Ht r:Hp}{v:Value}{bs:List UInt8}(h:RdH Ht v bs)(hs:St K w0 H w) [hp:eY H (Hc++Ht) r]:Rd (Hc.map Prod.fst) w 1 v (cbs bs):=by
 obtain⟨a,len,cap,rfl,h2,h3,h4⟩:=h
 have hs2:=hs.perm hp.perm
 have hn:=hs2.nodup
 refine⟨a,len,cap,rfl,by rw [aF,h2,Nat.mul_one],h3,h4.imp id fun⟨b,o,l,T,fz,e1,e2,e3⟩=>⟨b,o,l,T,fz,e1,hs2.own b _ (by simp [e2]),fun hm=>?_,by rw [Nat.mul_one];exact e3⟩⟩
 simp only [bC,bF] at hn
 exact (gD.1 hn).2.2 b hm b (aT _ (List.mem_map_of_mem (f:=Prod.fst) e2)) rfl
theorem aJH{K:List Nat}{vs:List Value}{a:Option Addr}{l c:Nat}{b:List UInt8}{w:World}(hv:vs=[.slice a l c])(h:Rd K w 1 (.slice a l c) (cbs b)):∀ (i:Nat) (bs:List UInt8),[b][i]?=some bs→∃ (a:Option Addr) (len cap:Nat),vs[i]?=some (Value.slice a len cap)∧Rd K w 1 (.slice a len cap) (cbs bs):=by
 intro i bs hi
 have hi0:i=0:=by
  have:=(aD.1 hi).1
  simp at this;omega
 subst hi0
 cases hi
 subst hv
 exact⟨a,l,c,rfl,h⟩
structure Bk where
 kept:List (List UInt8)
 clash:Option (List UInt8×List UInt8)
def Bk.new:Bk:=⟨[],none⟩
def Bk.add(s:Bk)(t:List UInt8):Bk:=
 match s.kept.find? fun k=>decide (Sha.sum t=Sha.sum k) with
 | some old=>if old≠t∧s.clash=none then { s with clash:=some (old,t) } else s
 | none=>if s.kept.length<16384 then { s with kept:=s.kept++[t] } else s
abbrev bkc(tp m:Nat)(cp:Option Addr):List Value:=[.func (.func 95) #[.pointer (some ⟨tp,0,none⟩)] #[],.map (some m),.pointer cp]
abbrev kvs(kt:List (List UInt8×Value)):List (List UInt8×Value):=kt.map fun x=>(Sha.sum x.1,x.2)
theorem aD4(kt:List (List UInt8×Value)):∀ x∈kvs kt,x.1.length=32:=by
 intro x hx
 obtain⟨y,-,rfl⟩:=cA.1 hx
 exact Sha.sum_len _
theorem aHQ(kt:List (List UInt8×Value))(t:List UInt8)(v:Value):kvs kt++[(Sha.sum t,v)]=kvs (kt++[(t,v)]):=by simp
theorem aDT(kt:List (List UInt8×Value))(t:List UInt8):atK (kvs kt) (Sha.sum t)=(kt.find? fun x=>decide (Sha.sum t=Sha.sum x.1)).map Prod.snd:=by
 unfold atK kvs
 rw [mB]
 simp [Function.comp_def]
theorem aEJ(kt:List (List UInt8×Value))(t:List UInt8):(kt.map Prod.fst).find? (fun k=>decide (Sha.sum t=Sha.sum k))=(kt.find? fun x=>decide (Sha.sum t=Sha.sum x.1)).map Prod.fst:=by
 rw [mB]
 rfl
def ClP(Ht:Hp):Option (List UInt8×List UInt8)→Option Addr→Prop
 | none,cp=>cp=none
 | some (x,y),cp=>∃ c vx vy,cp=some ⟨c,0,none⟩∧(c,cl [vx,vy] 154)∈Ht∧RdH Ht vx x∧RdH Ht vy y∧x.length≤1099511627776∧y.length≤1099511627776
theorem ClP.mono{H H':Hp}{q:Option (List UInt8×List UInt8)}{cp:Option Addr}(h:ClP H q cp)(hs:∀ x∈H,x∈H'):ClP H' q cp:=by
 cases q with
 | none=>exact h
 | some x=>
  obtain⟨x,y⟩:=x
  obtain⟨c,vx,vy,h1,h2,h3,h4,h5⟩:=h
  exact⟨c,vx,vy,h1,hs _ h2,h3.mono hs,h4.mono hs,h5⟩
def fB(b tp:Nat)(s:Bk)(H:Hp):Prop:=
 ∃ (m:Nat) (kt:List (List UInt8×Value)) (cp:Option Addr) (Ht:Hp),H=(b,cl (bkc tp m cp) 152)::(m,mo (kvs kt))::(tp,cl lC 204)::Ht ∧
  s.kept=kt.map Prod.fst∧(∀ x∈kt,RdH Ht x.2 x.1∧x.1.length≤1099511627776)∧ClP Ht s.clash cp
instance texts:aC3 prog 149 32 (.slice none 0 0) where
 ok:=⟨55,23,underlying149,⟨by kernel_rfl,inferInstance,_,underlying55,underlying5,by kernel_rfl,inferInstance⟩,by kernel_rfl⟩
theorem aIP(tp:Nat):Tri prog 49 [.pointer (some ⟨tp,0,none⟩)] [(tp,cl lC 204)] (fun _=>True) (fun v H=>∃ b,v=.pointer (some ⟨b,0,none⟩)∧fB b tp Bk.new H):=by
 refine Tri.mk func49 rfl ntmps49 rfl fun w hw=>?_
 refine W.k ?_
 refine aFz fun m=>?_
 have hbd:bP (fun i=>[(0,1),(1,1),(2,1)][i]?) ([.nilFunc]++[.map none]++[.pointer none]) [(0,.func (.func 95) #[.pointer (some ⟨tp,0,none⟩)] #[]),(1,.map (some m))]=some (bkc tp m none):=rfl
 refine W.k fun b_=>?_
 refine F.f1 ?_
 exact⟨b_,rfl,m,[],none,[],rfl,rfl,by simp,rfl⟩
theorem aC1{b tp:Nat}{s:Bk}{H:Hp}(hB:fB b tp s H)(k:UInt8)(pv:Value)(bss:List (List UInt8))(hn:bss.flatten.length≤1099511626000)(hn2:bss.length≤1099511627776) :
  Tri prog 82 [.pointer (some ⟨b,0,none⟩),.int .u8 (k.toNat:Int),pv] H (fun w=>RdS (H.map Prod.fst) w pv bss) (fun v H'=>v=.agg (cbs (Sha.sum (k::bss.flatten))).toArray∧fB b tp (s.add (k::bss.flatten)) H'):=by
 obtain⟨m,kt,cp,Ht,rfl,hk,hr,hc⟩:=hB
 refine Tri.mk func82 rfl ntmps82 rfl fun w hw=>?_
 have hpv:=hw.one
 have hw2:=hw
 obtain⟨-,⟨pa,pl,pc,rfl,-⟩,-⟩:=hw
 have hb1:bP (fun i=>some (i*1,1)) (zs [.int .u8 0] 1) [(0,.int .u8 (k.toNat:Int))]=some (cbs [k]):=rfl
 refine W.k fun _ b_=>?_
 refine aH (sI _ bss oQ hn2) ?_ rfl (fun w2 hs=>hw2.ro (Hc:=[]) hs)
 intro v1 H1 h1
 have h11:=h1.isOne
 obtain⟨a1,l1,c1,rfl,hl1⟩:=h1.form
 rw [aF,Nat.mul_one] at hl1
 have hA:Sl 5 1 (.slice (some ⟨b_,0,none⟩) 1 1) (cbs [k]) [(b_,cl (cbs [k]) 5)]:=by
  have:=Sl.mk (e:=5) (n:=1) (b:=b_) (len:=1) (cap:=1) (xs:=cbs [k]) (junk:=[]) rfl rfl (Nat.le_refl _)
  rwa [aE] at this
 refine W.ap hA (fun w2 hs=>h1.srcAt hs inferInstance) (fun v2 H2 h2=>?_) (hys:=by rw [aF];omega) (hbytes:=by rw [aF,aF,dV];omega)
 have h21:=h2.isOne
 rw [← gU,show [k]++bss.flatten=k::bss.flatten from rfl] at h2
 have hTl:(k::bss.flatten).length≤1099511627000:=by rw [aY];omega
 generalize k::bss.flatten=T at h2 hTl ⊢
 obtain⟨a2,l2,c2,rfl,hl2⟩:=h2.form
 have hb4:bP (fun i=>some (i*1,1)) (zs [.slice none 0 0] 1) [(0,.slice a2 l2 c2)]=some [.slice a2 l2 c2]:=rfl
 have hf:[T].flatten=T:=by simp
 have hT:=fun b4=>aI5 (tp:=tp) [T] (.slice (some ⟨b4,0,none⟩) 1 1) (by rw [hf];omega) (by simp)
 rw [hf] at hT
 refine W.k fun b_=>?_
 refine dN [(tp,cl lC 204)] rfl rfl rfl rfl rfl rfl (hT b_) (fun w2 hs=>?_) ?_
 ·exact RdS.at (T:=23) (fz:=(0,0)) (Hc:=[(tp,cl lC 204)]) (vs:=[.slice a2 l2 c2]) (bss:=[T]) hs rfl (Nat.le_refl _) rfl (aJH rfl (Rd.own (Hc:=[(tp,cl lC 204)]) h2 hs inferInstance))
 rintro _ _ ⟨rfl,rfl⟩
 have h32:(cbs (Sha.sum T)).length=32:=by rw [aF,Sha.sum_len]
 refine W.k fun b_=>?_
 (refine SW.l [] [0,1,2,3,4] ?_;refine aI1 5 [] rfl ?_ (Sha.sum_len _) (aD4 _);refine SG.l [6,7,8,9,10,11] ?_)
 rw [aDT]
 have hkeep:fB b tp s ((b,cl (bkc tp m cp) 152)::(m,mo (kvs kt))::(tp,cl lC 204)::Ht):=⟨m,kt,cp,Ht,rfl,hk,hr,hc⟩
 have hadd:s.add T=match (kt.find? fun x=>decide (Sha.sum T=Sha.sum x.1)).map Prod.fst with
   | some old=>if old≠T∧s.clash=none then { s with clash:=some (old,T) } else s
   | none=>if s.kept.length<16384 then { s with kept:=s.kept++[T] } else s:=by
  unfold Bk.add
  rw [hk,aEJ]
 cases hfd:kt.find? fun x=>decide (Sha.sum T=Sha.sum x.1) with
 | none=>
  rw [hfd] at hadd
  have hkl:(kvs kt).length=kt.length:=aJ ..
  have hskl:s.kept.length=kt.length:=by rw [hk,aJ]
  have hn0:atK (kvs kt) (Sha.sum T)=none:=by rw [aDT,hfd];rfl
  dsimp only [Option.map_none,Option.getD_none,Option.isSome_none]
  dsimp only [Option.map_none] at hadd
  by_cases hlt:kt.length<16384
  ·rw [if_pos oQ] at hadd
   refine W.k ?_
   refine aIA ?_
   rw [hkl]
   refine W.k ?_
   (refine SW.l [6] [0,1,2,3,4,5] ?_;refine cQ 6 ?_)
   refine aKG ?_ (Sha.sum_len _) (aD4 _) hn0
   rw [aHQ]
   (refine bI [] ?_;refine eH ?_)
   refine W.k ?_
   refine F.cH ((b,cl (bkc tp m cp) 152)::(m,mo (kvs (kt++[(T,.slice a2 l2 c2)])))::(tp,cl lC 204)::(H2++Ht)) (cbs (Sha.sum T)) ?_
   refine⟨rfl,m,kt++[(T,.slice a2 l2 c2)],cp,H2++Ht,rfl,?_,?_,?_⟩
   ·rw [hadd,bC,← hk];rfl
   ·intro x hx
    rcases bQ.1 hx with h|h
    ·exact⟨(hr x h).1.mono fun y hy=>aN _ hy,(hr x h).2⟩
    ·rw [cY] at h
     subst h
     exact⟨(RdH.of h2).mono fun y hy=>aT _ hy,by show T.length≤_;omega⟩
   ·rw [hadd]
    exact hc.mono fun y hy=>aN _ hy
  ·rw [if_neg oQ] at hadd
   refine W.k ?_
   refine aIA ?_
   rw [hkl]
   refine W.k ?_
   refine F.cH ((b,cl (bkc tp m cp) 152)::(m,mo (kvs kt))::(tp,cl lC 204)::Ht) (cbs (Sha.sum T)) ?_
   exact⟨rfl,by rw [hadd];exact hkeep⟩
 | some x=>
  obtain⟨old,ov⟩:=x
  rw [hfd] at hadd
  have hmem:=gN hfd
  obtain⟨hov,hol⟩:=hr _ hmem
  dsimp only at hov hol
  have hov2:=hov
  have hov1:=hov.one
  obtain⟨oa,ol,oc,rfl,-⟩:=hov2
  dsimp only [Option.map_some,Option.getD_some,Option.isSome_some]
  dsimp only [Option.map_some] at hadd
  refine W.k ?_
  refine W.cq (vK (.slice oa ol oc) (.slice a2 l2 c2) old T) ?_ rfl (fun w2 hs=>⟨hov.rd (Hc:=[]) hs,Rd.ownB [] h2 hs⟩)
  by_cases ho:old=T
  ·rw [decide_eq_true ho]
   rw [if_neg (by simp [ho])] at hadd
   refine W.k ?_
   refine F.cH ((b,cl (bkc tp m cp) 152)::(m,mo (kvs kt))::(tp,cl lC 204)::Ht) (cbs (Sha.sum T)) ?_
   exact⟨rfl,by rw [hadd];exact hkeep⟩
  ·rw [decide_eq_false ho]
   cases hcl:s.clash with
   | none=>
    rw [hcl] at hc
    have hcp:cp=none:=hc
    subst hcp
    rw [if_pos ⟨ho,hcl⟩] at hadd
    have hb9:bP (fun i=>[(0,1),(1,1)][i]?) ([.slice none 0 0]++[.slice none 0 0]) [(0,.slice oa ol oc),(1,.slice a2 l2 c2)]=some [.slice oa ol oc,.slice a2 l2 c2]:=rfl
    refine W.k fun b_=>?_
    rw [show (bkc tp m none).set 2 (.pointer (some ⟨b_,0,none⟩))=bkc tp m (some ⟨b_,0,none⟩) from rfl]
    refine F.cH ((b,cl (bkc tp m (some ⟨b_,0,none⟩)) 152)::(m,mo (kvs kt))::(tp,cl lC 204)::(b_,cl [.slice oa ol oc,.slice a2 l2 c2] 154)::(H2++Ht)) (cbs (Sha.sum T)) ?_
    refine⟨rfl,m,kt,some ⟨b_,0,none⟩,(b_,cl [.slice oa ol oc,.slice a2 l2 c2] 154)::(H2++Ht),rfl,?_,?_,?_⟩
    ·rw [hadd];exact hk
    ·intro x hx
     exact⟨(hr x hx).1.mono fun y hy=>cC _ (aN _ hy),(hr x hx).2⟩
    ·rw [hadd]
     exact⟨b_,_,_,rfl,by simp,hov.mono fun y hy=>cC _ (aN _ hy),(RdH.of h2).mono fun y hy=>cC _ (aT _ hy),hol,by omega⟩
   | some q=>
    obtain⟨q1,q2⟩:=q
    have hc2:=hc
    rw [hcl] at hc2
    obtain⟨c,vx,vy,rfl,-⟩:=hc2
    rw [if_neg (by rw [hcl];simp)] at hadd
    refine W.k ?_
    refine F.cH ((b,cl (bkc tp m (some ⟨c,0,none⟩)) 152)::(m,mo (kvs kt))::(tp,cl lC 204)::Ht) (cbs (Sha.sum T)) ?_
    exact⟨rfl,by rw [hadd];exact hkeep⟩
instance digEq:EqB prog 55 32 where
 guard:=by kernel_rfl
 row:=inferInstance
 ok:=⟨_,underlying55,underlying5,by kernel_rfl,inferInstance⟩
theorem aBU{K:List Nat}{vs:List Value}{a a':Option Addr}{l l' c c':Nat}{b b':List UInt8}{w:World}(hv:vs=[.slice a l c,.slice a' l' c'])(h:Rd K w 1 (.slice a l c) (cbs b))(h':Rd K w 1 (.slice a' l' c') (cbs b')):∀ (i:Nat) (bs:List UInt8),[b,b'][i]?=some bs→∃ (a:Option Addr) (len cap:Nat),vs[i]?=some (Value.slice a len cap)∧Rd K w 1 (.slice a len cap) (cbs bs):=by
 intro i bs hi
 have hi0:i=0∨i=1:=by
  have:=(aD.1 hi).1
  simp at this;omega
 subst hv
 rcases hi0 with rfl|rfl
 ·cases hi
  exact⟨a,l,c,rfl,h⟩
 ·cases hi
  exact⟨a',l',c',rfl,h'⟩
theorem aHg(k:UInt8)(v:Value)(bss:List (List UInt8))(hn:bss.flatten.length≤1099511626000)(hn2:bss.length≤1099511627776):Tri prog 296 [.int .u8 (k.toNat:Int),v] [] (fun w=>RdS [] w v bss) (fun v H=>Sl 5 1 v (cbs (k::bss.flatten)) H):=by
 refine Tri.mk func296 rfl ntmps296 rfl fun w hw=>?_
 obtain⟨vs,hR,hvl,hvs⟩:=hw
 obtain⟨pa,pl,pc,rfl,hpl,hpc,hpr⟩:=hR
 rw [Nat.mul_one] at hpl
 have hbl:bss.length=pl:=oQ
 have hb1:bP (fun i=>some (i*1,1)) (zs [.int .u8 0] 1) [(0,.int .u8 (k.toNat:Int))]=some (cbs [k]):=rfl
 refine W.j fun b_=>?_
 have hA:Sl 5 1 (.slice (some ⟨b_,0,none⟩) 1 1) (cbs (k::(bss.take 0).flatten)) [(b_,cl (cbs [k]) 5)]:=by
  have:=Sl.mk (e:=5) (n:=1) (b:=b_) (len:=1) (cap:=1) (xs:=cbs [k]) (junk:=[]) rfl rfl (Nat.le_refl _)
  rw [aE] at this
  simpa using this
 refine bZ [] [(b_,cl (cbs [k]) 5)] (fun x:Value×Hp=>[(5,x.1)]) (fun x=>x.2) (fun x=>Sl 5 1 x.1 (cbs (k::bss.flatten)) x.2) ?_ ?_
 ·refine W.k ?_
  refine bH [10,11] (fun x:Nat×Value×Hp=>[(5,x.2.1),(12,.int .i64 (x.1:Int))]) (fun x=>x.2.2) (fun x=>pl-x.1) (fun x=>x.1≤pl∧Sl 5 1 x.2.1 (cbs (k::(bss.take x.1).flatten)) x.2.2) (0,.slice (some ⟨b_,0,none⟩) 1 1,[(b_,cl (cbs [k]) 5)]) ⟨by omega,hA⟩ ?_
  rintro⟨i,v2,H2⟩ ⟨hi,h2⟩
  dsimp only at hi h2 ⊢
  have h21:=h2.isOne
  by_cases hip:i<pl
  ·obtain⟨bs,hbs⟩:∃ bs,bss[i]?=some bs:=⟨_,aA oQ⟩
   obtain⟨a,len,cap,hvi,hrd⟩:=hvs i bs hbs
   have hfl:=yV bss (i+1)
   have hf2:=qY bss hbs
   obtain⟨pb,po,l,T,fz,rfl,hpb,hpk,hpy⟩:=hpr.resolve_left oQ
   have hl:l[po+i]?=some (.slice a len cap):=by
    rw [← hpy,bB,if_pos oQ,bA] at hvi
    exact hvi
   obtain⟨hbsl,hlc⟩:=hrd.len1
   have hNl:((bss.take (i+1)).flatten).length=((bss.take i).flatten).length+len:=by rw [hf2,aB,hbsl]
   refine W.k ?_
   refine W.ap h2 (fun w2 hs=>hrd.srcAt hs) (fun v3 H3 h3=>?_) (hys:=by rw [aF];omega) (hbytes:=by rw [aF,aF,aY];omega)
   have h31:=h3.isOne
   rw [← gU,eD,← hf2] at h3
   refine W.k ?_
   refine aP.mk (i+1,v3,H3) ?_
   exact⟨by omega,h3⟩
  ·have hi2:i=pl:=oQ
   subst hi2
   have hall:bss.take i=bss:=aG oQ
   rw [hall] at h2
   refine W.k ?_
   refine bU.mk (v2,H2) ?_
   exact h2
 rintro⟨v2,H2⟩ h2
 dsimp only at h2 ⊢
 have h21:=h2.isOne
 refine W.k ?_
 refine Fin.to H2 ?_
 exact F.f1 h2
theorem aBl(k:UInt8)(v:Value)(bss:List (List UInt8))(hn:bss.flatten.length≤1099511626000)(hn2:bss.length≤1099511627776):Tri prog 268 [.int .u8 (k.toNat:Int),v] [] (fun w=>RdS [] w v bss) (fun v H=>v=.agg (cbs (Sha.sum (k::bss.flatten))).toArray∧H=[]):=by
 refine Tri.mk func268 rfl ntmps268 rfl fun w hw=>?_
 have hpv:=hw.one
 have hl3:(cbs (Sha.sum (k::bss.flatten))).length=32:=by rw [aF,Sha.sum_len]
 refine W.k fun b_=>?_
 refine aH (aHg k v bss hn hn2) ?_ rfl (fun w2 hs=>hw.ro (Hc:=[]) hs)
 intro v1 H1 h1
 have h11:=h1.isOne
 refine W.k ?_
 refine W.cw (aIZ v1 _ (by rw [aY];omega)) ?_ rfl (fun w2 hs=>Rd.ownB [] h1 hs)
 refine F.c0 _ ?_
 exact⟨rfl,rfl⟩
instance(priority:=low) cv8n (n:Nat):Cv .u8 (n:Int) ((UInt8.ofNat n).toNat:Int):=⟨by
 rw [rA,cP];omega⟩
theorem Sl.own(e n b:Nat){len:Nat}{xs:List Value}(h:xs.length=len*n):Sl e n (.slice (some ⟨b,0,none⟩) len len) xs [(b,cl xs e)]:=by
 have:=Sl.mk (e:=e) (n:=n) (b:=b) (len:=len) (cap:=len) (xs:=xs) (junk:=[]) h (by simp) (Nat.le_refl _)
 rwa [aE] at this
theorem uO(n:Nat)(v:UInt64)(hn:1≤n)(hn8:n≤8):Tri prog 83 [.int .i64 (n:Int),dX v] [] (fun _=>True) (fun r H=>∃ b,r=.slice (some ⟨b,0,none⟩) n n∧H=[(b,cl (cbs (leN n v)) 5)]):=by
 refine Tri.mk func83 rfl ntmps83 rfl fun w hw=>?_
 refine W.k fun b_=>?_
 refine aH (aDV n v (byU v) 137 [aGo n v] hn hn8 (fun k hk=>aLa n v k oQ)) ?_
 rintro _ _ ⟨b,rfl,rfl⟩
 rw [show (List.range n).map (byU v)=leN n v from rfl]
 refine W.k ?_
 refine Fin.to [(b,cl (cbs (leN n v)) 5)] ?_
 refine F.f1 ?_
 exact⟨b,rfl,rfl⟩
theorem tG(n:Nat)(v:UInt64)(hn8:n≤8):Tri prog 265 [.int .i64 (n:Int),dX v] [] (fun _=>True) (fun r H=>Sl 5 1 r (cbs (leN n v)) H):=by
 refine Tri.mk func265 rfl ntmps265 rfl fun w hw=>?_
 refine W.j ?_
 have hV:v.toNat<18446744073709551616:=v.toNat_lt
 refine bZ [0] [] (fun x:Value×Hp=>[(5,x.1)]) (fun x=>x.2) (fun x=>Sl 5 1 x.1 (cbs (leN n v)) x.2) ?_ ?_
 ·refine W.k ?_
  rw [show dX v=.int .u64 ((v.toNat/256^0:Nat):Int) by simp [dX]]
  refine bH [0] (fun x:Nat×Value×Hp=>[(1,.int .u64 ((v.toNat/256^x.1:Nat):Int)),(5,x.2.1),(6,.int .i64 (x.1:Int))]) (fun x=>x.2.2) (fun x=>n-x.1) (fun x=>x.1≤n∧Sl 5 1 x.2.1 (cbs (leN x.1 v)) x.2.2) (0,.slice none 0 0,[]) ⟨by omega,Sl.nil _ _⟩ ?_
  rintro⟨i,v2,H2⟩ ⟨hi,h2⟩
  dsimp only at hi h2 ⊢
  have h21:=h2.isOne
  by_cases hin:i<n
  ·have hs:leN (i+1) v=leN i v++[byU v i]:=by simp [leN,bJ]
   have hb:=wZ v (k:=i) oQ
   have hq:((v.toNat/256^(i+1):Nat):Int)=((v.toNat/256^i:Nat):Int)/256:=by rw [fT,← jT];rfl
   have hx:v.toNat/256^i≤v.toNat:=jZ ..
   generalize v.toNat/256^i=X at hb hq hx ⊢
   have hb1:bP (fun i=>some (i*1,1)) (zs [.int .u8 0] 1) [(0,.int .u8 ((byU v i).toNat:Int))]=some (cbs [byU v i]):=rfl
   haveI i1:Cv .u8 ((X:Int)%256) ((byU v i).toNat:Int):=⟨by rw [rA,hb,cP];omega⟩
   refine W.k fun b_=>?_
   refine W.ap (ys:=cbs [byU v i]) (mm:=1) h2 (fun w hs=>(Sl.own 5 1 b_ (xs:=cbs [byU v i]) rfl).srcAt hs inferInstance) (fun v3 H3 h3=>?_) (hys:=rfl) (hbytes:=by simp [dD];omega)
   have h31:=h3.isOne
   rw [← gU,← hs] at h3
   refine W.k ?_
   refine aDc ?_
   refine W.k ?_
   rw [← hq]
   refine aP.mk (i+1,v3,H3) ?_
   exact⟨by omega,h3⟩
  ·have:i=n:=oQ
   subst this
   refine W.k ?_
   refine bU.mk (v2,H2) ?_
   exact h2
 rintro⟨v2,H2⟩ h2
 dsimp only at h2 ⊢
 have h21:=h2.isOne
 refine W.k ?_
 refine Fin.to H2 ?_
 exact F.f1 h2
end
end Go.Proofs.YtmceanmblcadcaaGreat
