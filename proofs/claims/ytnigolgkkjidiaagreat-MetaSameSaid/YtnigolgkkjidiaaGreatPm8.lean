/- Bytes: padded, mixed, read as numbers, in rows. -/
import Derived.Test.YtnigolgkkjidiaaGreatPm6
import Derived.Test.YtnigolgkkjidiaaGreatPm1
import Derived.Test.YtnigolgkkjidiaaGreatPm7
import Derived.Test.YtnigolgkkjidiaaGreatPm4
set_option linter.unusedVariables false
set_option linter.unusedSimpArgs false
set_option linter.unusedSectionVars false
set_option maxHeartbeats 1000000
namespace Go.Proofs.YtnigolgkkjidiaaGreat
open Go
section
variable {P:Program}{C:Ctx}{Q:Exit→Fr→Hp→Prop}{ρ:Fr}{H H':Hp}{L rest:List Oper}{d:Option Tmp}{ty:TypeId}{pos:String}{af:Array Edge}{g:Option (Nat×Bool)}{d':Option Nat}{x y z:Operand}{o:Oper}
theorem p_slG{t e n len cap l h:Nat}{lo hi:Option Operand}{a:Option Addr}{k kk:IntKind}{m q:Int} [SliceTy P t e n] [i0:NatI m l] [i1:NatI q h](ho:o.op=.slice t x (some y) (some z) none)(hx:ev ρ x=some (.slice a len cap))(hy:ev ρ y=some (.int k m))(hz:ev ρ z=some (.int kk q))(h1:l≤h)(h2:h≤cap):Pu P C ρ H o (.slice (sadr a cap l n) (h-l) (cap-l)):=
 p_slice (vl:=none) (vh:=none) ho hx (.inr ⟨y,k,m,rfl,hy,i0.ok⟩) (.inr ⟨z,kk,q,rfl,hz,i1.ok⟩) h1 h2
theorem p_slF{t e n len cap l:Nat}{a:Option Addr}{k:IntKind}{m:Int} [SliceTy P t e n] [i0:NatI m l](ho:o.op=.slice t x (some y) none none)(hx:ev ρ x=some (.slice a len cap))(hy:ev ρ y=some (.int k m))(h1:l≤len)(h2:len≤cap):Pu P C ρ H o (.slice (sadr a cap l n) (len-l) (cap-l)):=
 p_slice (vl:=none) (vh:=none) ho hx (.inr ⟨y,k,m,rfl,hy,i0.ok⟩) (.inl ⟨rfl,rfl⟩) h1 h2
theorem p_slT{t e n len cap h:Nat}{a:Option Addr}{k:IntKind}{m:Int} [SliceTy P t e n] [i0:NatI m h](ho:o.op=.slice t x none (some y) none)(hx:ev ρ x=some (.slice a len cap))(hy:ev ρ y=some (.int k m))(h2:h≤cap):Pu P C ρ H o (.slice (sadr a cap 0 n) h cap):=
 p_slice (vl:=none) (vh:=none) ho hx (.inl ⟨rfl,rfl⟩) (.inr ⟨y,k,m,rfl,hy,i0.ok⟩) (Nat.zero_le _) h2
theorem p_slM{t e n len cap h:Nat}{a:Option Addr}{k kk:IntKind}{m q:Int} [ht:SliceTy P t e n] [i0:NatI m h] [i1:NatI q h](ho:o.op=.slice t x none (some y) (some z))(hx:ev ρ x=some (.slice a len cap))(hy:ev ρ y=some (.int k m))(hz:ev ρ z=some (.int kk q))(h2:h≤cap):Pu P C ρ H o (.slice (sadr a h 0 n) h h):=fun ac w hf _=>by
 unfold execOp;rw [ho]
 have e0:=i0.ok
 have e1:=i1.ok
 subst e0 e1
 simp [hf.eval hx,hf.eval hy,hf.eval hz,Instr.sliceAt,run_underlying ht.ok,Instr.slice,Instr.sliceBounds,Instr.sliceBound,asIntOf,h2,run_sizeOf ht.size,sadr]
end
attribute [local irreducible] SW SL SQ SH SA SS Pu Fin CutF HandF
section
variable {P:Program}{C:Ctx}{Q:Exit→Fr→Hp→Prop}{ρ:Fr}{H H':Hp}{L rest:List Oper}{d:Option Tmp}{ty:TypeId}{pos:String}{af:Array Edge}{g:Option (Nat×Bool)}{d':Option Nat}{x y z:Operand}{o:Oper}
theorem W.s3{t e n len cap h:Nat}{a:Option Addr}{k kk:IntKind}{m q:Int} [ht:SliceTy P t e n](hk:SL P C L Q rest (pt ρ d' (.slice (sadr a h 0 n) h h)) H)(hx:ev ρ x=some (.slice a len cap):=by exact rfl)(hy:ev ρ y=some (.int k m):=by exact rfl)(hz:ev ρ z=some (.int kk q):=by exact rfl)(i0:NatI m h:=by infer_instance)(i1:NatI q h:=by infer_instance)(h2:h≤cap:=by omega)(hg:gd L ρ ⟨d,.slice t x none (some y) (some z),ty,pos,af,g⟩=some true:=by exact rfl)(hd:dk C.n d=some d':=by exact rfl):SL P C L Q (⟨d,.slice t x none (some y) (some z),ty,pos,af,g⟩::rest) ρ H:=SL.pu (p_slM rfl hx hy hz h2) hg hd hk
theorem W.sF{t e n len cap l:Nat}{a:Option Addr}{k:IntKind}{m:Int} [ht:SliceTy P t e n](hk:SL P C L Q rest (pt ρ d' (.slice (sadr a cap l n) (len-l) (cap-l))) H)(hx:ev ρ x=some (.slice a len cap):=by exact rfl)(hy:ev ρ y=some (.int k m):=by exact rfl)(i0:NatI m l:=by infer_instance)(h1:l≤len:=by omega)(h2:len≤cap:=by omega)(hg:gd L ρ ⟨d,.slice t x (some y) none none,ty,pos,af,g⟩=some true:=by exact rfl)(hd:dk C.n d=some d':=by exact rfl):SL P C L Q (⟨d,.slice t x (some y) none none,ty,pos,af,g⟩::rest) ρ H:=SL.pu (p_slF rfl hx hy h1 h2) hg hd hk
theorem W.sT{t e n len cap h:Nat}{a:Option Addr}{k:IntKind}{m:Int} [ht:SliceTy P t e n](hk:SL P C L Q rest (pt ρ d' (.slice (sadr a cap 0 n) h cap)) H)(hx:ev ρ x=some (.slice a len cap):=by exact rfl)(hy:ev ρ y=some (.int k m):=by exact rfl)(i0:NatI m h:=by infer_instance)(h2:h≤cap:=by omega)(hg:gd L ρ ⟨d,.slice t x none (some y) none,ty,pos,af,g⟩=some true:=by exact rfl)(hd:dk C.n d=some d':=by exact rfl):SL P C L Q (⟨d,.slice t x none (some y) none,ty,pos,af,g⟩::rest) ρ H:=SL.pu (p_slT rfl hx hy h2) hg hd hk
theorem W.sG{t e n len cap l h:Nat}{a:Option Addr}{k kk:IntKind}{m q:Int} [ht:SliceTy P t e n](hk:SL P C L Q rest (pt ρ d' (.slice (sadr a cap l n) (h-l) (cap-l))) H)(hx:ev ρ x=some (.slice a len cap):=by exact rfl)(hy:ev ρ y=some (.int k m):=by exact rfl)(hz:ev ρ z=some (.int kk q):=by exact rfl)(i0:NatI m l:=by infer_instance)(i1:NatI q h:=by infer_instance)(h1:l≤h:=by omega)(h2:h≤cap:=by omega)(hg:gd L ρ ⟨d,.slice t x (some y) (some z) none,ty,pos,af,g⟩=some true:=by exact rfl)(hd:dk C.n d=some d':=by exact rfl):SL P C L Q (⟨d,.slice t x (some y) (some z) none,ty,pos,af,g⟩::rest) ρ H:=SL.pu (p_slG rfl hx hy hz h1 h2 (lo:=none) (hi:=none)) hg hd hk
theorem W.s2a{t e n b j len cap m:Nat} [ht:ArrTy P t m e n](hk:SL P C L Q rest (pt ρ d' (.pointer (some ⟨b,j,none⟩))) H)(hx:ev ρ x=some (.slice (some ⟨b,j,none⟩) len cap):=by exact rfl)(h1:m≤len:=by omega)(hg:gd L ρ ⟨d,.sliceToArrayPointer t x,ty,pos,af,g⟩=some true:=by exact rfl)(hd:dk C.n d=some d':=by exact rfl):SL P C L Q (⟨d,.sliceToArrayPointer t x,ty,pos,af,g⟩::rest) ρ H:=SL.pu (p_s2a rfl hx h1) hg hd hk
end
theorem RdH.cut{H:Hp}{a:Option Addr}{len cap:Nat}{bs:List UInt8}(h:RdH H (.slice a len cap) bs)(c l q cap':Nat)(hl:l≤q)(hq:q≤len)(hc:q-l≤cap')(hcl:c=l→q=l):RdH H (.slice (sadr a c l 1) (q-l) cap') ((bs.drop l).take (q-l)):=by
 obtain⟨a',len',cap'',he,h2,h3,h4⟩:=h
 cases he
 refine⟨_,_,_,rfl,by rw [List.length_take,List.length_drop];omega,hc,?_⟩
 by_cases h0:q-l=0
 ·exact .inl h0
 ·rcases h4 with h4|⟨b,o,cs,T,fz,rfl,hm,hy⟩
  ·omega
  ·refine .inr ⟨b,o+l,cs,T,fz,?_,hm,?_⟩
   ·unfold sadr
    rw [if_neg (fun e=>h0 (by rw [hcl e];omega))]
    simp [Addr.add]
   ·have e:(cs.drop (o+l)).take (q-l)=(((cs.drop o).take len).drop l).take (q-l):=by
     rw [List.drop_take,List.take_take,List.drop_drop,Nat.min_eq_left (by omega)]
    rw [e,hy]
    simp [List.map_drop,List.map_take]
theorem RdH.len{H:Hp}{a:Option Addr}{len cap:Nat}{bs:List UInt8}(h:RdH H (.slice a len cap) bs):bs.length=len∧len≤cap:=by
 obtain⟨a',len',cap'',he,h2,h3,h4⟩:=h
 cases he
 exact⟨h2,h3⟩
theorem rd_get{l:List Value}{o len:Nat}{xs:List UInt8}{i:Nat}{c:UInt8}(hy:(l.drop o).take (len*1)=cbs xs)(hi:xs[i]?=some c):l[o+i]?=some (.int .u8 (c.toNat:Int)):=by
 have h1:i<len*1:=by
  have:=congrArg List.length hy
  have h2:=(List.getElem?_eq_some_iff.1 hi).1
  rw [List.length_take,cbs_len] at this;omega
 have h2:((l.drop o).take (len*1))[i]?=(cbs xs)[i]?:=by rw [hy]
 rw [List.getElem?_take,if_pos h1,List.getElem?_drop] at h2
 rw [h2,List.getElem?_map,hi];rfl
abbrev ptv(b:Nat):Value:=.pointer (some ⟨b,0,none⟩)
def pad(n:Nat)(b:List UInt8):List UInt8:=(b++List.replicate n 0).take n
theorem pad_len(n:Nat)(b:List UInt8):(pad n b).length=n:=by unfold pad;rw [List.length_take,List.length_append,List.length_replicate];omega
theorem pad_short{n:Nat}{b:List UInt8}(h:b.length≤n):pad n b=b++List.replicate (n-b.length) 0:=by
 unfold pad
 rw [List.take_append,List.take_of_length_le h,List.take_replicate,Nat.min_eq_left (by omega)]
def foldN(b:List UInt8):Nat:=b.foldr (fun c v=>v*256+c.toNat) 0
def getN(b:List UInt8):Nat:=foldN (b.take 8)
theorem foldN_lt(b:List UInt8):foldN b<256^b.length:=by
 unfold foldN
 induction b with
 | nil=>simp
 | cons c r ih=>
  have:=c.toNat_lt
  simp only [List.foldr_cons,List.length_cons,Nat.pow_succ]
  omega
theorem foldN_snoc(b:List UInt8)(c:UInt8):foldN (b++[c])=foldN b+c.toNat*256^b.length:=by
 unfold foldN
 induction b with
 | nil=>simp
 | cons x r ih=>
  simp only [List.cons_append,List.foldr_cons,List.length_cons,Nat.pow_succ,ih,Nat.add_mul]
  rw [← Nat.mul_assoc];omega
theorem getN_lt(b:List UInt8):getN b<18446744073709551616:=by
 have h:=foldN_lt (b.take 8)
 have h2:256^(b.take 8).length≤256^8:=Nat.pow_le_pow_right (by decide) (by rw [List.length_take];omega)
 unfold getN
 omega
theorem getN_2{b:List UInt8}(h:b.length≤2):getN b<65536:=by
 have h1:=foldN_lt (b.take 8)
 have h2:256^(b.take 8).length≤256^2:=Nat.pow_le_pow_right (by decide) (by rw [List.length_take];omega)
 unfold getN
 omega
def getU(b:List UInt8):UInt64:=UInt64.ofNat (getN b)
theorem getU_nat(b:List UInt8):(getU b).toNat=getN b:=by
 unfold getU;rw [UInt64.toNat_ofNat'];exact Nat.mod_eq_of_lt (getN_lt b)
def xorB(x y:List UInt8):List UInt8:=List.zipWith (· ^^^ ·) x y
theorem xorB_len(x y:List UInt8):(xorB x y).length=min x.length y.length:=by unfold xorB;simp
theorem Xor_p(va vb:Value)(x y:List UInt8)(hx:x.length≤1099511627776):Tri Tryz.prog 210 [va,vb] [] (fun w=>Rd [] w 1 va (cbs x)∧Rd [] w 1 vb (cbs y))
  (fun v H=>∃ b,v=.slice (some ⟨b,0,none⟩) (min x.length y.length) (min x.length y.length)∧H=[(b,cl (cbs (xorB x y)) 5)]):=by
 refine Tri.mk Tryz.func210 rfl Tryz.ntmps210 rfl fun w hw=>?_
 obtain⟨h1,h2⟩:=hw
 obtain⟨a,la,ca,rfl,hl1,hc1,hr1⟩:=h1.get
 obtain⟨b,lb,cb,rfl,hl2,hc2,hr2⟩:=h2.get
 rw [cbs_len,Nat.mul_one] at hl1 hl2
 subst hl1 hl2
 haveI i1:NatI (min (x.length:Int) (y.length:Int)) (min x.length y.length):=⟨by omega⟩
 have hmin:min x.length y.length≤x.length∧min x.length y.length≤y.length:=⟨Nat.min_le_left ..,Nat.min_le_right ..⟩
 have hxl:=xorB_len x y
 rw [← hxl] at hmin
 repeat' (refine W.gb ?_;try intro b_)
 generalize hn:min x.length y.length=n at *
 have hg:∀ k,(cbs (fillB (fun i=>x.getD i 0 ^^^ y.getD i 0) n k)).length=(fillB (fun i=>x.getD i 0 ^^^ y.getD i 0) n k).length:=fun k=>cbs_len _
 rw [show zs [.int .u8 0] n=cbs (fillB (fun i=>x.getD i 0 ^^^ y.getD i 0) n 0) by rw [zs_one];simp [fillB]]
 refine SW.cut [5] [b_] (fun _:Unit=>[]) (fun _=>[(b_,cl (cbs (fillB (fun i=>x.getD i 0 ^^^ y.getD i 0) n n)) 5)]) (fun _=>True) ?_ ?_
 ·repeat' (refine W.go ?_;try intro b_)
  refine SW.loopG [0,1,5,14] [b_] (fun k:Nat=>[(15,.int .i64 (k:Int))]) (fun k=>[(b_,cl (cbs (fillB (fun i=>x.getD i 0 ^^^ y.getD i 0) n k)) 5)]) (fun k=>n-k) (fun k=>k≤n) 0 (by omega) ?_
  intro k hk
  by_cases hkn:k<n
  ·have hlen:k<(cbs (fillB (fun i=>x.getD i 0 ^^^ y.getD i 0) n k)).length:=by rw [List.length_map,fillB_len _ hk];exact hkn
   obtain⟨b1,o1,l1,T1,z1,rfl,hb1,hk1,hy1⟩:=hr1 (by omega)
   obtain⟨b2,o2,l2,T2,z2,rfl,hb2,hk2,hy2⟩:=hr2 (by omega)
   have g1:=rd_get hy1 (List.getElem?_eq_getElem (show k<x.length by omega))
   have g2:=rd_get hy2 (List.getElem?_eq_getElem (show k<y.length by omega))
   have gx:x.getD k 0=x[k]'(by omega):=by rw [List.getD_eq_getElem?_getD,List.getElem?_eq_getElem (show k<x.length by omega)];rfl
   have gy:y.getD k 0=y[k]'(by omega):=by rw [List.getD_eq_getElem?_getD,List.getElem?_eq_getElem (show k<y.length by omega)];rfl
   have hfs:=fillB_set (fun i=>x.getD i 0 ^^^ y.getD i 0) hkn
   rw [gx,gy] at hfs
   repeat' (refine W.go ?_;try intro b_)
   (refine SW.regionS [12] ?_ (by kernel_rfl);refine SS.T 0 rfl ?_;refine SS.T 1 rfl ?_;refine SS.T 2 rfl ?_;refine SS.T 3 rfl ?_;refine SS.T 4 rfl ?_;(first|refine SS.ls 5 [12] rfl ?_|refine SS.sR 5 rfl ?_);refine SS.T 6 rfl ?_;refine SS.T 7 rfl ?_;refine SS.T 8 rfl ?_;(first|refine SS.ls 9 [12] rfl ?_|refine SS.sR 9 rfl ?_);refine SS.T 10 rfl ?_;refine SS.T 11 rfl ?_;refine SS.effB 12 ?_ rfl (by kernel_rfl);(repeat' (refine W.g1 ?_;try intro b_));refine SS.done ?_ (by kernel_rfl))
   rw [hfs]
   repeat' (refine W.go ?_;try intro b_)
   refine HandF.mk (k+1) ?_
   omega
  ·have:k=n:=by omega
   subst this
   repeat' (refine W.go ?_;try intro b_)
   refine CutF.mk () ?_
   trivial
 rintro _ -
 repeat' (refine W.go ?_;try intro b_)
 rw [fillB_all]
 have e:(List.range n).map (fun i=>x.getD i 0 ^^^ y.getD i 0)=xorB x y:=by
  apply List.ext_getElem?
  intro i
  unfold xorB
  rw [List.getElem?_map,List.getElem?_zipWith]
  by_cases h:i<n
  ·rw [List.getElem?_range h,List.getElem?_eq_getElem (show i<x.length by omega),List.getElem?_eq_getElem (show i<y.length by omega)]
   simp [List.getD_eq_getElem?_getD,List.getElem?_eq_getElem (show i<x.length by omega),List.getElem?_eq_getElem (show i<y.length by omega)]
  ·rw [List.getElem?_eq_none (by simp;omega)]
   by_cases h2:i<x.length
   ·rw [List.getElem?_eq_none (show y.length≤i by omega)];cases x[i]? <;> rfl
   ·rw [List.getElem?_eq_none (show x.length≤i by omega)];rfl
 rw [e]
 refine Fin.to [(b_,cl (cbs (xorB x y)) 5)] ?_
 refine F.f1 ?_
 exact⟨b_,rfl,rfl⟩
theorem Pad_p2(v:Value)(x:List UInt8)(n:Nat)(h1:1≤n)(hn:n≤65536)(hx:x.length≤n):Tri Tryz.prog 163 [v,.int .i64 (n:Int)] [] (fun w=>Rd [] w 1 v (cbs x)) (fun r H=>∃ b,r=.slice (some ⟨b,0,none⟩) n n∧H=[(b,cl (cbs (pad n x)) 5)]):=by
 refine Tri.mk Tryz.func163 rfl Tryz.ntmps163 rfl fun w hw=>?_
 obtain⟨a,la,ca,rfl,hl1,hc1,hr1⟩:=hw.get
 rw [cbs_len,Nat.mul_one] at hl1
 subst hl1
 have hfit:0+(cbs x).length≤(zs [Value.int .u8 0] n).length:=by rw [zs_one,List.length_replicate,cbs_len];omega
 repeat' (refine W.go ?_;try intro b_)
 refine W.cy (fun w2 hs=>hw.srcAt hs) ?_
 have e:(zs [Value.int .u8 0] n).take 0++cbs x++(zs [Value.int .u8 0] n).drop (0+(cbs x).length)=cbs (pad n x):=by
  rw [pad_short hx,zs_one,cbs_len,List.drop_replicate,Nat.zero_add,cbs_app]
  simp
 rw [e]
 repeat' (refine W.go ?_;try intro b_)
 refine Fin.to [(b_,cl (cbs (pad n x)) 5)] ?_
 refine F.f1 ?_
 exact⟨b_,rfl,rfl⟩
theorem Get_p(v:Value)(x:List UInt8):Tri Tryz.prog 212 [v] [] (fun w=>Rd [] w 1 v (cbs x)) (fun r H=>r=.int .u64 (getN x:Nat)∧H=[]):=by
 refine Tri.mk Tryz.func212 rfl Tryz.ntmps212 rfl fun w hw=>?_
 obtain⟨a,la,ca,rfl,hl1,hc1,hr1⟩:=hw.get
 rw [cbs_len,Nat.mul_one] at hl1
 subst hl1
 repeat' (refine W.gb ?_;try intro b_)
 refine SW.cut [] [] (fun _:Unit=>[(3,.int .u64 (getN x:Nat))]) (fun _=>[]) (fun _=>True) ?_ ?_
 ·repeat' (refine W.go ?_;try intro b_)
  refine SW.loopF [6,7] (fun k:Nat=>[(3,.int .u64 (getN (x.take k):Nat)),(8,.int .i64 (k:Int))]) (fun _=>[]) (fun k=>x.length-k) (fun k=>k≤x.length∧k≤8) 0 ⟨Nat.zero_le _,Nat.zero_le _⟩ ?_
  rintro k ⟨hk,hk8⟩
  by_cases hkn:k<x.length
  ·obtain⟨b1,o1,l1,T1,z1,rfl,hb1,hk1,hy1⟩:=hr1 (by omega)
   have g1:=rd_get hy1 (List.getElem?_eq_getElem hkn)
   generalize hc:x[k]'hkn=c at *
   by_cases h8:k=8
   ·subst h8
    have e:getN (x.take 8)=getN x:=by unfold getN;rw [List.take_take,Nat.min_self]
    rw [e]
    repeat' (refine W.go ?_;try intro b_)
    refine CutF.mk () ?_
    trivial
   ·have e0:(x.take k).length=k:=by rw [List.length_take];omega
    have e1:getN (x.take k)=foldN (x.take k):=by unfold getN;rw [List.take_take,Nat.min_eq_right (by omega)]
    have e2:getN (x.take (k+1))=foldN (x.take k)+c.toNat*256^k:=by
     unfold getN
     rw [List.take_take,Nat.min_eq_right (by omega),List.take_add_one,List.getElem?_eq_getElem hkn,hc,Option.toList_some,foldN_snoc,e0]
    have hlt:=foldN_lt (x.take k)
    rw [e0] at hlt
    have hlt2:=getN_lt (x.take (k+1))
    rw [e1]
    generalize foldN (x.take k)=F at *
    have hF:F<18446744073709551616:=by have:=c.toNat_lt;rw [e2] at hlt2;omega
    haveI i1:U64 (F:Int) (UInt64.ofNat F):=⟨by rw [UInt64.toNat_ofNat'];omega⟩
    haveI i2:Lt64 (8*(k:Int)) (UInt64.ofNat (8*k)):=⟨by rw [UInt64.toNat_ofNat'];omega,by rw [UInt64.toNat_ofNat'];omega⟩
    have e3:(UInt64.ofNat F ||| c.toUInt64 <<< UInt64.ofNat (8*k)).toNat=getN (x.take (k+1)):=by
     have hp:256^k=2^(8*k):=by rw [Nat.pow_mul]
     have h8k:(UInt64.ofNat (8*k)).toNat=8*k:=by rw [UInt64.toNat_ofNat'];omega
     rw [e2,UInt64.toNat_or,UInt64.toNat_shiftLeft,h8k,UInt8.toNat_toUInt64,UInt64.toNat_ofNat',Nat.mod_eq_of_lt hF,Nat.mod_eq_of_lt (show 8*k<64 by omega)]
     rw [hp] at hlt ⊢
     have hc2:c.toNat <<< (8*k)<2^64:=by
      rw [Nat.shiftLeft_eq]
      rw [e2,hp] at hlt2
      omega
     rw [Nat.mod_eq_of_lt hc2,Nat.or_comm,← Nat.shiftLeft_add_eq_or_of_lt hlt,Nat.shiftLeft_eq]
     omega
    repeat' (refine W.go ?_;try intro b_)
    rw [e3]
    refine HandF.mk (k+1) ?_
    omega
  ·have hk2:k=x.length:=by omega
   have e:getN (x.take k)=getN x:=by rw [hk2,List.take_length]
   rw [e]
   repeat' (refine W.go ?_;try intro b_)
   refine CutF.mk () ?_
   trivial
 rintro _ -
 repeat' (refine W.go ?_;try intro b_)
 refine Fin.to [] ?_
 exact F.f1 ⟨rfl,rfl⟩
def RowP(p:Nat)(bs:List UInt8)(H:Hp):Prop:=∃ v Ht,H=(p,cl [v,.int .i64 0] 353)::Ht∧RdH Ht v bs
theorem Of_p(v:Value)(x:List UInt8)(hx:x.length≤1099511627776):Tri Tryz.prog 150 [v] [] (fun w=>Rd [] w 1 v (cbs x)) (fun r H=>∃ p,r=.pointer (some ⟨p,0,none⟩)∧RowP p x H):=by
 refine Tri.mk Tryz.func150 rfl Tryz.ntmps150 rfl fun w hw=>?_
 obtain⟨a,la,ca,rfl,hl1,hc1,hr1⟩:=hw.get
 repeat' (refine W.go ?_;try intro b_)
 refine W.call (Clone_p _ x hx) ?_ (hpre:=fun w2 hs=>hw.ro (Hc:=[]) hs)
 intro v1 H1 h1
 have h11:=h1.isOne
 obtain⟨a1,l1,c1,rfl,hl1⟩:=h1.form
 have hb:bfill (fun i=>[(0,1),(1,1)][i]?) [.slice none 0 0,.int .i64 0] [(0,.slice a1 l1 c1)]=some [.slice a1 l1 c1,.int .i64 0]:=rfl
 repeat' (refine W.go ?_;try intro b_)
 refine Fin.to ((b_,cl [.slice a1 l1 c1,.int .i64 0] 353)::H1) ?_
 exact F.f1 ⟨b_,rfl,_,H1,rfl,RdH.of h1⟩
theorem next_p{p:Nat}{bs:List UInt8}{H:Hp}(hR:RowP p bs H)(n:Nat)(hn:n≤bs.length)(hb:bs.length≤1099511627776):Tri Tryz.prog 213 [.pointer (some ⟨p,0,none⟩),.int .i64 (n:Int)] H (fun _=>True)
  (fun r H'=>∃ v Ht,H'=(p,cl [v,.int .i64 0] 353)::Ht∧RdH Ht v (bs.drop n)∧RdH Ht r (bs.take n)):=by
 obtain⟨v,Ht,rfl,hv⟩:=hR
 have hv2:=hv
 obtain⟨a,len,cap,rfl,-⟩:=hv2
 obtain⟨hl,hc⟩:=hv.len
 subst hl
 refine Tri.mk Tryz.func213 rfl Tryz.ntmps213 rfl fun w hw=>?_
 repeat' (refine W.go ?_;try intro b_)
 refine W.s3 ?_
 have c1:=hv.cut n 0 n n (Nat.zero_le _) hn (by omega) (by omega)
 repeat' (refine W.go ?_;try intro b_)
 refine W.sF ?_
 have c2:=hv.cut cap n bs.length (cap-n) hn (Nat.le_refl _) (by omega) (by omega)
 rw [List.take_of_length_le (by simp)] at c2
 rw [List.drop_zero,Nat.sub_zero] at c1
 have o1:=c1.one
 have o2:=c2.one
 repeat' (refine W.go ?_;try intro b_)
 exact F.f1 ⟨_,Ht,rfl,c2,c1⟩
theorem Num_p{p:Nat}{bs:List UInt8}{H:Hp}(hR:RowP p bs H)(n:Nat)(h1:1≤n)(h8:n≤8)(hn:n≤bs.length)(hb:bs.length≤1099511627776):Tri Tryz.prog 151 [.pointer (some ⟨p,0,none⟩),.int .i64 (n:Int)] H (fun _=>True)
  (fun r H'=>r=.int .u64 (getN (bs.take n):Nat)∧RowP p (bs.drop n) H'):=by
 refine Tri.mk Tryz.func151 rfl Tryz.ntmps151 rfl fun w hw=>?_
 have hnx:=next_p hR n hn hb
 repeat' (refine W.go ?_;try intro b_)
 refine W.call hnx ?_
 rintro u H1 ⟨v,Ht,rfl,hv,hu⟩
 have hu1:=hu.one
 repeat' (refine W.go ?_;try intro b_)
 refine W.call (Get_p u (bs.take n)) ?_ (hpre:=fun w2 hs=>hu.rd (Hc:=[]) hs)
 rintro _ _ ⟨rfl,rfl⟩
 repeat' (refine W.go ?_;try intro b_)
 refine Fin.to ((p,cl [v,.int .i64 0] 353)::Ht) ?_
 exact F.f1 ⟨rfl,v,Ht,rfl,hv⟩
theorem Bytes_p{p:Nat}{bs:List UInt8}{H:Hp}(hR:RowP p bs H)(n:Nat)(hn:n≤bs.length)(hb:bs.length≤1099511627776):Tri Tryz.prog 232 [.pointer (some ⟨p,0,none⟩),.int .i64 (n:Int)] H (fun _=>True)
  (fun r H'=>∃ H1 Ht,RowP p (bs.drop n) H1∧Sl 5 1 r (cbs (bs.take n)) Ht∧H'=H1++Ht):=by
 refine Tri.mk Tryz.func232 rfl Tryz.ntmps232 rfl fun w hw=>?_
 have hnx:=next_p hR n hn hb
 repeat' (refine W.go ?_;try intro b_)
 refine W.call hnx ?_
 rintro u H1 ⟨v,Ht,rfl,hv,hu⟩
 have hu1:=hu.one
 repeat' (refine W.go ?_;try intro b_)
 refine W.call (Clone_p u (bs.take n) (by rw [List.length_take];omega)) ?_ (hpre:=fun w2 hs=>hu.rd (Hc:=[]) hs)
 intro v2 H2 h2
 have h21:=h2.isOne
 repeat' (refine W.go ?_;try intro b_)
 refine Fin.to (((p,cl [v,.int .i64 0] 353)::Ht)++H2) ?_
 exact F.f1 ⟨_,H2,⟨v,Ht,rfl,hv⟩,h2,rfl⟩
end Go.Proofs.YtnigolgkkjidiaaGreat
namespace Go.Proofs.YtnigolgkkjidiaaGreat
open Go
attribute [local irreducible] SW SL SQ SH SA SS Pu Fin CutF HandF
structure Pg where
 kind:Int
 cls:Int
 run:Int
 size:Int
 ser:Int
deriving DecidableEq
def pgC(p:Pg):List Value:=[.int .i64 p.kind,.int .i64 p.cls,.int .i64 p.run,.int .i64 p.size,.int .u64 p.ser]
abbrev Pg.pl(k:Int):Pg:=⟨k,0,0,0,0⟩
theorem pgC_len(p:Pg):(pgC p).length=5:=rfl
instance pgC_one(p:Pg):OC (pgC p):=by unfold pgC;infer_instance
theorem pgC_inj{p q:Pg}(h:pgC p=pgC q):p=q:=by
 unfold pgC at h
 simp only [List.cons.injEq,Value.int.injEq,true_and,and_true] at h
 obtain⟨h1,h2,h3,h4,h5⟩:=h
 cases p;cases q
 simp only at h1 h2 h3 h4 h5
 subst h1 h2 h3 h4 h5
 rfl
def pgQ(l:List Value):Prop:=(∃ n,(l.drop 0).take 1=[.int .i64 n])∧(∃ n,(l.drop (0+1)).take 1=[.int .i64 n])∧(∃ n,(l.drop (0+1+1)).take 1=[.int .i64 n])∧(∃ n,(l.drop (0+1+1+1)).take 1=[.int .i64 n])∧(∃ n,(l.drop (0+1+1+1+1)).take 1=[.int .u64 n])∧l.length=5
theorem pgQ_of(p:Pg):pgQ (pgC p):=⟨⟨_,rfl⟩,⟨_,rfl⟩,⟨_,rfl⟩,⟨_,rfl⟩,⟨_,rfl⟩,rfl⟩
instance pgEq:EqS Tryz.prog 185 pgQ where
 under:=by kernel_rfl
 held:=by kernel_rfl
 guard:=by kernel_rfl
 cov:=by
  refine⟨_,1,5,Tryz.underlying185,by decide,?_⟩
  unfold pgQ
  iterate 4
   refine Cov.cons (n:=1) (D':=1) (agg:=false) (p:=fun l=>∃ n,l=[.int .i64 n]) ?_ rfl ?_ ?_ ?_
   ·decide
   ·exact EqOk.int (t:=3) Tryz.underlying3
   ·decide
  refine Cov.cons (n:=1) (D':=1) (agg:=false) (p:=fun l=>∃ n,l=[.int .u64 n]) ?_ rfl ?_ ?_ ?_
  ·decide
  ·exact EqOk.int (t:=28) Tryz.underlying28
  ·decide
  exact Cov.nil 5
instance rpgEq:EqS Tryz.prog 177 pgQ where
 under:=by kernel_rfl
 held:=by kernel_rfl
 guard:=by kernel_rfl
 cov:=by
  refine⟨_,1,5,Tryz.underlying177,by decide,?_⟩
  unfold pgQ
  iterate 4
   refine Cov.cons (n:=1) (D':=1) (agg:=false) (p:=fun l=>∃ n,l=[.int .i64 n]) ?_ rfl ?_ ?_ ?_
   ·decide
   ·exact EqOk.int (t:=3) Tryz.underlying3
   ·decide
  refine Cov.cons (n:=1) (D':=1) (agg:=false) (p:=fun l=>∃ n,l=[.int .u64 n]) ?_ rfl ?_ ?_ ?_
  ·decide
  ·exact EqOk.int (t:=28) Tryz.underlying28
  ·decide
  exact Cov.nil 5
theorem plain_p(k:Int):Tri Tryz.prog 265 [.int .i64 k] [] (fun _=>True) (fun v H=>v=.agg (pgC (.pl k)).toArray∧H=[]):=by
 refine Tri.mk Tryz.func265 rfl Tryz.ntmps265 rfl fun w hw=>?_
 have hb:bfill (fun i=>[(0,1),(1,1),(2,1),(3,1),(4,1)][i]?) ([.int .i64 0]++[.int .i64 0]++[.int .i64 0]++[.int .i64 0]++[.int .u64 0]) [(0,.int .i64 k)]=some (pgC (.pl k)):=rfl
 repeat' (first|(refine W.go ?_;try intro b_)|fail)
 exact F.c0 (pgC (.pl k)) ⟨rfl,rfl⟩
theorem free_p(p:Pg):Tri Tryz.prog 262 [.agg (pgC p).toArray] [] (fun _=>True) (fun v H=>v=.bool (decide (p=.pl 0))∧H=[]):=by
 refine Tri.mk Tryz.func262 rfl Tryz.ntmps262 rfl fun w hw=>?_
 have hl:=pgC_len p
 by_cases h:p=.pl 0
 ·rw [decide_eq_true h]
  repeat' (first|(refine W.go ?_;try intro b_)|fail)
  (refine SW.regionS [] ?_ (by kernel_rfl);(first|refine SS.lw 0 [] rfl ?_|refine SS.la 0 [] rfl ?_|refine SS.aR 0 rfl ?_);refine SS.effK 1 ?_ rfl (by kernel_rfl))
  refine W.call (plain_p 0) ?_
  rintro _ _ ⟨rfl,rfl⟩
  (refine SL.nilB ?_;refine SS.tw 2 rfl (p_eqS_t rfl rfl rfl (pgQ_of p) (pgQ_of (.pl 0)) (by rw [h])) ?_;refine SS.tw 3 rfl (p_assign rfl rfl) ?_;refine SS.done ?_ (by kernel_rfl))
  repeat' (first|(refine W.go ?_;try intro b_)|fail)
  refine Fin.to [] ?_
  exact F.f1 ⟨rfl,rfl⟩
 ·rw [decide_eq_false h]
  repeat' (first|(refine W.go ?_;try intro b_)|fail)
  (refine SW.regionS [] ?_ (by kernel_rfl);(first|refine SS.lw 0 [] rfl ?_|refine SS.la 0 [] rfl ?_|refine SS.aR 0 rfl ?_);refine SS.effK 1 ?_ rfl (by kernel_rfl))
  refine W.call (plain_p 0) ?_
  rintro _ _ ⟨rfl,rfl⟩
  (refine SL.nilB ?_;refine SS.tw 2 rfl (p_eqS_f rfl rfl rfl (pgQ_of p) (pgQ_of (.pl 0)) (fun hh=>h (pgC_inj hh))) ?_;refine SS.tw 3 rfl (p_assign rfl rfl) ?_;refine SS.done ?_ (by kernel_rfl))
  repeat' (first|(refine W.go ?_;try intro b_)|fail)
  refine Fin.to [] ?_
  exact F.f1 ⟨rfl,rfl⟩
theorem tail_p(p:Pg):Tri Tryz.prog 216 [.agg (pgC p).toArray] [] (fun _=>True) (fun v H=>v=.bool (decide (p=.pl 3))∧H=[]):=by
 refine Tri.mk Tryz.func216 rfl Tryz.ntmps216 rfl fun w hw=>?_
 have hl:=pgC_len p
 by_cases h:p=.pl 3
 ·rw [decide_eq_true h]
  repeat' (first|(refine W.go ?_;try intro b_)|fail)
  (refine SW.regionS [] ?_ (by kernel_rfl);(first|refine SS.lw 0 [] rfl ?_|refine SS.la 0 [] rfl ?_|refine SS.aR 0 rfl ?_);refine SS.effK 1 ?_ rfl (by kernel_rfl))
  refine W.call (plain_p 3) ?_
  rintro _ _ ⟨rfl,rfl⟩
  (refine SL.nilB ?_;refine SS.tw 2 rfl (p_eqS_t rfl rfl rfl (pgQ_of p) (pgQ_of (.pl 3)) (by rw [h])) ?_;refine SS.tw 3 rfl (p_assign rfl rfl) ?_;refine SS.done ?_ (by kernel_rfl))
  repeat' (first|(refine W.go ?_;try intro b_)|fail)
  refine Fin.to [] ?_
  exact F.f1 ⟨rfl,rfl⟩
 ·rw [decide_eq_false h]
  repeat' (first|(refine W.go ?_;try intro b_)|fail)
  (refine SW.regionS [] ?_ (by kernel_rfl);(first|refine SS.lw 0 [] rfl ?_|refine SS.la 0 [] rfl ?_|refine SS.aR 0 rfl ?_);refine SS.effK 1 ?_ rfl (by kernel_rfl))
  refine W.call (plain_p 3) ?_
  rintro _ _ ⟨rfl,rfl⟩
  (refine SL.nilB ?_;refine SS.tw 2 rfl (p_eqS_f rfl rfl rfl (pgQ_of p) (pgQ_of (.pl 3)) (fun hh=>h (pgC_inj hh))) ?_;refine SS.tw 3 rfl (p_assign rfl rfl) ?_;refine SS.done ?_ (by kernel_rfl))
  repeat' (first|(refine W.go ?_;try intro b_)|fail)
  refine Fin.to [] ?_
  exact F.f1 ⟨rfl,rfl⟩
theorem mayZ_p:Tri Tryz.prog 215 [.agg (pgC (.pl 0)).toArray] [] (fun _=>True) (fun v H=>v=.bool true∧H=[]):=by
 refine Tri.mk Tryz.func215 rfl Tryz.ntmps215 rfl fun w hw=>?_
 have hl:=pgC_len (.pl 0)
 have hf:=free_p (.pl 0)
 rw [decide_eq_true rfl] at hf
 have hbs:bfill (fun i=>some (i*1,1)) (zs [.nilFunc] 4) [(0,.func (.func 262) #[] #[]),(1,.func (.func 263) #[] #[]),(2,.func (.func 264) #[] #[]),(3,.func (.func 216) #[] #[])]=some [.func (.func 262) #[] #[],.func (.func 263) #[] #[],.func (.func 264) #[] #[],.func (.func 216) #[] #[]]:=rfl
 repeat' (first|(refine W.gb ?_;try intro b_)|fail)
 rename_i bp
 refine SW.block ?_
 repeat' (first|(refine W.gb ?_;try intro b_)|fail)
 refine SW.loopG [1,5,6] [] (fun _:Nat=>[(7,.int .i64 0)]) (fun _=>[]) (fun k=>k) (fun _=>True) 0 trivial ?_
 intro k _
 repeat' (first|(refine W.go ?_;try intro b_)|fail)
 refine SL.callv [] rfl rfl rfl rfl rfl rfl hf (fun _ _=>trivial) ?_
 rintro _ _ ⟨rfl,rfl⟩
 repeat' (first|(refine W.go ?_;try intro b_)|fail)
 refine Fin.to [] ?_
 exact F.f1 ⟨rfl,rfl⟩
theorem badZ_p:Tri Tryz.prog 154 [.agg (pgC (.pl 0)).toArray] [] (fun _=>True) (fun v H=>v=.bool false∧H=[]):=by
 refine Tri.mk Tryz.func154 rfl Tryz.ntmps154 rfl fun w hw=>?_
 have hl:=pgC_len (.pl 0)
 repeat' (first|(refine W.go ?_;try intro b_)|fail)
 refine W.call mayZ_p ?_
 rintro _ _ ⟨rfl,rfl⟩
 repeat' (first|(refine W.go ?_;try intro b_)|fail)
 refine Fin.to [] ?_
 exact F.f1 ⟨rfl,rfl⟩
theorem sState_p{sp:Nat}{F0:List Value}{st:Int}(hF:F0[9]?=some (.int .i64 st)):Tri Tryz.prog 64 [ptv sp] [(sp,cl F0 169)] (fun _=>True) (fun v H=>v=.int .i64 st∧H=[(sp,cl F0 169)]):=by
 refine Tri.mk Tryz.func64 rfl Tryz.ntmps64 rfl fun w hw=>?_
 repeat' (refine W.go ?_;try intro b_)
 refine Fin.to [(sp,cl F0 169)] ?_
 exact F.f1 ⟨rfl,rfl⟩
end Go.Proofs.YtnigolgkkjidiaaGreat
namespace Go.Proofs.YtnigolgkkjidiaaGreat
open Go
attribute [local irreducible] SW SL SQ SH SA SS Pu Fin CutF HandF
section
variable {P:Program}{C:Ctx}{L:List Oper}{Q:Exit→Fr→Hp→Prop}{B:List Nat}{R R' H:Hp}{fuel:Nat}{listed:Array Bool}{ρ:Fr}{o:Oper}
end
theorem F.f4{P:Program}{C:Ctx}{ρ:Fr}{H:Hp}{fn:Func}{R:Value→Hp→Prop}{e:Exit}{t u x y:Nat}{v v2 v3 v4:Value}(hR:R (.tuple #[v,v2,v3,v4]) H)(he:e=.ret∨e=.normal:=by first|exact .inl rfl|exact .inr rfl)(hrs:fn.results=#[.tmp t,.tmp u,.tmp x,.tmp y]:=by exact rfl)(ht:lk ρ t=some v:=by exact rfl)(hu:lk ρ u=some v2:=by exact rfl)(hx:lk ρ x=some v3:=by exact rfl)(hy:lk ρ y=some v4:=by exact rfl):Fin P C fn R e ρ H:=
 Fin.of he (List.Perm.of_eq (List.append_nil H).symm) hR fun a w hf _=>by
  have h1:=tmps_getD hf ht
  have h2:=tmps_getD hf hu
  have h3:=tmps_getD hf hx
  have h4:=tmps_getD hf hy
  rw [Array.getD_eq_getD_getElem?] at h1 h2 h3 h4
  simp [results,hrs,h1,h2,h3,h4]
abbrev Bl:=List (Int×List UInt8)
def Bl.at(l:Bl)(k:Int):Option (List UInt8):=(l.find? fun x=>decide (k=x.1)).map Prod.snd
abbrev plB(es:List Ei):Bl:=es.map fun x=>(x.k,x.bs)
theorem at_plB(es:List Ei)(k:Int):Bl.at (plB es) k=(atI es k).map Ei.bs:=by
 unfold Bl.at atI plB
 rw [List.find?_map]
 simp [Function.comp_def]
instance plBM:MapI Tryz.prog 161 (.slice none 0 0) where
 ok:=⟨3,50,Tryz.underlying161,Tryz.underlying3,by kernel_rfl⟩
abbrev batC(sp m:Nat)(most:Int):List Value:=[ptv sp,.func (.func 25) #[ptv sp] #[],.int .i64 most,.map (some m)]
def BatP(b sp:Nat)(most:Int)(l:Bl)(H:Hp):Prop:=
 ∃ (m c:Nat) (es:List Ei) (Ht:Hp),H=(b,cl (batC sp m most) 163)::(m,moI es c)::Ht∧l=plB es∧∀ x∈es,RdH Ht x.v x.bs∧x.bs.length=256
theorem bNew_p(sp:Nat){most:Int}(h0:0≤most):Tri Tryz.prog 63 [ptv sp,.int .i64 most] [] (fun _=>True) (fun v H=>∃ b,v=ptv b∧BatP b sp most [] H):=by
 refine Tri.mk Tryz.func63 rfl Tryz.ntmps63 rfl fun w hw=>?_
 have hm:max most 0=most:=by omega
 repeat' (first|(refine W.go ?_;try intro b_)|fail)
 refine W.mkm fun m=>?_
 have hbd:bfill (fun i=>[(0,1),(1,1),(2,1),(3,1)][i]?) ([.pointer none]++[.nilFunc]++[.int .i64 0]++[.map none]) [(0,ptv sp),(1,.func (.func 25) #[ptv sp] #[]),(2,.int .i64 (max most 0)),(3,.map (some m))]=some (batC sp m most):=by rw [hm];rfl
 repeat' (first|(refine W.go ?_;try intro b_)|fail)
 refine F.f1 ?_
 exact⟨b_,rfl,m,0,[],[],rfl,rfl,by simp⟩
end Go.Proofs.YtnigolgkkjidiaaGreat
