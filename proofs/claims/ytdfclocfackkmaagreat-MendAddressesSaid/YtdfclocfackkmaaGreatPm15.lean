/- Bytes: padded, mixed, read as numbers, in rows. -/
import Derived.Test.YtdfclocfackkmaaGreatPm14
set_option linter.unusedVariables false
set_option linter.unusedSimpArgs false
set_option linter.unusedSectionVars false
set_option maxHeartbeats 8000000
namespace Go.Proofs.YtdfclocfackkmaaGreat
open Go Go.Proofs.Tryz
section
section
variable {P:Program}{C:Ctx}{Q:Exit->Fr->Hp->Prop}{A:Fr}{H H':Hp}{L rest:List Oper}{d:Option Tmp}{ty:TypeId}{pos:String}{af:Array Edge}{g:Option (Nat×Bool)}{d':Option Nat}{x y z:Operand}{o:Oper}
theorem aKQ{t e n len cap l h:Nat}{lo hi:Option Operand}{a:Option Addr}{k kk:IntKind}{m q:Int} [cC P t e n] [i0:eB m l] [i1:eB q h](ho:o.op=.slice t x (some y) (some z) none)(hx:ev A x=some (.slice a len cap))(hy:ev A y=some (.int k m))(hz:ev A z=some (.int kk q))(h1:l<=h)(h2:h<=cap):Pu P C A H o (.slice (lI a cap l n) (h-l) (cap-l)):=
 oF (vl:=none) (vh:=none) ho hx (.inr ⟨y,k,m,rfl,hy,i0.ok⟩) (.inr ⟨z,kk,q,rfl,hz,i1.ok⟩) h1 h2
theorem aP9{t e n len cap l:Nat}{a:Option Addr}{k:IntKind}{m:Int} [cC P t e n] [i0:eB m l](ho:o.op=.slice t x (some y) none none)(hx:ev A x=some (.slice a len cap))(hy:ev A y=some (.int k m))(h1:l<=len)(h2:len<=cap):Pu P C A H o (.slice (lI a cap l n) (len-l) (cap-l)):=
 oF (vl:=none) (vh:=none) ho hx (.inr ⟨y,k,m,rfl,hy,i0.ok⟩) (.inl ⟨rfl,rfl⟩) h1 h2
theorem aQb{t e n len cap h:Nat}{a:Option Addr}{k:IntKind}{m:Int} [cC P t e n] [i0:eB m h](ho:o.op=.slice t x none (some y) none)(hx:ev A x=some (.slice a len cap))(hy:ev A y=some (.int k m))(h2:h<=cap):Pu P C A H o (.slice (lI a cap 0 n) h cap):=
 oF (vl:=none) (vh:=none) ho hx (.inl ⟨rfl,rfl⟩) (.inr ⟨y,k,m,rfl,hy,i0.ok⟩) (Nat.zero_le _) h2
theorem aQa{t e n len cap h:Nat}{a:Option Addr}{k kk:IntKind}{m q:Int} [ht:cC P t e n] [i0:eB m h] [i1:eB q h](ho:o.op=.slice t x none (some y) (some z))(hx:ev A x=some (.slice a len cap))(hy:ev A y=some (.int k m))(hz:ev A z=some (.int kk q))(h2:h<=cap):Pu P C A H o (.slice (lI a h 0 n) h h):=fun ac w hf _=>by
 unfold execOp;rw [ho]
 have e0:=i0.ok
 have e1:=i1.ok
 subst e0 e1
 simp [hf.eval hx,hf.eval hy,hf.eval hz,Instr.sliceAt,run_underlying ht.ok,Instr.slice,Instr.sliceBounds,Instr.sliceBound,asIntOf,h2,eL ht.size,lI]
end
attribute [local irreducible] SW SL SQ SH SA SS Pu Fin bS aN
section
variable {P:Program}{C:Ctx}{Q:Exit->Fr->Hp->Prop}{A:Fr}{H H':Hp}{L rest:List Oper}{d:Option Tmp}{ty:TypeId}{pos:String}{af:Array Edge}{g:Option (Nat×Bool)}{d':Option Nat}{x y z:Operand}{o:Oper}
theorem W.s3{t e n len cap h:Nat}{a:Option Addr}{k kk:IntKind}{m q:Int} [ht:cC P t e n](hk:SL P C L Q rest (pt A d' (.slice (lI a h 0 n) h h)) H)(hx:ev A x=some (.slice a len cap):=by exact rfl)(hy:ev A y=some (.int k m):=by exact rfl)(hz:ev A z=some (.int kk q):=by exact rfl)(i0:eB m h:=by infer_instance)(i1:eB q h:=by infer_instance)(h2:h<=cap:=by omega)(hg:gd L A ⟨d,.slice t x none (some y) (some z),ty,pos,af,g⟩=some true:=by exact rfl)(hd:dk C.n d=some d':=by exact rfl):SL P C L Q (⟨d,.slice t x none (some y) (some z),ty,pos,af,g⟩::rest) A H:=bN (aQa rfl hx hy hz h2) hg hd hk
theorem W.sF{t e n len cap l:Nat}{a:Option Addr}{k:IntKind}{m:Int} [ht:cC P t e n](hk:SL P C L Q rest (pt A d' (.slice (lI a cap l n) (len-l) (cap-l))) H)(hx:ev A x=some (.slice a len cap):=by exact rfl)(hy:ev A y=some (.int k m):=by exact rfl)(i0:eB m l:=by infer_instance)(h1:l<=len:=by omega)(h2:len<=cap:=by omega)(hg:gd L A ⟨d,.slice t x (some y) none none,ty,pos,af,g⟩=some true:=by exact rfl)(hd:dk C.n d=some d':=by exact rfl):SL P C L Q (⟨d,.slice t x (some y) none none,ty,pos,af,g⟩::rest) A H:=bN (aP9 rfl hx hy h1 h2) hg hd hk
theorem W.sT{t e n len cap h:Nat}{a:Option Addr}{k:IntKind}{m:Int} [ht:cC P t e n](hk:SL P C L Q rest (pt A d' (.slice (lI a cap 0 n) h cap)) H)(hx:ev A x=some (.slice a len cap):=by exact rfl)(hy:ev A y=some (.int k m):=by exact rfl)(i0:eB m h:=by infer_instance)(h2:h<=cap:=by omega)(hg:gd L A ⟨d,.slice t x none (some y) none,ty,pos,af,g⟩=some true:=by exact rfl)(hd:dk C.n d=some d':=by exact rfl):SL P C L Q (⟨d,.slice t x none (some y) none,ty,pos,af,g⟩::rest) A H:=bN (aQb rfl hx hy h2) hg hd hk
theorem W.sG{t e n len cap l h:Nat}{a:Option Addr}{k kk:IntKind}{m q:Int} [ht:cC P t e n](hk:SL P C L Q rest (pt A d' (.slice (lI a cap l n) (h-l) (cap-l))) H)(hx:ev A x=some (.slice a len cap):=by exact rfl)(hy:ev A y=some (.int k m):=by exact rfl)(hz:ev A z=some (.int kk q):=by exact rfl)(i0:eB m l:=by infer_instance)(i1:eB q h:=by infer_instance)(h1:l<=h:=by omega)(h2:h<=cap:=by omega)(hg:gd L A ⟨d,.slice t x (some y) (some z) none,ty,pos,af,g⟩=some true:=by exact rfl)(hd:dk C.n d=some d':=by exact rfl):SL P C L Q (⟨d,.slice t x (some y) (some z) none,ty,pos,af,g⟩::rest) A H:=bN (aKQ rfl hx hy hz h1 h2 (lo:=none) (hi:=none)) hg hd hk
theorem aNl{t e n b j len cap m:Nat} [ht:kP P t m e n](hk:SL P C L Q rest (pt A d' (.pointer (some ⟨b,j,none⟩))) H)(hx:ev A x=some (.slice (some ⟨b,j,none⟩) len cap):=by exact rfl)(h1:m<=len:=by omega)(hg:gd L A ⟨d,.sliceToArrayPointer t x,ty,pos,af,g⟩=some true:=by exact rfl)(hd:dk C.n d=some d':=by exact rfl):SL P C L Q (⟨d,.sliceToArrayPointer t x,ty,pos,af,g⟩::rest) A H:=bN (aNu rfl hx h1) hg hd hk
end
theorem RdH.cut{H:Hp}{a:Option Addr}{len cap:Nat}{bs:LB}(h:RdH H (.slice a len cap) bs)(c l q cap':Nat)(hl:l<=q)(hq:q<=len)(hc:q-l<=cap')(hcl:c=l->q=l):RdH H (.slice (lI a c l 1) (q-l) cap') ((bs.drop l).take (q-l)):=by
 obtain⟨a',len',cap'',he,h2,h3,h4⟩:=h;cases he;refine⟨_,_,_,rfl,by rw [aH,bG];omega,hc,?_⟩;by_cases h0:q-l=0
 ·exact .inl h0
 rcases h4 with h4|⟨b,o,cs,T,fz,rfl,hm,hy⟩
 ·omega
 refine .inr ⟨b,o+l,cs,T,fz,?_,hm,?_⟩
 ·unfold lI;rw [if_neg (fun e=>h0 (by rw [hcl e];omega))];simp [Addr.add]
 have e:(cs.drop (o+l)).take (q-l)=(((cs.drop o).take len).drop l).take (q-l):=by rw [jT,fK,cG,cO oQ]
 rw [e,hy];simp [iD,gX]
theorem RdH.len{H:Hp}{a:Option Addr}{len cap:Nat}{bs:LB}(h:RdH H (.slice a len cap) bs):bs.length=len/\len<=cap:=by obtain⟨a',len',cap'',he,h2,h3,h4⟩:=h;cases he;exact⟨h2,h3⟩
theorem aBl{l:LV}{o len:Nat}{xs:LB}{i:Nat}{c:UInt8}(hy:(l.drop o).take (len*1)=cbs xs)(hi:xs[i]?=some c):l[o+i]?=some (.int .u8 (c.toNat:Int)):=by
 have h1:i<len*1:=by have:=congrArg List.length hy;have h2:=(aD.1 hi).1;rw [aH,aI] at this;omega
 have h2:((l.drop o).take (len*1))[i]?=(cbs xs)[i]?:=by rw [hy]
 rw [bD,if_pos h1,bH] at h2;rw [h2,aL,hi];rfl
abbrev ptv(b:Nat):Value:=.pointer (some ⟨b,0,none⟩)
def pad(n:Nat)(b:LB):LB:=(b++List.replicate n 0).take n
theorem aBZ(n:Nat)(b:LB):(pad n b).length=n:=by unfold pad;rw [aH,aB,bA];omega
theorem aDM{n:Nat}{b:LB}(h:b.length<=n):pad n b=b++List.replicate (n-b.length) 0:=by unfold pad;rw [iO,aK h,List.take_replicate,cO oQ]
def qW(b:LB):Nat:=b.foldr (fun c v=>v*256+c.toNat) 0
def jR(b:LB):Nat:=qW (b.take 8)
theorem aAg(b:LB):qW b<256^b.length:=by
 unfold qW;induction b with
 | nil=>simp
 | cons c r ih=>
  have:=c.toNat_lt
  simp only [List.foldr_cons,aW,fE]
  omega
theorem aG0(b:LB)(c:UInt8):qW (b++[c])=qW b+c.toNat*256^b.length:=by
 unfold qW;induction b with
 | nil=>simp
 | cons x r ih=>
  simp only [dX,List.foldr_cons,aW,fE,ih,Nat.add_mul]
  rw [<-pM];omega
theorem aHP(b:LB):jR b<18446744073709551616:=by have h:=aAg (b.take 8);have h2:256^(b.take 8).length<=256^8:=dD dQ (by rw [aH];omega);unfold jR;omega
theorem aEr{b:LB}(h:b.length<=2):jR b<65536:=by have h1:=aAg (b.take 8);have h2:256^(b.take 8).length<=256^2:=dD dQ (by rw [aH];omega);unfold jR;omega
def zA(b:LB):UInt64:=UInt64.ofNat (jR b)
theorem aAh(b:LB):(zA b).toNat=jR b:=by unfold zA;rw [aU];exact dK (aHP b)
def aE8(x y:LB):LB:=List.zipWith (· ^^^ ·) x y
theorem aGA(x y:LB):(aE8 x y).length=min x.length y.length:=by unfold aE8;simp
theorem aPL(va vb:Value)(x y:LB)(hx:x.length<=1099511627776):Tri prog 240 [va,vb] [] (fun w=>Rd [] w 1 va (cbs x)/\Rd [] w 1 vb (cbs y)) (fun v H=>∃ b,v=.slice (some ⟨b,0,none⟩) (min x.length y.length) (min x.length y.length)/\H=[(b,cl (cbs (aE8 x y)) 5)]):=by
 refine Tri.mt func240 ntmps240 fun w hw=>?_;obtain⟨h1,h2⟩:=hw;obtain⟨a,la,ca,rfl,hl1,hc1,hr1⟩:=h1.get;obtain⟨b,lb,cb,rfl,hl2,hc2,hr2⟩:=h2.get;rw [aI,Nat.mul_one] at hl1 hl2;subst hl1 hl2;haveI i1:eB (min (x.length:Int) (y.length:Int)) (min x.length y.length):=⟨oQ⟩;have hmin:min x.length y.length<=x.length/\min x.length y.length<=y.length:=⟨Nat.min_le_left ..,Nat.min_le_right ..⟩;have hxl:=aGA x y;rw [<-hxl] at hmin;refine W.j fun b_=>?_;generalize hn:min x.length y.length=n at *;have hg:∀ k,(cbs (oA (fun i=>x.getD i 0 ^^^ y.getD i 0) n k)).length=(oA (fun i=>x.getD i 0 ^^^ y.getD i 0) n k).length:=fun k=>aI _;rw [show zs [.int .u8 0] n=cbs (oA (fun i=>x.getD i 0 ^^^ y.getD i 0) n 0) by rw [lJ];simp [oA]];refine SW.cut [5] [b_] (fun _:Unit=>[]) (fun _=>[(b_,cl (cbs (oA (fun i=>x.getD i 0 ^^^ y.getD i 0) n n)) 5)]) NT ?_ ?_
 ·refine W.k ?_;refine cI [0,1,5,14] [b_] (fun k:Nat=>[(15,.int .i64 (k:Int))]) (fun k=>[(b_,cl (cbs (oA (fun i=>x.getD i 0 ^^^ y.getD i 0) n k)) 5)]) (fun k=>n-k) (fun k=>k<=n) 0 oQ ?_;intro k hk;by_cases hkn:k<n
  ·have hlen:k<(cbs (oA (fun i=>x.getD i 0 ^^^ y.getD i 0) n k)).length:=by rw [aC,aDD _ hk];exact hkn
   obtain⟨b1,o1,l1,T1,z1,rfl,hb1,hk1,hy1⟩:=hr1 oQ;obtain⟨b2,o2,l2,T2,z2,rfl,hb2,hk2,hy2⟩:=hr2 oQ;have g1:=aBl hy1 (aA (show k<x.length by omega));have g2:=aBl hy2 (aA (show k<y.length by omega));have gx:x.getD k 0=x[k]'oQ:=by rw [aE,aA (show k<x.length by omega)];rfl
   have gy:y.getD k 0=y[k]'oQ:=by rw [aE,aA (show k<y.length by omega)];rfl
   have hfs:=aDE (fun i=>x.getD i 0 ^^^ y.getD i 0) hkn;rw [gx,gy] at hfs;refine W.k ?_;(refine SW.l [12] [0,1,2,3,4,5,6,7,8,9,10,11] ?_;refine bL 12 ?_;refine W.i ?_;refine SS.dn ?_);rw [hfs];refine W.k ?_;refine aN.mk (k+1) ?_;omega
  have:k=n:=oQ;subst this;refine W.k ?_;refine bS.mk () ?_;trivial
 rintro _ -;refine W.k ?_;rw [aDC];have e:(List.range n).map (fun i=>x.getD i 0 ^^^ y.getD i 0)=aE8 x y:=by
  apply cM;intro i;unfold aE8;rw [aL,eV];by_cases h:i<n
  ·rw [eI h,aA (show i<x.length by omega),aA (show i<y.length by omega)];simp [aE,aA (show i<x.length by omega),aA (show i<y.length by omega)]
  rw [bF (by simp;omega)];by_cases h2:i<x.length
  ·rw [bF (show y.length<=i by omega)];cases x[i]? <;> rfl
  rw [bF (show x.length<=i by omega)];rfl
 rw [e];refine Fin.to [(b_,cl (cbs (aE8 x y)) 5)] ?_;refine F.f1 ?_;exact⟨b_,rfl,rfl⟩
theorem aD5(v:Value)(x:LB)(n:Nat)(h1:1<=n)(hn:n<=65536)(hx:x.length<=n):Tri prog 223 [v,.int .i64 (n:Int)] [] (fun w=>Rd [] w 1 v (cbs x)) (fun r H=>∃ b,r=.slice (some ⟨b,0,none⟩) n n/\H=[(b,cl (cbs (pad n x)) 5)]):=by
 refine Tri.mt func223 ntmps223 fun w hw=>?_;obtain⟨a,la,ca,rfl,hl1,hc1,hr1⟩:=hw.get;rw [aI,Nat.mul_one] at hl1;subst hl1;have hfit:0+(cbs x).length<=(zs [Value.int .u8 0] n).length:=by rw [lJ,bA,aI];omega
 refine W.k fun b_=>?_;refine W.cy (fun w2 hs=>hw.srcAt hs) ?_;have e:(zs [Value.int .u8 0] n).take 0++cbs x++(zs [Value.int .u8 0] n).drop (0+(cbs x).length)=cbs (pad n x):=by rw [aDM hx,lJ,aI,List.drop_replicate,fT,iW];simp
 rw [e];refine W.k ?_;refine Fin.to [(b_,cl (cbs (pad n x)) 5)] ?_;refine F.f1 ?_;exact⟨b_,rfl,rfl⟩
theorem aPq(v:Value)(x:LB):Tri prog 272 [v] [] (fun w=>Rd [] w 1 v (cbs x)) (fun r H=>r=.int .u64 (jR x:Nat)/\H=[]):=by
 refine Tri.mt func272 ntmps272 fun w hw=>?_;obtain⟨a,la,ca,rfl,hl1,hc1,hr1⟩:=hw.get;rw [aI,Nat.mul_one] at hl1;subst hl1;refine W.j ?_;refine SW.cut [] [] (fun _:Unit=>[(3,.int .u64 (jR x:Nat))]) (fun _=>[]) NT ?_ ?_
 ·refine W.k ?_;refine bE [6,7] (fun k:Nat=>[(3,.int .u64 (jR (x.take k):Nat)),(8,.int .i64 (k:Int))]) (fun _=>[]) (fun k=>x.length-k) (fun k=>k<=x.length/\k<=8) 0 ⟨Nat.zero_le _,Nat.zero_le _⟩ ?_;rintro k ⟨hk,hk8⟩;by_cases hkn:k<x.length
  ·obtain⟨b1,o1,l1,T1,z1,rfl,hb1,hk1,hy1⟩:=hr1 oQ;have g1:=aBl hy1 (aA hkn);generalize hc:x[k]'hkn=c at *;by_cases h8:k=8
   ·subst h8;have e:jR (x.take 8)=jR x:=by unfold jR;rw [fK,iS]
    rw [e];refine W.k ?_;refine bS.mk () ?_;trivial
   have e0:(x.take k).length=k:=by rw [aH];omega
   have e1:jR (x.take k)=qW (x.take k):=by unfold jR;rw [fK,Nat.min_eq_right oQ]
   have e2:jR (x.take (k+1))=qW (x.take k)+c.toNat*256^k:=by unfold jR;rw [fK,Nat.min_eq_right oQ,aY,aA hkn,hc,dI,aG0,e0]
   have hlt:=aAg (x.take k);rw [e0] at hlt;have hlt2:=aHP (x.take (k+1));rw [e1];generalize qW (x.take k)=F at *;have hF:F<18446744073709551616:=by have:=c.toNat_lt;rw [e2] at hlt2;omega
   haveI i1:U64 (F:Int) (UInt64.ofNat F):=⟨by rw [aU];omega⟩;haveI i2:aIz (8*(k:Int)) (UInt64.ofNat (8*k)):=⟨by rw [aU];omega,by rw [aU];omega⟩;have e3:(UInt64.ofNat F ||| c.toUInt64 <<< UInt64.ofNat (8*k)).toNat=jR (x.take (k+1)):=by
    have hp:256^k=2^(8*k):=by rw [Nat.pow_mul]
    have h8k:(UInt64.ofNat (8*k)).toNat=8*k:=by rw [aU];omega
    rw [e2,UInt64.toNat_or,UInt64.toNat_shiftLeft,h8k,pX,aU,dK hF,dK (show 8*k<64 by omega)];rw [hp] at hlt |-;have hc2:c.toNat <<< (8*k)<2^64:=by rw [jQ];rw [e2,hp] at hlt2;omega
    rw [dK hc2,Nat.or_comm,<-Nat.shiftLeft_add_eq_or_of_lt hlt,jQ];omega
   refine W.k ?_;rw [e3];refine aN.mk (k+1) ?_;omega
  have hk2:k=x.length:=oQ;have e:jR (x.take k)=jR x:=by rw [hk2,bO]
  rw [e];refine W.k ?_;refine bS.mk () ?_;trivial
 rintro _ -;refine W.k ?_;exact F.n
def aFc(p:Nat)(bs:LB)(H:Hp):Prop:=∃ v Ht,H=(p,cl [v,.int .i64 0] 384)::Ht/\RdH Ht v bs
theorem aPu(v:Value)(x:LB)(hx:x.length<=1099511627776):Tri prog 250 [v] [] (fun w=>Rd [] w 1 v (cbs x)) (fun r H=>∃ p,r=.pointer (some ⟨p,0,none⟩)/\aFc p x H):=by refine Tri.mt func250 ntmps250 fun w hw=>?_;obtain⟨a,la,ca,rfl,hl1,hc1,hr1⟩:=hw.get;refine W.k ?_;refine aF (wY _ x hx) ?_ (hpre:=fun w2 hs=>hw.ro (Hc:=[]) hs);intro v1 H1 h1;have h11:=h1.isOne;obtain⟨a1,l1,c1,rfl,hl1⟩:=h1.form;have hb:bV (fun i=>[(0,1),(1,1)][i]?) [.slice none 0 0,.int .i64 0] [(0,.slice a1 l1 c1)]=some [.slice a1 l1 c1,.int .i64 0]:=rfl;refine W.k fun b_=>?_;refine Fin.to ((b_,cl [.slice a1 l1 c1,.int .i64 0] 384)::H1) ?_;exact F.f1 ⟨b_,rfl,_,H1,rfl,RdH.of h1⟩
theorem aKy{p:Nat}{bs:LB}{H:Hp}(hR:aFc p bs H)(n:Nat)(hn:n<=bs.length)(hb:bs.length<=1099511627776):Tri prog 273 [.pointer (some ⟨p,0,none⟩),.int .i64 (n:Int)] H NT (fun r H'=>∃ v Ht,H'=(p,cl [v,.int .i64 0] 384)::Ht/\RdH Ht v (bs.drop n)/\RdH Ht r (bs.take n)):=by obtain⟨v,Ht,rfl,hv⟩:=hR;have hv2:=hv;obtain⟨a,len,cap,rfl,-⟩:=hv2;obtain⟨hl,hc⟩:=hv.len;subst hl;refine Tri.mt func273 ntmps273 fun w hw=>?_;refine W.k ?_;refine W.s3 ?_;have c1:=hv.cut n 0 n n (Nat.zero_le _) hn oQ oQ;refine W.k ?_;refine W.sF ?_;have c2:=hv.cut cap n bs.length (cap-n) hn (Nat.le_refl _) oQ oQ;rw [aK (by simp)] at c2;rw [bQ,iU] at c1;have o1:=c1.one;have o2:=c2.one;refine W.k ?_;exact F.f1 ⟨_,Ht,rfl,c2,c1⟩
theorem aHx{p:Nat}{bs:LB}{H:Hp}(hR:aFc p bs H)(n:Nat)(h1:1<=n)(h8:n<=8)(hn:n<=bs.length)(hb:bs.length<=1099511627776):Tri prog 251 [.pointer (some ⟨p,0,none⟩),.int .i64 (n:Int)] H NT (fun r H'=>r=.int .u64 (jR (bs.take n):Nat)/\aFc p (bs.drop n) H'):=by refine Tri.mt func251 ntmps251 fun w hw=>?_;have hnx:=aKy hR n hn hb;refine W.k ?_;refine aF hnx ?_;rintro u H1 ⟨v,Ht,rfl,hv,hu⟩;have hu1:=hu.one;refine W.k ?_;refine W.cw (aPq u (bs.take n)) ?_ (hpre:=fun w2 hs=>hu.rd (Hc:=[]) hs);refine Fin.to ((p,cl [v,.int .i64 0] 384)::Ht) ?_;exact F.f1 ⟨rfl,v,Ht,rfl,hv⟩
theorem aLC{p:Nat}{bs:LB}{H:Hp}(hR:aFc p bs H)(n:Nat)(hn:n<=bs.length)(hb:bs.length<=1099511627776):Tri prog 252 [.pointer (some ⟨p,0,none⟩),.int .i64 (n:Int)] H NT (fun r H'=>∃ H1 Ht,aFc p (bs.drop n) H1/\Sl 5 1 r (cbs (bs.take n)) Ht/\H'=H1++Ht):=by refine Tri.mt func252 ntmps252 fun w hw=>?_;have hnx:=aKy hR n hn hb;refine W.k ?_;refine aF hnx ?_;rintro u H1 ⟨v,Ht,rfl,hv,hu⟩;have hu1:=hu.one;refine W.k ?_;refine aF (wY u (bs.take n) (by rw [aH];omega)) ?_ (hpre:=fun w2 hs=>hu.rd (Hc:=[]) hs);intro v2 H2 h2;have h21:=h2.isOne;refine W.k ?_;refine Fin.to (((p,cl [v,.int .i64 0] 384)::Ht)++H2) ?_;exact F.f1 ⟨_,H2,⟨v,Ht,rfl,hv⟩,h2,rfl⟩
end
section
theorem aGq{P:Program}{w:World}{K:List Nat}{w0:World}{H:Hp}{t t2 e n bytes m len cap:Nat}{ty:TypeId}{a:Option Addr}{sv:Value}{xs ys z:LV} [ht:cC P t e n] [hb:fQ P e bytes] [hz:cK P e z] [h2:pA P t2] (hzn:z.length=n) (hv:eQ P w (.slice a len cap) n len xs) (hx:xs.length=len*n) (hs:St K w0 H w) (hsrc:eQ P w sv n m ys) (hys:ys.length=m*n) (hn:0<n) (hbytes:(xs.length+ys.length)*bytes<=140737488355328*n) (hb1:1<=bytes) (hg:cap<len+m):∃ v' w' Hs',(Builtin.append_ #[t,t2] ty #[.slice a len cap,sv]).run P w=.ok v' w'/\Sl e n v' (xs++ys) Hs'/\St K w0 (Hs'++H) w':=by
 obtain⟨i,hi,hisz⟩:=tH ht.size;have hby:i.bytes=bytes:=by have:=hb.ok;simpa [hi] using this
 obtain⟨zv,hzv,hzc⟩:=hz.ok;have hzi:i.zero=some zv:=by simpa [hi] using hzv
 have hzl:zv.cells.size=n:=by rw [hzc];simpa using hzn
 have hl1:=(hsrc w rfl).1;subst hisz hby;have hmb:(len+m)*i.bytes<=140737488355328:=by refine xK hn ?_;rw [hx,hys,<-Nat.add_mul] at hbytes;exact hbytes
 have hm63:len+m<=9223372036854775807:=by have:(len+m)*1<=(len+m)*i.bytes:=iK _ hb1;omega
 have hrun:=oG (P:=P) (w:=w) (ty:=ty) (sLen:=len) (sCap:=cap) (base:=a) (xs:=xs) ht.ok hi hzi h2 hl1 (hv w.drew rfl).2 (hsrc w.drew rfl).2 hg hmb hm63;refine⟨_,_,[(w.heap.size,_)],hrun,?_,hs.drew.alloc _⟩;have hge:=grownCap_ge w (len+m) cap e;exact .inr ⟨w.heap.size,len+m,grownCap w (len+m) cap e,(Builtin.zeroCells zv.cells (grownCap w (len+m) cap e-(len+m))).toList,rfl,by rw [aB,hx,hys,Nat.add_mul],by rw [gU,size_zeroCells,hzl,<-Nat.add_mul];congr 1;omega,hge,rfl⟩
section
variable {P:Program}{C:Ctx}{Q:Exit->Fr->Hp->Prop}{A:Fr}{H:Hp}{L rest:List Oper}{d:Option Tmp}{ty:TypeId}{pos:String}{af:Array Edge}{g:Option (Nat×Bool)}{t t2 e n:Nat}{d':Option Nat}{x y:Operand}{a:Option Addr}{len cap:Nat}{sv:Value}
theorem aNg{bytes mm:Nat}{xs ys zv:LV} [ht:cC P t e n] [fQ P e bytes] [cK P e zv] [pA P t2](hv:∀ w,St C.K C.w0 H w->eQ P w (.slice a len cap) n len xs)(hsrc:∀ w,St C.K C.w0 H w->eQ P w sv n mm ys)(hk:∀ v' Hs',Sl e n v' (xs++ys) Hs'->SL P C L Q rest (pt A d' v') (Hs'++H))(hx:ev A x=some (.slice a len cap):=by exact rfl)(hy:ev A y=some sv:=by exact rfl)(hxs:xs.length=len*n:=by first|assumption|omega)(hys:ys.length=mm*n:=by first|assumption|omega)(hc:cap<len+mm:=by omega)(hzn:zv.length=n:=by exact rfl)(hn:0<n:=by decide)(hb1:1<=bytes:=by decide)(hbytes:(xs.length+ys.length)*bytes<=140737488355328*n:=by omega)
  (hg:gd L A ⟨d,.call { callee:=.builtin .append,args:=#[x,y],argTypes:=#[t,t2] },ty,pos,af,g⟩=some true:=by exact rfl) (hd:dk C.n d=some d':=by exact rfl):SL P C L Q (⟨d,.call { callee:=.builtin .append,args:=#[x,y],argTypes:=#[t,t2] },ty,pos,af,g⟩::rest) A H:=
 mY hg hd fun ac w hf hs=>by
  obtain⟨v',w',Hs',hrun,hv',hst⟩:=aGq (P:=P) (t:=t) (t2:=t2) (ty:=ty) hzn (hv w hs) hxs hs (hsrc w hs) hys hn hbytes hb1 hc
  exact⟨v',w',Hs'++H,.inl (by unfold execOp;simp [resolve,invoke,builtin,hf.eval hx,hf.eval hy,hrun]),hst,hk v' Hs' hv'⟩
end
attribute [local irreducible] SW SL SQ SH SA SS Pu Fin bS aN
theorem aOM(n:Nat)(x:LB){i:Nat}(h:i<n):(pad n x)[i]?=some (x.getD i 0):=by
 unfold pad;rw [bD,if_pos h,aE];by_cases hx:i<x.length
 ·rw [aJ hx,aA hx];rfl
 rw [aV oQ,bF (show x.length<=i by omega),nP,if_pos oQ];rfl
theorem aK1(v:Value)(x:LB)(n:Nat)(hn:n<=65536):Tri prog 195 [v,.int .i64 (n:Int)] [] (fun w=>Rd [] w 1 v (cbs x)) (fun r H=>Sl 5 1 r (cbs (pad n x)) H):=by
 refine Tri.mt func195 ntmps195 fun w hw=>?_;obtain⟨a,la,ca,rfl,hl1,hc1,hr1⟩:=hw.get;rw [aI,Nat.mul_one] at hl1;subst hl1;have hY:One (Value.slice a x.length ca):=⟨rfl⟩;have hpl:=aBZ n x;refine W.j ?_;refine bP [] [] (fun x:Value×Hp=>[(5,x.1)]) (fun x=>x.2) (fun y=>Sl 5 1 y.1 (cbs (pad n x)) y.2) ?_ ?_
 ·refine W.k ?_;refine bE [0,1] (fun x:Nat×Value×Hp=>[(5,x.2.1),(6,.int .i64 (x.1:Int))]) (fun x=>x.2.2) (fun x=>n-x.1) (fun y=>y.1<=n/\Sl 5 1 y.2.1 (cbs ((pad n x).take y.1)) y.2.2) (0,.slice none 0 0,[]) ⟨Nat.zero_le _,Sl.nil _ _⟩ ?_;rintro⟨j,v2,H2⟩ ⟨hj,h2⟩;dsimp only at hj h2 |-;have h21:=h2.isOne;by_cases hjn:j<n
  ·have hts:(pad n x).take (j+1)=(pad n x).take j++[x.getD j 0]:=by rw [aY,aOM n x hjn];rfl
   have htl:((pad n x).take j).length=j:=by rw [aH];omega
   have hb1:∀ c:UInt8,bV (fun i=>some (i*1,1)) (zs [.int .u8 0] 1) [(0,.int .u8 (c.toNat:Int))]=some (cbs [c]):=fun c=>rfl;by_cases hjx:j<x.length;case' pos=>
    obtain⟨b1,o1,l1,T1,z1,rfl,hbb,hk1,hy1⟩:=hr1 oQ;have g1:=aBl hy1 (aA hjx);have gx:x.getD j 0=x[j]:=by rw [aE,aA hjx];rfl
    rw [<-gx] at g1
   case' neg=>
    have gx:x.getD j 0=0:=by rw [aE,bF oQ];rfl
    have hb0:bV (fun i=>some (i*1,1)) (zs [.int .u8 0] 1) [(0,.int .u8 0)]=some (cbs [x.getD j 0]):=by rw [gx];rfl
   all_goals
    generalize x.getD j 0=c at *;have hbc:=hb1 c;clear hb1;refine W.k fun b_=>?_;refine W.ap h2 (ys:=cbs [c]) (mm:=1) (fun w2 hs=>(Sl.own 5 1 b_ (xs:=cbs [c]) rfl).srcAt hs inferInstance) (fun v3 H3 h3=>?_) (hys:=rfl) (hbytes:=by rw [aI,htl,aI];simp only [aW,List.length_nil];omega);have h31:=h3.isOne;rw [<-iW,<-hts] at h3;refine W.k ?_;refine aN.mk (j+1,v3,H3) ?_;exact⟨hjn,h3⟩
  have:j=n:=oQ;subst this;rw [aK oQ] at h2;refine W.k ?_;refine bS.mk (v2,H2) ?_;exact h2
 rintro⟨v2,H2⟩ h2;dsimp only at h2 |-;have h21:=h2.isOne;refine W.k ?_;refine Fin.to H2 ?_;exact F.f1 h2
theorem aEO(v:Value)(x:LB)(hx:x.length<=8):Tri prog 139 [v] [] (fun w=>Rd [] w 1 v (cbs x)) (fun r H=>r=.int .u64 (jR x:Nat)/\H=[]):=by
 refine Tri.mt func139 ntmps139 fun w hw=>?_;obtain⟨a,la,ca,rfl,hl1,hc1,hr1⟩:=hw.get;rw [aI,Nat.mul_one] at hl1;subst hl1;have hY:One (Value.slice a x.length ca):=⟨rfl⟩;rw [show jR x=qW (x.drop 0) by unfold jR;rw [aK hx,bQ]];refine W.j ?_;refine SW.cut [] [] (fun _:Unit=>[(3,.int .u64 (qW (x.drop 0):Nat))]) (fun _=>[]) NT ?_ ?_
 ·refine W.k ?_;refine bE [0] (fun k:Nat=>[(3,.int .u64 (qW (x.drop (x.length-k)):Nat)),(4,.int .i64 ((x.length:Int)-1-k))]) (fun _=>[]) (fun k=>x.length-k) (fun k=>k<=x.length) 0 (Nat.zero_le _) ?_ (hr:=by rw [iU,sV,Int.natCast_zero,Int.sub_zero];exact⟨rfl,rfl,trivial⟩);intro k hk;by_cases hkn:k<x.length
  ·obtain⟨b1,o1,l1,T1,z1,rfl,hbb,hk1,hy1⟩:=hr1 oQ;have hj:x.length-k-1<x.length:=oQ;have g1:=aBl hy1 (aA hj);haveI i0:eB ((x.length:Int)-1-k) (x.length-k-1):=⟨oQ⟩;have hdr:x.drop (x.length-(k+1))=x[x.length-k-1]::x.drop (x.length-k):=by rw [show x.length-(k+1)=x.length-k-1 by omega,bK hj,show x.length-k-1+1=x.length-k by omega]
   have hf:=aAg (x.drop (x.length-(k+1)));have hp:256^(x.drop (x.length-(k+1))).length<=256^8:=dD dQ (by rw [bG];omega);have hfs:qW (x.drop (x.length-(k+1)))=qW (x.drop (x.length-k))*256+(x[x.length-k-1]).toNat:=by rw [hdr];rfl
   rw [hfs] at hf;generalize x[x.length-k-1]=c at *;generalize qW (x.drop (x.length-k))=F at *;have hc:=c.toNat_lt;have hF:F*256+c.toNat<18446744073709551616:=oQ;haveI i1:U64 (F:Int) (UInt64.ofNat F):=⟨by rw [aU];omega⟩;have e3:(UInt64.ofNat F*256+c.toUInt64).toNat=qW (x.drop (x.length-(k+1))):=by rw [hfs,gR,pD,pX,aU,dK (show F<2^64 by omega),show (256:UInt64).toNat=256 from rfl];omega
   refine W.k ?_;rw [e3,show (x.length:Int)-1-k-1=(x.length:Int)-1-((k+1:Nat):Int) by omega];refine aN.mk (k+1) ?_;omega
  have:k=x.length:=oQ;subst this;rw [dO];refine W.k ?_;refine bS.mk () ?_;trivial
 rintro _ -;refine W.k ?_;exact F.n
end
section
attribute [local irreducible] SW SL SQ SH SA SS Pu Fin bS aN
def kC:LB:=[71,65,82,68,82,79,66,69]
def iC(p t:Nat):LB:=pad 256 (kC++leN 2 1++leN 2 (UInt64.ofNat p)++leN 2 (UInt64.ofNat t))
def epB(k:Nat)(es:List UInt64):LB:=pad 256 (((es.drop (32*k)).take 32).flatMap (leN 8))
theorem zK(p t:Nat):(iC p t).length=256:=aBZ _ _
theorem pP(k:Nat)(es:List UInt64):(epB k es).length=256:=aBZ _ _
theorem bsM:bV (fun i=>some (i*1,1)) (zs [Value.int .u8 0] 8) [(0,.int .u8 71),(1,.int .u8 65),(2,.int .u8 82),(3,.int .u8 68),(4,.int .u8 82),(5,.int .u8 79),(6,.int .u8 66),(7,.int .u8 69)]=some (cbs kC):=rfl
theorem aGv{p t:Nat}(h:Gm.Ok p t):Tri prog 191 [kM p t] [] NT (fun v H=>∃ b,v=.tuple #[.slice (some ⟨b,0,none⟩) 256 256,.int .i64 0]/\H=[(b,cl (cbs (iC p t)) 5)]):=by
 refine Tri.mt func191 ntmps191 fun w hw=>?_;have hck:=qC h;have hp1:=yK 2 1 oQ oQ;have hp2:=yK 2 (UInt64.ofNat p) oQ oQ;have hp3:=yK 2 (UInt64.ofNat t) oQ oQ;have hfl:[kC,leN 2 1,leN 2 (UInt64.ofNat p),leN 2 (UInt64.ofNat t)].flatten=kC++leN 2 1++leN 2 (UInt64.ofNat p)++leN 2 (UInt64.ofNat t):=by simp
 have hfn:(kC++leN 2 1++leN 2 (UInt64.ofNat p)++leN 2 (UInt64.ofNat t)).length=14:=by simp [dV,kC]
 have hpd:=fun v=>aD5 v (kC++leN 2 1++leN 2 (UInt64.ofNat p)++leN 2 (UInt64.ofNat t)) 256 dQ dQ (by rw [hfn];decide);rw [show pad 256 (kC++leN 2 1++leN 2 (UInt64.ofNat p)++leN 2 (UInt64.ofNat t))=iC p t from rfl] at hpd;refine W.k fun b_=>?_;refine W.cw hck ?_;(refine SW.l [] [3,4,5,7,8,9] ?_;skip );repeat' (first
  | refine iV 0 2 ?_ ?_ rfl rfl (hok:=by decide +kernel)|refine iV 1 2 ?_ ?_ rfl rfl (hok:=by decide +kernel)|refine iV 0 6 ?_ ?_ rfl rfl (hok:=by decide +kernel)|refine iV 1 6 ?_ ?_ rfl rfl (hok:=by decide +kernel)|refine iV 0 10 ?_ ?_ rfl rfl (hok:=by decide +kernel)|refine iV 1 10 ?_ ?_ rfl rfl (hok:=by decide +kernel)
  | refine pO 0 ?_ rfl (by decide +kernel)|refine pO 1 ?_ rfl (by decide +kernel)|refine pO 2 ?_ rfl (by decide +kernel)|refine pO 6 ?_ rfl (by decide +kernel)|refine pO 10 ?_ rfl (by decide +kernel)
  | (refine iQ (fun b1=>?_) (hr:=bsM);refine dU ?_)
  | (refine W.mk ?_;refine dU ?_)
  | (refine eC hp1 rfl ?_;rintro _ _ ⟨b2,rfl,rfl⟩;refine dU ?_)
  | (refine eC hp2 rfl ?_;rintro _ _ ⟨b3,rfl,rfl⟩;refine dU ?_)
  | (refine eC hp3 rfl ?_;rintro _ _ ⟨b4,rfl,rfl⟩;refine dU ?_))
 all_goals
  refine aX 11 ?_;refine iQ (fun b5=>?_) (hr:=bs4 ..);(refine bB [] ?_;refine aX 12 ?_);refine aF (vS _ [kC,leN 2 1,leN 2 (UInt64.ofNat p),leN 2 (UInt64.ofNat t)] (by rw [hfl,hfn];decide) (by simp only [aW,List.length_nil];omega)) ?_ (hpre:=fun w2 hs=>RdS.at (T:=31) (fz:=(0,0)) (Hc:=[]) hs rfl (Nat.le_refl _) rfl (xC rfl (Rd.atB (Hc:=[]) (b:=b1) (len:=8) (cap:=8) (T:=5) (fz:=((cbs kC).length,(cbs kC).length+1)) kC hs rfl (Nat.le_refl _)) (Rd.my (Hc:=[]) (T:=5) b2 _ hs (dV ..)) (Rd.my (Hc:=[]) (T:=5) b3 _ hs (dV ..)) (Rd.my (Hc:=[]) (T:=5) b4 _ hs (dV ..))));rw [hfl];intro v6 H6 h6;have h61:=h6.isOne;(refine SL.l [13,14] ?_);refine W.k ?_;refine aF (hpd v6) ?_ (hpre:=fun w2 hs=>Rd.own (Hc:=[]) h6 hs inferInstance);rintro _ _ ⟨b7,rfl,rfl⟩;refine W.k ?_;refine Fin.to [(b7,cl (cbs (iC p t)) 5)] ?_;exact F.f2 ⟨b7,rfl,rfl⟩
theorem aOe(v:Value)(x:LB):Tri prog 269 [v] [] (fun w=>Rd [] w 1 v (cbs x)) (fun r H=>r=.bool (decide (x.length≠256))/\H=[]):=by
 refine Tri.mt func269 ntmps269 fun w hw=>?_;obtain⟨a,la,ca,rfl,hl1,hc1,hr1⟩:=hw.get;rw [aI,Nat.mul_one] at hl1;subst hl1;by_cases h:x.length=256
 ·rw [decide_eq_false (by simp [h])];refine W.k ?_;exact F.f1 ⟨rfl,rfl⟩
 rw [decide_eq_true h];refine W.k ?_;exact F.f1 ⟨rfl,rfl⟩
def RB(Ht:Hp)(vs:LV)(bss:LL):Prop:=vs.length=bss.length/\∀ (i:Nat) (bs:LB),bss[i]?=some bs->∃ v,vs[i]?=some v/\RdH Ht v bs
theorem RB.nil(Ht:Hp):RB Ht [] []:=⟨rfl,fun i bs h=>by simp at h⟩
theorem RB.mono{H H':Hp}{vs:LV}{bss:LL}(h:RB H vs bss)(hs:∀ x∈H,x∈H'):RB H' vs bss:=⟨h.1,fun i bs hi=>let ⟨v,h1,h2⟩:=h.2 i bs hi;⟨v,h1,h2.mono hs⟩⟩
theorem RB.snoc{H:Hp}{vs:LV}{bss:LL}{v:Value}{bs:LB}(h:RB H vs bss)(hv:RdH H v bs):RB H (vs++[v]) (bss++[bs]):=⟨by simp [h.1],fun i b hi=>by
 by_cases hl:i<bss.length
 ·rw [aJ hl] at hi
  obtain⟨u,h1,h2⟩:=h.2 i b hi
  exact⟨u,by rw [aJ (by rw [h.1];exact hl)];exact h1,h2⟩
 ·rw [aV oQ] at hi
  have h0:i-bss.length=0:=by have:=(aD.1 hi).1;simp at this;omega
  rw [h0] at hi
  cases hi
  exact⟨v,by rw [aV (by rw [h.1];omega),h.1,h0];rfl,hv⟩⟩
theorem RB.set{H:Hp}{vs:LV}{bss:LL}{v:Value}{bs:LB}(h:RB H vs bss)(hv:RdH H v bs)(k:Nat):RB H (vs.set k v) (bss.set k bs):=⟨by simp [h.1],fun i b hi=>by
 rw [dW] at hi |-
 by_cases hk:k=i
 ·rw [if_pos hk] at hi |-
  by_cases hl:k<bss.length
  ·rw [if_pos hl] at hi
   cases hi
   exact⟨v,by rw [if_pos (by rw [h.1];exact hl)],hv⟩
  ·rw [if_neg hl] at hi;cases hi
 ·rw [if_neg hk] at hi |-
  exact h.2 i b hi⟩
theorem RB.part{H:Hp}{vs:LV}{bss:LL}(h:RB H vs bss)(a n:Nat):RB H ((vs.drop a).take n) ((bss.drop a).take n):=⟨by simp [h.1],fun i b hi=>by
 rw [bD,bH] at hi |-
 by_cases hn:i<n
 ·rw [if_pos hn] at hi |-
  exact h.2 _ _ hi
 ·rw [if_neg hn] at hi;cases hi⟩
theorem RB.oc{H:Hp}{vs:LV}{bss:LL}(h:RB H vs bss):OC vs:=⟨fun u hu=>by
 obtain⟨i,hi⟩:=cW.1 hu
 have hl:i<bss.length:=by have:=(aD.1 hi).1;rw [h.1] at this;exact this
 obtain⟨v,h1,h2⟩:=h.2 i _ (aA hl)
 rw [h1] at hi
 cases hi
 exact h2.one.ok⟩
theorem aOn{Ht:Hp}(v:Value)(vs:LV)(bss:LL)(hB:RB Ht vs bss)(hn:bss.length<=1000000):Tri prog 271 [v,.func (.func 269) #[] #[]] Ht (fun w=>Rd (Ht.map Prod.fst) w 1 v vs) (fun r H=>∃ z:Int,r=.int .i64 z/\H=Ht/\(0<=z↔∃ b∈bss,b.length≠256)):=by
 refine Tri.mt func271 ntmps271 fun w hw=>?_;obtain⟨a,la,ca,rfl,hl1,hc1,hr1⟩:=hw.get;rw [Nat.mul_one,hB.1] at hl1;subst hl1;refine W.k ?_;refine bE [0,1,7] (fun k:Nat=>[(8,.int .i64 (k:Int))]) (fun _=>Ht) (fun k=>bss.length-k) (fun k=>k<=bss.length/\∀ i b,i<k->bss[i]?=some b->b.length=256) 0 ⟨Nat.zero_le _,fun i b h=>by omega⟩ ?_;rintro k ⟨hk,hk2⟩;by_cases h:k<bss.length
 ·obtain⟨bb,o,l,T,fz,rfl,hb,hkK,hy⟩:=hr1 oQ;obtain⟨u,hu1,hu2⟩:=hB.2 k _ (aA h);have hlu:l[o+k]?=some u:=by
   have h2:((l.drop o).take (bss.length*1))[k]?=vs[k]?:=by rw [hy]
   rw [bD,if_pos oQ,bH,hu1] at h2;exact h2
  have hbl:=aA h;generalize bss[k]=bs at *;have huo:=hu2.one;have h1:=aOe u bs;refine W.k ?_;refine dN [] rfl rfl rfl rfl rfl rfl h1 (fun w2 hs=>hu2.rd (Hc:=[]) hs) ?_;rintro _ _ ⟨rfl,rfl⟩;by_cases h256:bs.length=256
  ·rw [decide_eq_false (by simp [h256])];refine W.k ?_;refine aN.mk (k+1) ?_;refine⟨h,fun i b hi hib=>?_⟩;by_cases hik:i=k
   ·subst hik;rw [hbl] at hib;cases hib;exact h256
   exact hk2 i b oQ hib
  rw [decide_eq_true h256];refine W.k ?_;refine Fin.to Ht ?_;exact F.f1 ⟨(k:Int),rfl,rfl,⟨fun _=>⟨bs,aP hbl,h256⟩,fun _=>by omega⟩⟩
 have hkn:k=bss.length:=oQ;subst hkn;refine W.k ?_;refine Fin.to Ht ?_;refine F.f1 ⟨-1,rfl,rfl,⟨fun h=>by omega,fun⟨b,hb,hne⟩=>?_⟩⟩;obtain⟨i,hi⟩:=cW.1 hb;exact absurd (hk2 i b (aD.1 hi).1 hi) hne
theorem aL9{Ht:Hp}(v:Value)(vs:LV)(bss:LL)(hB:RB Ht vs bss)(hn:bss.length<=1000000)(h256:∀ b∈bss,b.length=256):Tri prog 249 [v,.func (.func 269) #[] #[]] Ht (fun w=>Rd (Ht.map Prod.fst) w 1 v vs) (fun r H=>r=.bool false/\H=Ht):=by
 refine Tri.mt func249 ntmps249 fun w hw=>?_;have hv:=hw.isOne;obtain⟨a,la,ca,rfl,-⟩:=hw.get;refine W.k ?_;refine aF (aOn _ vs bss hB hn) ?_ (hpre:=fun w2 hs=>hw.ro (Hc:=Ht) hs);rintro _ Ht ⟨z,rfl,rfl,hz⟩;have hz2:z<0:=by
  rcases zO z 0 with h|h
  ·exact h
  obtain⟨b,hb,hne⟩:=hz.1 h;exact absurd (h256 b hb) hne
 refine W.k ?_;refine Fin.to Ht ?_;exact F.f1 ⟨rfl,rfl⟩
theorem aGw{sp:Nat}{F0:LV}{st:Int}(hF:F0[9]?=some (.int .i64 st)):Tri prog 52 [ptv sp] [(sp,cl F0 231)] NT (fun v H=>v=.int .i64 st/\H=[(sp,cl F0 231)]):=by refine Tri.mt func52 ntmps52 fun w hw=>?_;refine W.k ?_;refine Fin.to [(sp,cl F0 231)] ?_;exact F.f1 ⟨rfl,rfl⟩
end
section
variable {P:Program}{C:Ctx}{Q:Exit->Fr->Hp->Prop}{A:Fr}{H:Hp}{L rest:List Oper}{o:Oper}{B:List Nat}{R R':Hp}{fuel:Nat}{listed:Array Bool}
theorem RdH.src{Ht:Hp}{v:Value}{bs:LB}{w:World}(hv:RdH Ht v bs)(hh:∀ x∈Ht,w.heap[x.1]?=some x.2):∃ a len cap,v=.slice a len cap/\eQ P w (.slice a len cap) 1 len (cbs bs):=by
 obtain⟨a,len,cap,rfl,hl,hc,hor⟩:=hv;refine⟨a,len,cap,rfl,?_⟩;rcases hor with h0|⟨b,j,l,T,fz,rfl,hm,hy⟩
 ·subst h0;have:bs=[]:=bI hl;subst this;exact eQ.empty w a cap 1
 exact eQ.block (hh _ hm) (by rw [Nat.mul_one];exact hy) (by rw [aI,Nat.mul_one];exact hl)
theorem zU{t t' e n:Nat}{x:Operand}{v:Value}{bs:LB}{Hs rr:Hp}(hv:RdH Hs v bs) [hp:eY H Hs rr](i:Nat)(Ws:List Nat)(hi:L[i]?=some o){d':Option Nat}(hk:SS P C L Q B (Hs++R) fuel (listed.setIfInBounds i true) (pt A d' (.string (zJ bs))) H)(hok:aCk L B listed i Ws=true:=by kernel_rfl)(ho:o.op=.convert t t' x:=by exact rfl)(h1:cC P t e n:=by infer_instance)(h2:mB P e .u8:=by infer_instance)(h3:zX P t':=by infer_instance)(hx:ev A x=some v:=by exact rfl)(hg:gd L A o=some true:=by exact rfl)(hd:dk C.n o.dst=some d':=by exact rfl)(hQ:∀ c A H,Q (.panic c) A H->False:=by exact fun _ _ _ h=>Fin.np h):SS P C L Q B R (fuel+1) listed A H:=
 wZ (R':=Hs++R) i Ws hi hok hQ (fun x hx=>aM _ hx) (fun x hx=>(bJ.1 hx).elim (fun h=>.inr (hp.perm.mem_iff.2 (aO _ h))) .inl) (fun a hf=>.inl ⟨gW hf hg,fun w hr=>by
  obtain⟨pa,len,cap,rfl,hs⟩:=hv.src (P:=P) (w:=w) (fun x hx=>hr.2 x (aO _ hx))
  unfold execOp;rw [ho]
  simp [hf.eval hx,aAB (P:=P) (t:=t) (t':=t') (e:=e) (n:=n) hs]⟩) hd hk
theorem aMB{t t':TypeId}{x y:Operand}{a c:LB}(ho:o.op=.binOp .neq t x y t')(hx:ev A x=some (.string (zJ a)))(hy:ev A y=some (.string (zJ c)))(h:a≠c):Pu P C A H o (.bool true):=by have:=aEK (P:=P) (C:=C) (H:=H) ho hx hy;rw [aB4,decide_eq_false h] at this;exact this
end
section
variable {P:Program}{C:Ctx}{A:Fr}{H:Hp}{o:Oper}
theorem aMy{t t':TypeId}{x y:Operand}{a c:LB}(ho:o.op=.binOp .eql t x y t')(hx:ev A x=some (.string (zJ a)))(hy:ev A y=some (.string (zJ c))):Pu P C A H o (.bool (decide (a=c))):=by have:=aEI (P:=P) (C:=C) (H:=H) ho hx hy;rw [aB4] at this;exact this
end
end Go.Proofs.YtdfclocfackkmaaGreat
