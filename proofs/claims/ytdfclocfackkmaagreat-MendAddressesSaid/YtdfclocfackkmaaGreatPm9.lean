/- The document's Pad. The document's words. The document's Block. The document's Sum. -/
import Derived.Test.YtdfclocfackkmaaGreatPm8
set_option linter.unusedVariables false
set_option linter.unusedSimpArgs false
set_option linter.unusedSectionVars false
set_option maxHeartbeats 8000000
namespace Go.Proofs.YtdfclocfackkmaaGreat
open Go Go.Proofs.Tryz
section
attribute [local irreducible] SW SL SQ SH SA SS Pu Fin bS aN
section
variable {P:Program}{C:Ctx}{Q:Exit->Fr->Hp->Prop}{A:Fr}{H:Hp}{L rest:List Oper}{d:Option Tmp}{ty:TypeId}{pos:String}{af:Array Edge}{g:Option (Nat×Bool)}{t t' len:Nat}{d':Option Nat}{x y:Operand}{m q:Int}{o:Oper}
theorem aOF(ho:o.op=.binOp .quo t x y t')(hx:ev A x=some (.int .u64 m))(hy:ev A y=some (.int .u64 q))(h0:0<=m)(h1:m<18446744073709551616)(hn:0<q):Pu P C A H o (.int .u64 (m/q)):=
 aCN ho hx hy oQ (by
  rw [mF h0]
  have h2:0<=m/q:=vB h0 oQ
  have h3:m/q<=m:=sS q h0
  rw [mT];omega)
theorem aGO(h:SL P C L Q rest (pt A d' (.int .u64 (m/q))) H)(hx:ev A x=some (.int .u64 m):=by exact rfl)(hy:ev A y=some (.int .u64 q):=by exact rfl)(h0:0<=m:=by omega)(h1:m<18446744073709551616:=by omega)(hn:0<q:=by omega)(hg:gd L A ⟨d,.binOp .quo t x y t',ty,pos,af,g⟩=some true:=by exact rfl)(hd:dk C.n d=some d':=by exact rfl):SL P C L Q (⟨d,.binOp .quo t x y t',ty,pos,af,g⟩::rest) A H:=bN (aOF rfl hx hy h0 h1 hn) hg hd h
end
def vE(v k:Nat):LB:=List.replicate (8-k) 0++(Sha.beN 8 v).drop (8-k)
theorem aIG(v k:Nat)(h:k<=8):(vE v k).length=8:=by simp [vE,Sha.beN_len];try omega
theorem aIH(v:Nat){k:Nat}(h:k<8):(cbs (vE v k)).set (7-k) (.int .u8 ((UInt8.ofNat (v/256^k)).toNat:Int))=cbs (vE v (k+1)):=by rcases lt8 h with rfl|rfl|rfl|rfl|rfl|rfl|rfl|rfl <;> rfl
theorem aLY(v:Nat):List.replicate 8 (Value.int .u8 0)=cbs (vE v 0):=by unfold vE;rw [cQ (by rw [Sha.beN_len];exact Nat.le_refl _),aG];rfl
theorem aLZ(v:Nat):vE v 8=Sha.beN 8 v:=by simp [vE]
theorem aNO(n:Nat)(hn:n<=1099511627776):Tri prog 153 [.int .i64 (n:Int)] [] NT (fun r H=>Sl 5 1 r (cbs (Sha.padN n)) H):=by
 refine Tri.mt func153 ntmps153 fun w hw=>?_;have hv8:(UInt64.ofNat n*8).toNat=8*n:=by have e8:(8:UInt64).toNat=8:=rfl;rw [pD,aU,e8];omega
 have hbl:bV (fun i=>some (i*1,1)) (zs [.int .u8 0] 1) [(0,.int .u8 128)]=some [.int .u8 128]:=rfl;have hbl0:bV (fun i=>some (i*1,1)) (zs [.int .u8 0] 1) [(0,.int .u8 0)]=some [.int .u8 0]:=rfl;refine W.j fun b_=>?_;obtain⟨Z,hZ⟩:∃ Z,Z=(119-n%64)%64:=⟨_,rfl⟩;have hpad:Sha.padN n=(0x80::List.replicate Z 0)++Sha.beN 8 (8*n):=by rw [hZ];rfl
 rw [hpad];refine bP [0] [(b_,cl [.int .u8 128] 5)] (fun x:Value×Hp=>[(3,x.1)]) (fun x=>x.2) (fun x=>Sl 5 1 x.1 (cbs (0x80::List.replicate Z 0)) x.2) ?_ ?_
 ·refine W.k ?_;have h0:Sl 5 1 (.slice (some ⟨b_,0,none⟩) 1 1) (cbs (0x80::List.replicate 0 0)) [(b_,cl [.int .u8 128] 5)]:=Sl.mk (xs:=[.int .u8 128]) (junk:=[]) (len:=1) (cap:=1) rfl rfl (Nat.le_refl _);refine cI [0] [b_] (fun x:Nat×Value×Hp=>[(3,x.2.1)]) (fun x=>x.2.2) (fun x=>Z-x.1) (fun x=>x.1<=Z/\Sl 5 1 x.2.1 (cbs (0x80::List.replicate x.1 0)) x.2.2) (0,_,_) ⟨oQ,h0⟩ ?_;rintro⟨z,v,Hs⟩ ⟨hz,hv⟩;dsimp only at hz hv |-;have hv1:=hv.isOne;obtain⟨a,len,cap,rfl,hl⟩:=hv.form;have hlen:len=z+1:=by rw [aI,aW,bA] at hl;omega
  subst hlen;by_cases hzz:z<Z
  ·refine W.k fun b_=>?_;refine W.ap hv (ys:=[.int .u8 0]) (mm:=1) (fun w2 hs=>eQ.block (l:=[.int .u8 0]) hs.at rfl rfl) (fun v2 H2 h2=>?_) (hys:=rfl) (hbytes:=by rw [aI];simp;omega);have h21:=h2.isOne;have e:cbs (0x80::List.replicate z 0)++[.int .u8 0]=cbs (0x80::List.replicate (z+1) 0):=by rw [pV,<-dX,iW];rfl
   rw [e] at h2;refine W.k ?_;refine aN.mk (z+1,v2,H2) ?_;exact⟨oQ,h2⟩
  have:z=Z:=oQ;subst this;refine W.k ?_;refine bS.mk (.slice a (z+1) cap,Hs) ?_;exact hv
 rintro⟨v,Hs⟩ hv;dsimp only at hv |-;have hv1:=hv.isOne;refine W.j fun b_=>?_;rw [hv8];have hV:8*n<18446744073709551616:=oQ;generalize 8*n=V at hV |-;rw [show zs [Value.int .u8 0] 8=cbs (vE V 0) by rw [<-aLY];rfl];refine SW.cut [3,5] [b_] (fun _:Unit=>[]) (fun _=>[(b_,cl (cbs (vE V 8)) 5)]) NT ?_ ?_
 ·refine W.k ?_;rw [show (V:Int)=((V/256^0:Nat):Int) by simp];refine cI [3,5] [b_] (fun k:Nat=>[(4,.int .u64 ((V/256^k:Nat):Int)),(6,.int .i64 (7-(k:Int)))]) (fun k=>[(b_,cl (cbs (vE V k)) 5)]) (fun k=>8-k) (fun k=>k<=8) 0 oQ ?_;intro k hk;have hlen:=aIG V k hk;have hVk:V/256^k<=V:=kF _ _;by_cases hk8:k<8
  ·have hs:=aIH V hk8;haveI i1:Cv .u8 (((V/256^k:Nat):Int)%256) ((UInt8.ofNat (V/256^k)).toNat:Int):=⟨by rw [tZ,cX];omega⟩;haveI i2:eB (7-(k:Int)) (7-k):=⟨oQ⟩;have hlk:7-k<(cbs (vE V k)).length:=by rw [aI];omega
   have hd:((V/256^k:Nat):Int)/256=((V/256^(k+1):Nat):Int):=by rw [fE,<-gQ];rfl
   generalize V/256^k=X at hs i1 hVk hd |-;refine W.k ?_;refine aGO ?_;refine W.k ?_;rw [hs,hd,show (7:Int)-(k:Int)-1=7-((k+1:Nat):Int) by omega];refine aN.mk (k+1) ?_;omega
  have:k=8:=oQ;subst this;refine W.k ?_;refine bS.mk () ?_;trivial
 rintro _ -;rw [aLZ];refine W.k ?_;refine W.ap hv (ys:=cbs (Sha.beN 8 V)) (mm:=8) (fun w2 hs=>eQ.block (l:=cbs (Sha.beN 8 V)) hs.at (by rw [bQ,aK (by rw [aI,Sha.beN_len];exact Nat.le_refl _)]) (by rw [aI,Sha.beN_len])) (fun v2 H2 h2=>?_) (hys:=by rw [aI,Sha.beN_len]) (hbytes:=by rw [aI,aI,Sha.beN_len];simp;omega);have h21:=h2.isOne;rw [<-iW] at h2;refine W.k ?_;refine Fin.to H2 ?_;refine F.f1 ?_;exact h2
set_option maxRecDepth 100000 in
theorem aLT:Tri prog 213 [] [] NT (fun v H=>∃ b,v=.slice (some ⟨b,0,none⟩) 64 64/\H=[(b,cl (Sha.tabK.map fJ) 207)]):=by refine Tri.mt func213 ntmps213 fun w hw=>?_;(repeat' first|refine pC ?_|refine mQ ?_|refine W.as ?_|refine dU ?_|refine jB ?_);refine iQ (rv:=Sha.tabK.map fJ) (fun b_=>?_) (hr:=by kernel_rfl);refine W.k ?_;exact F.f1 ⟨b_,rfl,rfl⟩
theorem aJD:Tri prog 154 [] [] NT (fun v H=>v=.agg (s8c Sha.ini).toArray/\H=[]):=by refine Tri.mt func154 ntmps154 fun w hw=>?_;(repeat' first|refine pC ?_|refine mQ ?_|refine W.al fun b_=>?_|refine dU ?_|refine jB ?_);refine aPE (rv:=s8c Sha.ini) ?_ (hr:=by kernel_rfl);have hl:(s8c Sha.ini).length=8:=rfl;refine W.k ?_;refine F.c0 (s8c Sha.ini) ?_;exact⟨rfl,rfl⟩
theorem aPQ(e f g:UInt32):g ^^^ (e &&& (f ^^^ g))=Sha.ch e f g:=by unfold Sha.ch;apply UInt32.toBitVec_inj.1;simp only [UInt32.toBitVec_xor,UInt32.toBitVec_and,UInt32.toBitVec_not];ext i hi;simp only [BitVec.getElem_xor,BitVec.getElem_and,BitVec.getElem_not];generalize e.toBitVec[i]=x;generalize f.toBitVec[i]=y;generalize g.toBitVec[i]=z;cases x <;> cases y <;> cases z <;> rfl
theorem aOr(a b c:UInt32):(a &&& b) ||| (c &&& (a ||| b))=Sha.maj a b c:=by unfold Sha.maj;apply UInt32.toBitVec_inj.1;simp only [UInt32.toBitVec_xor,UInt32.toBitVec_and,UInt32.toBitVec_or];ext i hi;simp only [BitVec.getElem_xor,BitVec.getElem_and,BitVec.getElem_or];generalize a.toBitVec[i]=x;generalize b.toBitVec[i]=y;generalize c.toBitVec[i]=z;cases x <;> cases y <;> cases z <;> rfl
theorem aPb(a b c d:UInt32):a+b+c+d=d+c+b+a:=by ac_rfl
theorem sN(x:UInt32)(k:Nat)(hk:k<32)(h0:0<k):Tri prog 214 [fJ x,.int .u64 (k:Int)] [] NT (fun v H=>v=fJ (Sha.rotr x (UInt32.ofNat k))/\H=[]):=by
 refine Tri.mt func214 ntmps214 fun w hw=>?_;obtain⟨f1,f2,f3⟩:=aDc k hk h0;haveI i3:aB8 ((32-k:Nat):Int) (UInt32.ofNat (32-k)):=⟨by rw [f2],by rw [f2];omega⟩;haveI i4:UAr .sub .u64 32 (k:Int) ((32-k:Nat):Int):=⟨fun P w t=>by
  have h:IntKind.u64.wrap (32-(k:Int))=((32-k:Nat):Int):=by rw [mT];omega
  simp [binOp,Op.intArith,h]⟩
 haveI i5:aB8 (k:Int) (UInt32.ofNat k):=⟨by rw [mZ];omega,by rw [mZ];omega⟩;refine W.k ?_;refine F.f1 ?_;refine⟨?_,rfl⟩;unfold Sha.rotr fJ;rw [f3]
abbrev rgs(S:S8):Fr:=[(10,fJ S.a),(11,fJ S.b),(12,fJ S.c),(13,fJ S.d),(14,fJ S.e),(15,fJ S.f),(16,fJ S.g),(17,fJ S.h)]
theorem aL0(bs:LB){t:Nat}(h:4*t+4<=bs.length):Sha.be ((bs.drop (4*t)).take 4)=(bs.getD (4*t) 0).toUInt32*16777216+(bs.getD (4*t+1) 0).toUInt32*65536+(bs.getD (4*t+2) 0).toUInt32*256+(bs.getD (4*t+3) 0).toUInt32:=by
 have hb:(bs.drop (4*t)).take 4=[bs.getD (4*t) 0,bs.getD (4*t+1) 0,bs.getD (4*t+2) 0,bs.getD (4*t+3) 0]:=by
  have hg:∀ j (hj:j<bs.length),bs.getD j 0=bs[j]:=fun j hj=>by rw [List.getD,aA hj];rfl
  rw [bK oQ,bK oQ,bK oQ,bK oQ,hg _ oQ,hg _ oQ,hg _ oQ,hg _ oQ];rfl
 rw [hb];generalize bs.getD (4*t) 0=a;generalize bs.getD (4*t+1) 0=b;generalize bs.getD (4*t+2) 0=c;generalize bs.getD (4*t+3) 0=d;show ((((((0:UInt32) <<< 8) ||| a.toUInt32) <<< 8 ||| b.toUInt32) <<< 8 ||| c.toUInt32) <<< 8 ||| d.toUInt32)=_;have st:∀ (v:UInt32) (c:UInt8),v.toNat<16777216->((v <<< 8) ||| c.toUInt32)=v*256+c.toUInt32:=fun v c hv=>by have hc:=c.toNat_lt;apply UInt32.toNat_inj.1;have e8:(8:UInt32).toNat=8:=rfl;have e256:(256:UInt32).toNat=256:=rfl;rw [UInt32.toNat_or,UInt32.toNat_shiftLeft,kR,kS,iA,e8,e256,jQ,show 2^(8%32)=2^8 from rfl,dK (show v.toNat*2^8<2^32 by omega)];have:=Nat.shiftLeft_add_eq_or_of_lt (i:=8) (b:=c.toNat) oQ v.toNat;rw [jQ] at this;rw [<-this];omega
 have h0:((0:UInt32) <<< 8) ||| a.toUInt32=a.toUInt32:=by rw [st 0 a dQ];simp
 have ha:=a.toNat_lt;have hb:=b.toNat_lt;have hc:=c.toNat_lt;have e256:(256:UInt32).toNat=256:=rfl;have n1:(a.toUInt32*256+b.toUInt32).toNat=a.toNat*256+b.toNat:=by rw [kR,kS,iA,iA,e256];omega
 have n2:((a.toUInt32*256+b.toUInt32)*256+c.toUInt32).toNat=(a.toNat*256+b.toNat)*256+c.toNat:=by rw [kR,kS,n1,iA,e256];omega
 rw [h0,st _ b (by rw [iA];omega),st _ c (by rw [n1];omega),st _ d (by rw [n2];omega)];apply UInt32.toNat_inj.1;have hd:=d.toNat_lt;have e3:(16777216:UInt32).toNat=16777216:=rfl;have e4:(65536:UInt32).toNat=65536:=rfl;rw [kR,kS,n2,e256];simp only [kR,kS,iA,e256,e3,e4];omega
theorem aJK(s:S8)(a:Option Addr)(cap:Nat)(bs:LB)(hb:bs.length=64):Tri prog 155 [.agg (s8c s).toArray,.slice a 64 cap] [] (fun w=>Rd [] w 1 (.slice a 64 cap) (cbs bs)) (fun v H=>v=.agg (s8c (Sha.blk s bs)).toArray/\H=[]):=by
 refine Tri.mt func155 ntmps155 fun w hw=>?_;obtain⟨a',len,cap',e,hl,hc,hr⟩:=hw.get;cases e;obtain⟨blk,ob,l,T,fz,rfl,hb2,hbk,hys⟩:=hr oQ;have hsz:∀ j,j<64->l[ob+j]?=some (.int .u8 ((bs.getD j 0).toNat:Int)):=fun j hj=>by
  have h1:((l.drop ob).take (64*1))[j]?=(cbs bs)[j]?:=by rw [hys]
  rw [bD,if_pos oQ,bH] at h1;rw [h1,aL,List.getD,aA oQ];rfl
 refine W.j fun _ b_=>?_;refine aF aLT ?_;rintro _ _ ⟨bk,rfl,rfl⟩;refine W.j fun b_=>?_;rw [show List.replicate 64 (Value.int .u32 0)=lZ bs 0 from rfl];refine bP [2,4,5,6] [(b_,cl (lZ bs 0) 208)] (fun _=>[]) (fun _:Unit=>[(b_,cl (lZ bs 64) 208)]) NT ?_ ?_
 ·refine W.k ?_;refine cI [1,2,4,5,6] [b_] (fun t:Nat=>[(7,.int .i64 (t:Int))]) (fun t=>[(b_,cl (lZ bs t) 208)]) (fun t=>64-t) (fun t=>t<=64) 0 oQ ?_;intro t ht;by_cases ht64:t<64
  ·have hlen:t<(lZ bs t).length:=by rw [wV bs ht];exact ht64
   by_cases h16:t<16
   ·have e0:=hsz (4*t) oQ;have e1:=hsz (4*t+1) oQ;have e2:=hsz (4*t+2) oQ;have e3:=hsz (4*t+3) oQ;have hs:=aAG bs ht64 (aLh bs h16);rw [aL0 bs oQ] at hs;generalize bs.getD (4*t) 0=x0 at e0 hs;generalize bs.getD (4*t+1) 0=x1 at e1 hs;generalize bs.getD (4*t+2) 0=x2 at e2 hs;generalize bs.getD (4*t+3) 0=x3 at e3 hs;generalize lZ bs t=Z at hs hlen |-;refine W.k ?_;(refine SW.l [35] [0,1,2,3,4,5,6,7,8,9,10,11,12,13,14,15,16,17,18,19,20,21,22,23,24,25,26,27,28,29,30,31,32,33,34] ?_;refine bL 35 ?_;refine W.i ?_;refine SS.dn ?_);rw [hs];refine W.k ?_;refine aN.mk (t+1) ?_;omega
   have g2:=pS bs (show t-2<t by omega);have g7:=pS bs (show t-7<t by omega);have g15:=pS bs (show t-15<t by omega);have g16:=pS bs (show t-16<t by omega);haveI n2:eB ((t:Int)-2) (t-2):=⟨oQ⟩;haveI n7:eB ((t:Int)-7) (t-7):=⟨oQ⟩;haveI n15:eB ((t:Int)-15) (t-15):=⟨oQ⟩;haveI n16:eB ((t:Int)-16) (t-16):=⟨oQ⟩;have hs:=aAG bs ht64 (aLg bs h16);generalize (Sha.sch bs t).getD (t-2) 0=x2 at g2 hs;generalize (Sha.sch bs t).getD (t-7) 0=x7 at g7 hs;generalize (Sha.sch bs t).getD (t-15) 0=x15 at g15 hs;generalize (Sha.sch bs t).getD (t-16) 0=x16 at g16 hs;have hZo:OC (lZ bs t):=inferInstance;generalize lZ bs t=Z at g2 g7 g15 g16 hs hlen hZo |-;rw [<-aPb] at hs;refine W.k ?_;(refine SW.l [29] [0,1,2,3,4,5,7,10,11,14,15,16,17,19,21,24,25] ?_;refine aX 6 ?_);refine W.cq (sN x15 7 oQ oQ) ?_;(refine bB [] ?_;refine aX 8 ?_);refine W.cq (sN x15 18 oQ oQ) ?_;(refine SL.l [9,12,13,18] ?_;refine aX 20 ?_);refine W.cq (sN x2 17 oQ oQ) ?_;(refine bB [] ?_;refine aX 22 ?_);refine W.cq (sN x2 19 oQ oQ) ?_;(refine SL.l [23,26,27,28] ?_;refine bL 29 ?_;refine W.i ?_;refine SS.dn ?_);have hs':Z.set t (fJ (x16+(Sha.rotr x15 (UInt32.ofNat 7) ^^^ Sha.rotr x15 (UInt32.ofNat 18) ^^^ x15 >>> 3)+x7+(Sha.rotr x2 (UInt32.ofNat 17) ^^^ Sha.rotr x2 (UInt32.ofNat 19) ^^^ x2 >>> 10)))=lZ bs (t+1):=hs;rw [hs'];refine W.k ?_;refine aN.mk (t+1) ?_;omega
  have:t=64:=oQ;subst this;refine W.k ?_;refine bS.mk () ?_;trivial
 rintro _ -;have hZ:∀ t,t<64->(lZ bs 64)[t]?=some (fJ ((Sha.sch bs 64).getD t 0)):=fun t h=>pS bs h;have hZl:(lZ bs 64).length=64:=wV bs oQ;have hZo:OC (lZ bs 64):=inferInstance;generalize lZ bs 64=Z at hZ hZl hZo |-;have hT:∀ t,t<64->(Sha.tabK.map fJ)[t]?=some (fJ (Sha.tabK.getD t 0)):=fun t h=>by have hl:Sha.tabK.length=64:=rfl;rw [aL,List.getD,aA oQ];rfl
 generalize Sha.tabK.map fJ=TC at hT |-;refine pC ?_;(refine SW.l [] [0,1,2,3,4,5,6,7,8,9,10,11,12,13,14,15,16,17,18,19,20,21,22,23,24] ?_);refine W.j ?_;obtain⟨R,hR⟩:∃ R,R=Sha.rnds s bs 64:=⟨_,rfl⟩;have hfin:Sha.blk s bs=Sha.plus s R:=by rw [hR];rfl
 rw [hfin];refine SW.cut [2,4] [] (fun _:Unit=>rgs R) (fun _=>[]) NT ?_ ?_
 ·refine W.k ?_;refine cI [2,4,5,6] [] (fun t:Nat=>(18,.int .i64 (t:Int))::rgs (Sha.rnds s bs t)) (fun _=>[]) (fun t=>64-t) (fun t=>t<=64) 0 oQ ?_;intro t ht;by_cases ht64:t<64
  ·have hTt:=hT t ht64;have hWt:=hZ t ht64;have hstep:Sha.rnds s bs (t+1)=Sha.rnd (Sha.rnds s bs t) (Sha.tabK.getD t 0) ((Sha.sch bs 64).getD t 0):=rfl;generalize Sha.rnds s bs t=S at hstep |-;generalize Sha.tabK.getD t 0=K at hTt hstep;generalize (Sha.sch bs 64).getD t 0=wt at hWt hstep;have hzl:t<Z.length:=oQ;refine W.k ?_;(refine SW.l [] [0,1,3,6,10,11,12,13,14,15,16,18,19,20,21,23,24,25] ?_;refine aX 2 ?_);refine W.cq (sN S.e 6 oQ oQ) ?_;(refine bB [] ?_;refine aX 4 ?_);refine W.cq (sN S.e 11 oQ oQ) ?_;(refine SL.l [5] ?_;refine aX 7 ?_);refine W.cq (sN S.e 25 oQ oQ) ?_;(refine SL.l [8,9,17,22,26,27,28] ?_);refine aHB [2,4,5,6,10,11,12,13,14,15,16,17,18,19] ?_;rw [aPQ,show S.h+(Sha.rotr S.e (UInt32.ofNat 6) ^^^ Sha.rotr S.e (UInt32.ofNat 11) ^^^ Sha.rotr S.e (UInt32.ofNat 25))+Sha.ch S.e S.f S.g+K+wt=Sha.t1 S K wt from rfl];refine W.k ?_;refine W.cw (sN S.a 2 oQ oQ) ?_;refine W.cw (sN S.a 13 oQ oQ) ?_;refine W.cw (sN S.a 22 oQ oQ) ?_;rw [aOr,show (Sha.rotr S.a (UInt32.ofNat 2) ^^^ Sha.rotr S.a (UInt32.ofNat 13) ^^^ Sha.rotr S.a (UInt32.ofNat 22))+Sha.maj S.a S.b S.c=Sha.t2 S from rfl];refine aN.mk (t+1) ?_ (hr:=?_)
   ·omega
   rw [hstep];(repeat' first|exact trivial|refine And.intro rfl ?_)
  have:t=64:=oQ;subst this;rw [<-hR];refine W.k ?_;refine bS.mk () ?_;trivial
 rintro _ -;clear hR hfin;generalize R=S;have hbd:bV (fun i=>some (i*1,1)) (List.replicate 8 (.int .u32 0)) [(0,fJ (s.a+S.a)),(1,fJ (s.b+S.b)),(2,fJ (s.c+S.c)),(3,fJ (s.d+S.d)),(4,fJ (s.e+S.e)),(5,fJ (s.f+S.f)),(6,fJ (s.g+S.g)),(7,fJ (s.h+S.h))]=some (s8c (Sha.plus s S)):=rfl;have hl8:(s8c (Sha.plus s S)).length=8:=rfl;refine W.k ?_;refine F.c0 (s8c (Sha.plus s S)) ?_;exact⟨rfl,rfl⟩
theorem aQz(w:UInt32):(w >>> 24).toUInt8=UInt8.ofNat (w.toNat/256^3)/\(w >>> 16).toUInt8=UInt8.ofNat (w.toNat/256^2)/\(w >>> 8).toUInt8=UInt8.ofNat (w.toNat/256^1)/\w.toUInt8=UInt8.ofNat (w.toNat/256^0):=by
 have e24:(24:UInt32).toNat=24:=rfl;have e16:(16:UInt32).toNat=16:=rfl;have e8:(8:UInt32).toNat=8:=rfl;refine⟨?_,?_,?_,?_⟩;all_goals
  apply kG.1;rw [UInt32.toNat_toUInt8,cX];try simp only [UInt32.toNat_shiftRight,e24,e16,e8,eZ]
  try omega
theorem aI8(s:S8){k:Nat}(h:k<8):((((tJ s k).set (4*k) (.int .u8 ((UInt8.ofNat ((s.get k).toNat/256^3)).toNat:Int))).set (4*k+1) (.int .u8 ((UInt8.ofNat ((s.get k).toNat/256^2)).toNat:Int))).set (4*k+2) (.int .u8 ((UInt8.ofNat ((s.get k).toNat/256^1)).toNat:Int))).set (4*k+3) (.int .u8 ((UInt8.ofNat ((s.get k).toNat/256^0)).toNat:Int))=tJ s (k+1):=by rcases lt8 h with rfl|rfl|rfl|rfl|rfl|rfl|rfl|rfl <;> rfl
theorem aNP(v:Value)(M:LB)(hM:M.length<=1099511627000):Tri prog 78 [v] [] (fun w=>Rd [] w 1 v (cbs M)) (fun v H=>v=.agg (cbs (Sha.sum M)).toArray/\H=[]):=by
 refine Tri.mt func78 ntmps78 fun w hw=>?_;obtain⟨a,len,cap,rfl,hl,hc,hr⟩:=hw.get;rw [aI,Nat.mul_one] at hl;refine W.j fun _ b_=>?_;have h0:Sl 5 1 (.slice (some ⟨b_,0,none⟩) 0 0) [] [(b_,cl ([]:LV) 5)]:=Sl.mk (xs:=[]) (junk:=[]) (len:=0) (cap:=0) rfl rfl (Nat.le_refl _);refine W.ap h0 (fun w2 hs=>hw.srcAt hs) (fun v1 H1 h1=>?_) (hys:=by rw [aI];omega) (hbytes:=by rw [aI];simp;omega);have h11:=h1.isOne;rw [List.nil_append] at h1;refine W.j ?_;refine aF (aNO len oQ) ?_;intro p1 HP hp1;have hp11:=hp1.isOne;obtain⟨q1,ql1,qc1,rfl,hql1⟩:=hp1.form;have hpl:=Sha.padN_len len;have hpl2:(Sha.padN len).length<=73:=by simp [Sha.padN,Sha.beN_len];omega
 have hpl3:9<=(Sha.padN len).length:=by simp [Sha.padN,Sha.beN_len]
 refine W.ap h1 (fun w2 hs=>hp1.srcAt hs inferInstance) (fun x1 X1 hx1=>?_) (hys:=by rw [hql1]) (hbytes:=by rw [aI,aI];omega);have hx11:=hx1.isOne;rw [<-iW] at hx1;have hXl:(M++Sha.padN len).length=M.length+(Sha.padN len).length:=aB;have hsum:Sha.outB (Sha.absorb Sha.ini (M++Sha.padN len)).1=Sha.sum M:=by rw [<-hl];rfl
 rw [<-hl] at hpl hpl2 hpl3 hXl;rw [<-hsum];rw [<-hl] at hsum hx1 |-;generalize hX:M++Sha.padN M.length=X at hx1 hXl |-;have hX64:X.length%64=0:=oQ;obtain⟨xa,xl,xc,rfl,-⟩:=hx1.form;obtain⟨hxl,hxc,hxa⟩:=hx1.lens;rw [aI] at hxl;obtain⟨xb,rfl⟩:=hxa.resolve_left oQ;obtain⟨R,hR⟩:∃ R,R=(Sha.absorb Sha.ini X).1:=⟨_,rfl⟩;have hab:(Sha.absorb Sha.ini X).1=(Sha.absN (X.length/64) Sha.ini X).1:=rfl;rw [<-hR];refine W.j ?_;refine W.cq aJD ?_;have hl8:∀ s,(s8c s).length=8:=fun s=>rfl;have hl80:=hl8 Sha.ini;refine W.j fun b_=>?_;obtain⟨b4,hb4⟩:∃ b4,b4=b_:=⟨_,rfl⟩;rw [<-hb4];clear hl80 hl8;refine SW.cut [2,3] [b4] (fun _:Unit=>[(4,.pointer (some ⟨b4,0,none⟩))]) (fun _=>[(b4,cl (s8c R) 209)]) NT ?_ ?_
 ·refine W.k ?_;refine cI [2,3,4] [b4] (fun j:Nat=>[(5,.int .i64 ((64*j:Nat):Int))]) (fun j=>[(b4,cl (s8c (Sha.absN j Sha.ini X).1) 209)]) (fun j=>X.length-j) (fun j=>64*j<=X.length) 0 oQ ?_;intro j hj;by_cases h64:64*j<xl
  ·have hst:=Sha.absN_fst j Sha.ini X;have hblk:=aJK (Sha.absN j Sha.ini X).1 (some ⟨xb,64*j,none⟩) (xc-64*j) ((X.drop (64*j)).take 64) (by simp;omega);rw [<-hst] at hblk;obtain⟨S1,hS1⟩:∃ S1,S1=(Sha.absN (j+1) Sha.ini X).1:=⟨_,rfl⟩;rw [<-hS1] at hblk;clear hst;generalize (Sha.absN j Sha.ini X).1=S0 at hblk |-;have hlj:(s8c S0).length=8:=rfl;refine W.k ?_;(refine SW.l [6,7] [0,1,2,3,4] ?_;refine dS 5 rfl (aEL rfl rfl rfl rfl oQ oQ) ?_;refine bL 6 ?_);refine eC hblk ?_ ?_ (hpre:=fun w2 hs=>?_)
   ·rw [show 64*j+64-64*j=64 by omega]
   ·rintro _ _ ⟨rfl,rfl⟩;have hlj1:(s8c S1).length=8:=rfl;(refine bB [] ?_;refine bL 7 ?_;refine W.i ?_;refine SS.dn ?_);refine W.k ?_;rw [hS1,show ((64*j:Nat):Int)+64=((64*(j+1):Nat):Int) by omega];refine aN.mk (j+1) ?_;omega
   have h2:=(Rd.ownB [] hx1 hs).sub (64*j) (64*j+64) (xc-64*j) oQ oQ oQ;rw [show 64*j+64-64*j=64 by omega,fT] at h2;exact h2
  have hje:j=X.length/64:=oQ;subst hje;rw [<-hab,<-hR];refine W.k ?_;refine bS.mk () ?_;trivial
 rintro _ -;refine W.j fun b_=>?_;clear hR hab;rename_i b6;rw [show List.replicate 32 (Value.int .u8 0)=tJ R 0 from rfl];refine SW.cut [2,6] [b_] (fun _:Unit=>[]) (fun _=>[(b_,cl (tJ R 8) 90)]) NT ?_ ?_
 ·refine W.k ?_;refine cI [2,6,30] [b_] (fun k:Nat=>[(31,.int .i64 (k:Int))]) (fun k=>[(b_,cl (tJ R k) 90)]) (fun k=>8-k) (fun k=>k<=8) 0 oQ ?_;intro k hk;by_cases hk8:k<8
  ·have h2:=aHn R hk8;have h3:=aI8 R hk8;obtain⟨y3,y2,y1,y0⟩:=aQz (R.get k);rw [<-y3,<-y2,<-y1,<-y0] at h3;have hl32:=aGe R hk;have hA:OC (tJ R k):=inferInstance;generalize tJ R k=A at h3 hl32 hA |-;generalize R.get k=y at h2 h3;have g0:4*k<A.length:=oQ;have g1:∀ v,4*k+1<(A.set (4*k) v).length:=fun v=>by rw [cE];omega
   have g2:∀ v v2,4*k+2<((A.set (4*k) v).set (4*k+1) v2).length:=fun v v2=>by rw [cE,cE];omega
   have g3:∀ v v2 v3,4*k+3<(((A.set (4*k) v).set (4*k+1) v2).set (4*k+2) v3).length:=fun v v2 v3=>by rw [cE,cE,cE];omega
   refine W.k ?_;refine W.st ?_ (hi:=g1 _);refine W.k ?_;refine W.st ?_ (hi:=g2 _ _);refine W.k ?_;refine W.st ?_ (hi:=g3 _ _ _);refine W.k ?_;rw [h3];refine aN.mk (k+1) ?_;omega
  have:k=8:=oQ;subst this;refine W.k ?_;refine bS.mk () ?_;trivial
 rintro _ -;rw [aKH];have hl3:(cbs (Sha.outB R)).length=32:=by rw [aI,Sha.outB_len]
 refine W.k ?_;refine F.c0 (cbs (Sha.outB R)) ?_;exact⟨rfl,rfl⟩
section
variable {P:Program}{C:Ctx}{A:Fr}{H:Hp}{o:Oper}{t e n len cap l h:Nat}{x y:Operand}{a:Option Addr}{k:IntKind}{m:Int}
theorem aOG [cC P t e n] [hi:eB m h](ho:o.op=.slice t x none (some y) none)(hx:ev A x=some (.slice a len cap))(hy:ev A y=some (.int k m))(hh:h<=cap):Pu P C A H o (.slice (lI a cap 0 n) (h-0) (cap-0)):=
 oF (vl:=none) (vh:=none) ho hx (l:=0) (h:=h) (.inl ⟨rfl,rfl⟩) (.inr ⟨y,k,m,rfl,hy,hi.ok⟩) (Nat.zero_le _) hh
end
theorem aNG(n:Nat)(hn:n<=1099511627776):Tri prog 264 [.slice none 0 0,.int .i64 (n:Int)] [] NT (fun v H=>Sl 5 1 v [] H):=by
 refine Tri.mt func264 ntmps264 fun w hw=>?_;haveI i0:eB ((n:Int)-(0-0)) n:=⟨oQ⟩;by_cases h:n=0
 ·subst h;refine W.k ?_;exact F.f1 (Sl.nil _ _)
 refine W.k ?_;refine bN (aOG (a:=none) (len:=0) (cap:=0) (h:=0) rfl rfl rfl (Nat.le_refl _)) rfl rfl ?_;refine W.k ?_;refine aNh (Sl.nil _ _) (fun v1 H1 h1=>?_) (hbytes:=by simp;omega);rcases h1 with ⟨-,h1,-⟩|⟨b,len,cap,junk,rfl,hx,hj,hlc,rfl⟩
 ·simp at h1;omega
 have hlen:len=n:=by simpa using hx.symm
 subst hlen;refine W.k ?_;refine F.f1 ?_;refine .inr ⟨b,0,cap,([]++List.replicate len (.int .u8 0))++junk,rfl,rfl,?_,Nat.zero_le _,by simp⟩;rw [aB,hx];omega
theorem vS(v:Value)(bss:LL)(hn:bss.flatten.length<=1099511627776)(hn2:bss.length<=1099511627776):Tri prog 237 [v] [] (fun w=>RdS [] w v bss) (fun v H=>Sl 5 1 v (cbs bss.flatten) H):=by
 refine Tri.mt func237 ntmps237 fun w hw=>?_;obtain⟨vs,hR,hvl,hvs⟩:=hw;obtain⟨pa,pl,pc,rfl,hpl,hpc,hpr⟩:=hR;rw [Nat.mul_one] at hpl;have hbl:bss.length=pl:=oQ;refine W.j ?_;refine SW.cut [0] [] (fun _:Unit=>[(3,.int .i64 (bss.flatten.length:Int))]) (fun _=>[]) NT ?_ ?_
 ·refine W.k ?_;refine cI [0,9,10] [] (fun i:Nat=>[(3,.int .i64 ((bss.take i).flatten.length:Int)),(11,.int .i64 (i:Int))]) (fun _=>[]) (fun i=>pl-i) (fun i=>i<=pl) 0 oQ ?_;intro i hi;by_cases hip:i<pl
  ·obtain⟨bs,hbs⟩:∃ bs,bss[i]?=some bs:=⟨_,aA oQ⟩;obtain⟨a,len,cap,hvi,hrd⟩:=hvs i bs hbs;have hfl:=aBU bss (i+1);have hf2:=tX bss hbs;obtain⟨pb,po,l,T,fz,rfl,hpb,hpk,hpy⟩:=hpr.resolve_left oQ;have hl:l[po+i]?=some (.slice a len cap):=by rw [<-hpy,bD,if_pos oQ,bH] at hvi;exact hvi
   obtain⟨hbsl,hlc⟩:=hrd.len1;have hNl:((bss.take (i+1)).flatten).length=((bss.take i).flatten).length+len:=by rw [hf2,aB,hbsl]
   have hNi:(((bss.take (i+1)).flatten).length:Int)=(((bss.take i).flatten).length:Int)+len:=oQ;generalize ((bss.take i).flatten).length=N at hNl hNi |-;refine W.k ?_;rw [<-hNi];refine aN.mk (i+1) ?_;omega
  have hi2:i=pl:=oQ;subst hi2;have hall:bss.take i=bss:=aK oQ;rw [hall];refine W.k ?_;refine bS.mk () ?_;trivial
 rintro _ -;refine W.j ?_;refine aF (aNG bss.flatten.length hn) ?_;intro v1 H1 h1;have h11:=h1.isOne;refine W.j ?_;refine bP [] H1 (fun x:Value×Hp=>[(6,x.1)]) (fun x=>x.2) (fun x=>Sl 5 1 x.1 (cbs bss.flatten) x.2) ?_ ?_
 ·refine W.k ?_;refine bE [25,26] (fun x:Nat×Value×Hp=>[(6,x.2.1),(27,.int .i64 (x.1:Int))]) (fun x=>x.2.2) (fun x=>pl-x.1) (fun x=>x.1<=pl/\Sl 5 1 x.2.1 (cbs (bss.take x.1).flatten) x.2.2) (0,v1,H1) ⟨oQ,h1⟩ ?_;rintro⟨i,v2,H2⟩ ⟨hi,h2⟩;dsimp only at hi h2 |-;have h21:=h2.isOne;by_cases hip:i<pl
  ·obtain⟨bs,hbs⟩:∃ bs,bss[i]?=some bs:=⟨_,aA oQ⟩;obtain⟨a,len,cap,hvi,hrd⟩:=hvs i bs hbs;have hfl:=aBU bss (i+1);have hf2:=tX bss hbs;obtain⟨pb,po,l,T,fz,rfl,hpb,hpk,hpy⟩:=hpr.resolve_left oQ;have hl:l[po+i]?=some (.slice a len cap):=by rw [<-hpy,bD,if_pos oQ,bH] at hvi;exact hvi
   obtain⟨hbsl,hlc⟩:=hrd.len1;have hNl:((bss.take (i+1)).flatten).length=((bss.take i).flatten).length+len:=by rw [hf2,aB,hbsl]
   refine W.k ?_;refine W.ap h2 (fun w2 hs=>hrd.srcAt hs) (fun v3 H3 h3=>?_) (hys:=by rw [aI];omega) (hbytes:=by rw [aI,aI];omega);have h31:=h3.isOne;rw [<-iW,<-hf2] at h3;refine W.k ?_;refine aN.mk (i+1,v3,H3) ?_;exact⟨oQ,h3⟩
  have hi2:i=pl:=oQ;subst hi2;have hall:bss.take i=bss:=aK oQ;rw [hall] at h2;refine W.k ?_;refine bS.mk (v2,H2) ?_;exact h2
 rintro⟨v2,H2⟩ h2;dsimp only at h2 |-;have h21:=h2.isOne;refine W.k ?_;refine Fin.to H2 ?_;exact F.f1 h2
theorem zN(va vb:Value)(x y:LB):Tri prog 206 [va,vb] [] (fun w=>Rd [] w 1 va (cbs x)/\Rd [] w 1 vb (cbs y)) (fun v H=>v=.bool (decide (x=y))/\H=[]):=by refine Tri.mt func206 ntmps206 fun w hw=>?_;obtain⟨h1,h2⟩:=hw;obtain⟨a,la,ca,rfl,-⟩:=h1.get;obtain⟨b,lb,cb,rfl,-⟩:=h2.get;refine W.k ?_;refine aFu (fun w2 hs=>h1.srcAt hs) ?_;refine W.k ?_;refine aFu (fun w2 hs=>h2.srcAt hs) ?_;refine aPF ?_;rw [aB4];refine W.k ?_;exact F.f1 ⟨rfl,rfl⟩
theorem wY(v:Value)(x:LB)(hx:x.length<=1099511627776):Tri prog 97 [v] [] (fun w=>Rd [] w 1 v (cbs x)) (fun v H=>Sl 5 1 v (cbs x) H):=by
 refine Tri.mt func97 ntmps97 fun w hw=>?_;obtain⟨a,la,ca,rfl,hl,hc,hr⟩:=hw.get;rw [aI,Nat.mul_one] at hl;cases a with
 | none=>
  have h0:la=0:=by
   rcases fS la with h|h
   ·exact h
   ·obtain⟨b,o,l,T,fz,e,-⟩:=hr h
    cases e
  subst h0
  have hx0:x=[]:=bI hl
  subst hx0
  refine W.k ?_
  exact F.f1 (Sl.nil _ _)
 | some a=>
  refine W.k fun b_=>?_
  have h0:Sl 5 1 (.slice (some ⟨b_,0,none⟩) 0 0) [] [(b_,cl ([]:LV) 5)]:=Sl.mk (xs:=[]) (junk:=[]) (len:=0) (cap:=0) rfl rfl (Nat.le_refl _)
  refine W.ap h0 (fun w2 hs=>hw.srcAt hs) (fun v1 H1 h1=>?_) (hys:=by rw [aI];omega) (hbytes:=by rw [aI];simp;omega)
  have h11:=h1.isOne
  rw [List.nil_append] at h1
  refine W.k ?_
  refine Fin.to H1 ?_
  exact F.f1 h1
section
variable {P:Program}{C:Ctx}{L:List Oper}{Q:Exit->Fr->Hp->Prop}{B:List Nat}{R R' H:Hp}{fuel:Nat}{listed:Array Bool}{A:Fr}{o:Oper}
theorem aNR{t len r:Nat}{z:Value}{x y:Operand}{b:LB}{l:List (LB×Value)}(i:Nat)(Ws:List Nat)(hi:L[i]?=some o){d':Option Nat}(hk:SS P C L Q B R' fuel (listed.setIfInBounds i true) (pt A d' (.tuple #[(atK l b).getD z,.bool (atK l b).isSome])) H)(hb:b.length=len)(hl:∀ x∈l,x.1.length=len)(hok:aCk L B listed i Ws=true:=by kernel_rfl)(ho:o.op=.lookup t x y true:=by exact rfl)(iM:aGD P t len z:=by infer_instance)(hx:ev A x=some (.map (some r)):=by exact rfl)(hy:ev A y=some (.agg (cbs b).toArray):=by exact rfl)(hat:At H r (mo l):=by infer_instance)(hin:Ins R r (mo l) R':=by infer_instance)(hg:gd L A o=some true:=by exact rfl)(hd:dk C.n o.dst=some d':=by exact rfl)(hQ:∀ c A H,Q (.panic c) A H->False:=by exact fun _ _ _ h=>Fin.np h):SS P C L Q B R (fuel+1) listed A H:=
 wZ i Ws hi hok hQ hin.ok.2.1 (fun x hx=>(hin.ok.2.2 x hx).elim (fun e=>.inr (e▸hat.mem)) .inl) (fun a hf=>.inl ⟨gW hf hg,fun w hr=>by
  have hb2:=hr.2 _ hin.ok.1
  unfold execOp;rw [ho];simp [hf.eval hx,hf.eval hy,aGt b hb hl hb2]⟩) hd hk
end
def RdH(H:Hp)(v:Value)(bs:LB):Prop:=
 ∃ (a:Option Addr) (len cap:Nat),v=.slice a len cap/\bs.length=len/\len<=cap/\(len=0\/∃ (b o:Nat) (l:LV) (T:TypeId) (fz:Nat×Nat),a=some ⟨b,o,none⟩/\(b,Obj.cells l.toArray T fz)∈H/\(l.drop o).take len=cbs bs)
theorem RdH.of{e:Nat}{v:Value}{bs:LB}{Hs:Hp}(h:Sl e 1 v (cbs bs) Hs):RdH Hs v bs:=by
 rcases h with ⟨rfl,hb,rfl⟩|⟨b,len,cap,junk,rfl,hx,hj,hlc,rfl⟩
 ·have:bs=[]:=by simpa using hb
  subst this;exact⟨none,0,0,rfl,rfl,Nat.le_refl _,.inl rfl⟩
 rw [Nat.mul_one] at hx;refine⟨_,len,cap,rfl,by rw [<-aI];exact hx,hlc,.inr ⟨b,0,cbs bs++junk,e,(0,0),rfl,by simp,?_⟩⟩;rw [bQ,<-hx,cT];rfl
theorem RdH.mono{H H':Hp}{v:Value}{bs:LB}(h:RdH H v bs)(hs:∀ x∈H,x∈H'):RdH H' v bs:=by obtain⟨a,len,cap,h1,h2,h3,h4⟩:=h;exact⟨a,len,cap,h1,h2,h3,h4.imp id fun⟨b,o,l,T,fz,e1,e2,e3⟩=>⟨b,o,l,T,fz,e1,hs _ e2,e3⟩⟩
theorem RdH.one{H:Hp}{v:Value}{bs:LB}(h:RdH H v bs):One v:=by obtain⟨a,len,cap,rfl,-⟩:=h;exact⟨rfl⟩
theorem RdH.rd{K:List Nat}{w0 w:World}{H Hc Ht r:Hp}{v:Value}{bs:LB}(h:RdH Ht v bs)(hs:St K w0 H w) [hp:eY H (Hc++Ht) r]:Rd (Hc.map Prod.fst) w 1 v (cbs bs):=by obtain⟨a,len,cap,rfl,h2,h3,h4⟩:=h;have hs2:=hs.perm hp.perm;have hn:=hs2.nodup;refine⟨a,len,cap,rfl,by rw [aI,h2,Nat.mul_one],h3,h4.imp id fun⟨b,o,l,T,fz,e1,e2,e3⟩=>⟨b,o,l,T,fz,e1,hs2.own b _ (by simp [e2]),fun hm=>?_,by rw [Nat.mul_one];exact e3⟩⟩;simp only [aZ,aT] at hn;exact (fO.1 hn).2.2 b hm b (aO _ (List.mem_map_of_mem (f:=Prod.fst) e2)) rfl
theorem aOy{K:List Nat}{vs:LV}{a:Option Addr}{l c:Nat}{b:LB}{w:World}(hv:vs=[.slice a l c])(h:Rd K w 1 (.slice a l c) (cbs b)):∀ (i:Nat) (bs:LB),[b][i]?=some bs->∃ (a:Option Addr) (len cap:Nat),vs[i]?=some (Value.slice a len cap)/\Rd K w 1 (.slice a len cap) (cbs bs):=by
 intro i bs hi;have hi0:i=0:=by have:=(aD.1 hi).1;simp at this;omega
 subst hi0;cases hi;subst hv;exact⟨a,l,c,rfl,h⟩
structure Bk where
 kept:LL
 clash:Option (LB×LB)
def Bk.new:Bk:=⟨[],none⟩
def Bk.add(s:Bk)(t:LB):Bk:=
 match s.kept.find? fun k=>decide (Sha.sum t=Sha.sum k) with
 | some old=>if old≠t/\s.clash=none then { s with clash:=some (old,t) } else s
 | none=>if s.kept.length<16384 then { s with kept:=s.kept++[t] } else s
abbrev bkc(tp m:Nat)(cp:Option Addr):LV:=[.func (.func 89) #[.pointer (some ⟨tp,0,none⟩)] #[],.map (some m),.pointer cp]
abbrev kvs(kt:List (LB×Value)):List (LB×Value):=kt.map fun x=>(Sha.sum x.1,x.2)
theorem aHS(kt:List (LB×Value)):∀ x∈kvs kt,x.1.length=32:=by intro x hx;obtain⟨y,-,rfl⟩:=bM.1 hx;exact Sha.sum_len _
theorem aMo(kt:List (LB×Value))(t:LB)(v:Value):kvs kt++[(Sha.sum t,v)]=kvs (kt++[(t,v)]):=by simp
theorem aHE(kt:List (LB×Value))(t:LB):atK (kvs kt) (Sha.sum t)=(kt.find? fun x=>decide (Sha.sum t=Sha.sum x.1)).map Prod.snd:=by unfold atK kvs;rw [rF];simp [Function.comp_def]
theorem aIN(kt:List (LB×Value))(t:LB):(kt.map Prod.fst).find? (fun k=>decide (Sha.sum t=Sha.sum k))=(kt.find? fun x=>decide (Sha.sum t=Sha.sum x.1)).map Prod.fst:=by rw [rF];rfl
def ClP(Ht:Hp):Option (LB×LB)->Option Addr->Prop
 | none,cp=>cp=none
 | some (x,y),cp=>∃ c vx vy,cp=some ⟨c,0,none⟩/\(c,cl [vx,vy] 259)∈Ht/\RdH Ht vx x/\RdH Ht vy y/\x.length<=1099511627776/\y.length<=1099511627776
theorem ClP.mono{H H':Hp}{q:Option (LB×LB)}{cp:Option Addr}(h:ClP H q cp)(hs:∀ x∈H,x∈H'):ClP H' q cp:=by
 cases q with
 | none=>exact h
 | some x=>
  obtain⟨x,y⟩:=x
  obtain⟨c,vx,vy,h1,h2,h3,h4,h5⟩:=h
  exact⟨c,vx,vy,h1,hs _ h2,h3.mono hs,h4.mono hs,h5⟩
def eP(b tp:Nat)(s:Bk)(H:Hp):Prop:=
 ∃ (m:Nat) (kt:List (LB×Value)) (cp:Option Addr) (Ht:Hp),H=(b,cl (bkc tp m cp) 206)::(m,mo (kvs kt))::(tp,cl mN 211)::Ht /\
  s.kept=kt.map Prod.fst/\(∀ x∈kt,RdH Ht x.2 x.1/\x.1.length<=1099511627776)/\ClP Ht s.clash cp
instance texts:aGD prog 203 32 (.slice none 0 0) where
 ok:=⟨91,31,underlying203,⟨kQ,inferInstance,_,underlying91,underlying5,kQ,inferInstance⟩,kQ⟩
theorem aNC(tp:Nat):Tri prog 32 [.pointer (some ⟨tp,0,none⟩)] [(tp,cl mN 211)] NT (fun v H=>∃ b,v=.pointer (some ⟨b,0,none⟩)/\eP b tp Bk.new H):=by refine Tri.mt func32 ntmps32 fun w hw=>?_;refine W.k ?_;refine aNk fun m=>?_;have hbd:bV (fun i=>[(0,1),(1,1),(2,1)][i]?) ([.nilFunc]++[.map none]++[.pointer none]) [(0,.func (.func 89) #[.pointer (some ⟨tp,0,none⟩)] #[]),(1,.map (some m))]=some (bkc tp m none):=rfl;refine W.k fun b_=>?_;refine F.f1 ?_;exact⟨b_,rfl,m,[],none,[],rfl,rfl,by simp,rfl⟩
theorem aGB{b tp:Nat}{s:Bk}{H:Hp}(hB:eP b tp s H)(k:UInt8)(pv:Value)(bss:LL)(hn:bss.flatten.length<=1099511626000)(hn2:bss.length<=1099511627776):Tri prog 183 [.pointer (some ⟨b,0,none⟩),.int .u8 (k.toNat:Int),pv] H (fun w=>RdS (H.map Prod.fst) w pv bss) (fun v H'=>v=.agg (cbs (Sha.sum (k::bss.flatten))).toArray/\eP b tp (s.add (k::bss.flatten)) H'):=by
 obtain⟨m,kt,cp,Ht,rfl,hk,hr,hc⟩:=hB;refine Tri.mt func183 ntmps183 fun w hw=>?_;have hpv:=hw.one;have hw2:=hw;obtain⟨-,⟨pa,pl,pc,rfl,-⟩,-⟩:=hw;have hb1:bV (fun i=>some (i*1,1)) (zs [.int .u8 0] 1) [(0,.int .u8 (k.toNat:Int))]=some (cbs [k]):=rfl;refine W.k fun _ b_=>?_;refine aF (vS _ bss oQ hn2) ?_ rfl (fun w2 hs=>hw2.ro (Hc:=[]) hs);intro v1 H1 h1;have h11:=h1.isOne;obtain⟨a1,l1,c1,rfl,hl1⟩:=h1.form;rw [aI,Nat.mul_one] at hl1;have hA:Sl 5 1 (.slice (some ⟨b_,0,none⟩) 1 1) (cbs [k]) [(b_,cl (cbs [k]) 5)]:=by have:=Sl.mk (e:=5) (n:=1) (b:=b_) (len:=1) (cap:=1) (xs:=cbs [k]) (junk:=[]) rfl rfl (Nat.le_refl _);rwa [aG] at this
 refine W.ap hA (fun w2 hs=>h1.srcAt hs inferInstance) (fun v2 H2 h2=>?_) (hys:=by rw [aI];omega) (hbytes:=by rw [aI,aI,cN];omega);have h21:=h2.isOne;rw [<-iW,show [k]++bss.flatten=k::bss.flatten from rfl] at h2;have hTl:(k::bss.flatten).length<=1099511627000:=by rw [aW];omega
 generalize k::bss.flatten=T at h2 hTl |-;obtain⟨a2,l2,c2,rfl,hl2⟩:=h2.form;have hb4:bV (fun i=>some (i*1,1)) (zs [.slice none 0 0] 1) [(0,.slice a2 l2 c2)]=some [.slice a2 l2 c2]:=rfl;have hf:[T].flatten=T:=by simp
 have hT:=fun b4=>aNV (tp:=tp) [T] (.slice (some ⟨b4,0,none⟩) 1 1) (by rw [hf];omega) (by simp);rw [hf] at hT;refine W.k fun b_=>?_;refine dN [(tp,cl mN 211)] rfl rfl rfl rfl rfl rfl (hT b_) (fun w2 hs=>?_) ?_
 ·exact RdS.at (T:=31) (fz:=(0,0)) (Hc:=[(tp,cl mN 211)]) (vs:=[.slice a2 l2 c2]) (bss:=[T]) hs rfl (Nat.le_refl _) rfl (aOy rfl (Rd.own (Hc:=[(tp,cl mN 211)]) h2 hs inferInstance))
 rintro _ _ ⟨rfl,rfl⟩;have h32:(cbs (Sha.sum T)).length=32:=by rw [aI,Sha.sum_len]
 refine W.k fun b_=>?_;(refine SW.l [] [0,1,2,3,4] ?_;refine aNR 5 [] rfl ?_ (Sha.sum_len _) (aHS _);refine SG.l [6,7,8,9,10,11] ?_);rw [aHE];have hkeep:eP b tp s ((b,cl (bkc tp m cp) 206)::(m,mo (kvs kt))::(tp,cl mN 211)::Ht):=⟨m,kt,cp,Ht,rfl,hk,hr,hc⟩;have hadd:s.add T=match (kt.find? fun x=>decide (Sha.sum T=Sha.sum x.1)).map Prod.fst with
   | some old=>if old≠T/\s.clash=none then { s with clash:=some (old,T) } else s
   | none=>if s.kept.length<16384 then { s with kept:=s.kept++[T] } else s:=by
  unfold Bk.add
  rw [hk,aIN]
 cases hfd:kt.find? fun x=>decide (Sha.sum T=Sha.sum x.1) with
 | none=>
  rw [hfd] at hadd
  have hkl:(kvs kt).length=kt.length:=aC ..
  have hskl:s.kept.length=kt.length:=by rw [hk,aC]
  have hn0:atK (kvs kt) (Sha.sum T)=none:=by rw [aHE,hfd];rfl
  dsimp only [Option.map_none,Option.getD_none,Option.isSome_none]
  dsimp only [Option.map_none] at hadd
  by_cases hlt:kt.length<16384
  ·rw [if_pos oQ] at hadd
   refine W.k ?_
   refine aNj ?_
   rw [hkl]
   refine W.k ?_
   (refine SW.l [6] [0,1,2,3,4,5] ?_;refine bL 6 ?_)
   refine aPG ?_ (Sha.sum_len _) (aHS _) hn0
   rw [aMo]
   (refine bB [] ?_;refine SS.dn ?_)
   refine W.k ?_
   refine F.cH ((b,cl (bkc tp m cp) 206)::(m,mo (kvs (kt++[(T,.slice a2 l2 c2)])))::(tp,cl mN 211)::(H2++Ht)) (cbs (Sha.sum T)) ?_
   refine⟨rfl,m,kt++[(T,.slice a2 l2 c2)],cp,H2++Ht,rfl,?_,?_,?_⟩
   ·rw [hadd,aZ,<-hk];rfl
   ·intro x hx
    rcases bJ.1 hx with h|h
    ·exact⟨(hr x h).1.mono fun y hy=>aM _ hy,(hr x h).2⟩
    ·rw [bW] at h
     subst h
     exact⟨(RdH.of h2).mono fun y hy=>aO _ hy,by show T.length<=_;omega⟩
   ·rw [hadd]
    exact hc.mono fun y hy=>aM _ hy
  ·rw [if_neg oQ] at hadd
   refine W.k ?_
   refine aNj ?_
   rw [hkl]
   refine W.k ?_
   refine F.cH ((b,cl (bkc tp m cp) 206)::(m,mo (kvs kt))::(tp,cl mN 211)::Ht) (cbs (Sha.sum T)) ?_
   exact⟨rfl,by rw [hadd];exact hkeep⟩
 | some x=>
  obtain⟨old,ov⟩:=x
  rw [hfd] at hadd
  have hmem:=mU hfd
  obtain⟨hov,hol⟩:=hr _ hmem
  dsimp only at hov hol
  have hov2:=hov
  have hov1:=hov.one
  obtain⟨oa,ol,oc,rfl,-⟩:=hov2
  dsimp only [Option.map_some,Option.getD_some,Option.isSome_some]
  dsimp only [Option.map_some] at hadd
  refine W.k ?_
  refine W.cq (zN (.slice oa ol oc) (.slice a2 l2 c2) old T) ?_ rfl (fun w2 hs=>⟨hov.rd (Hc:=[]) hs,Rd.ownB [] h2 hs⟩)
  by_cases ho:old=T
  ·rw [decide_eq_true ho]
   rw [if_neg (by simp [ho])] at hadd
   refine W.k ?_
   refine F.cH ((b,cl (bkc tp m cp) 206)::(m,mo (kvs kt))::(tp,cl mN 211)::Ht) (cbs (Sha.sum T)) ?_
   exact⟨rfl,by rw [hadd];exact hkeep⟩
  ·rw [decide_eq_false ho]
   cases hcl:s.clash with
   | none=>
    rw [hcl] at hc
    have hcp:cp=none:=hc
    subst hcp
    rw [if_pos ⟨ho,hcl⟩] at hadd
    have hb9:bV (fun i=>[(0,1),(1,1)][i]?) ([.slice none 0 0]++[.slice none 0 0]) [(0,.slice oa ol oc),(1,.slice a2 l2 c2)]=some [.slice oa ol oc,.slice a2 l2 c2]:=rfl
    refine W.k fun b_=>?_
    rw [show (bkc tp m none).set 2 (.pointer (some ⟨b_,0,none⟩))=bkc tp m (some ⟨b_,0,none⟩) from rfl]
    refine F.cH ((b,cl (bkc tp m (some ⟨b_,0,none⟩)) 206)::(m,mo (kvs kt))::(tp,cl mN 211)::(b_,cl [.slice oa ol oc,.slice a2 l2 c2] 259)::(H2++Ht)) (cbs (Sha.sum T)) ?_
    refine⟨rfl,m,kt,some ⟨b_,0,none⟩,(b_,cl [.slice oa ol oc,.slice a2 l2 c2] 259)::(H2++Ht),rfl,?_,?_,?_⟩
    ·rw [hadd];exact hk
    ·intro x hx
     exact⟨(hr x hx).1.mono fun y hy=>cV _ (aM _ hy),(hr x hx).2⟩
    ·rw [hadd]
     exact⟨b_,_,_,rfl,by simp,hov.mono fun y hy=>cV _ (aM _ hy),(RdH.of h2).mono fun y hy=>cV _ (aO _ hy),hol,oQ⟩
   | some q=>
    obtain⟨q1,q2⟩:=q
    have hc2:=hc
    rw [hcl] at hc2
    obtain⟨c,vx,vy,rfl,-⟩:=hc2
    rw [if_neg (by rw [hcl];simp)] at hadd
    refine W.k ?_
    refine F.cH ((b,cl (bkc tp m (some ⟨c,0,none⟩)) 206)::(m,mo (kvs kt))::(tp,cl mN 211)::Ht) (cbs (Sha.sum T)) ?_
    exact⟨rfl,by rw [hadd];exact hkeep⟩
instance digEq:EqB prog 91 32 where
 guard:=by kernel_rfl
 row:=inferInstance
 ok:=⟨_,underlying91,underlying5,kQ,inferInstance⟩
theorem aE4{K:List Nat}{vs:LV}{a a':Option Addr}{l l' c c':Nat}{b b':LB}{w:World}(hv:vs=[.slice a l c,.slice a' l' c'])(h:Rd K w 1 (.slice a l c) (cbs b))(h':Rd K w 1 (.slice a' l' c') (cbs b')):∀ (i:Nat) (bs:LB),[b,b'][i]?=some bs->∃ (a:Option Addr) (len cap:Nat),vs[i]?=some (Value.slice a len cap)/\Rd K w 1 (.slice a len cap) (cbs bs):=by
 intro i bs hi;have hi0:i=0\/i=1:=by have:=(aD.1 hi).1;simp at this;omega
 subst hv;rcases hi0 with rfl|rfl
 ·cases hi;exact⟨a,l,c,rfl,h⟩
 cases hi;exact⟨a',l',c',rfl,h'⟩
theorem aLJ(k:UInt8)(v:Value)(bss:LL)(hn:bss.flatten.length<=1099511626000)(hn2:bss.length<=1099511627776):Tri prog 242 [.int .u8 (k.toNat:Int),v] [] (fun w=>RdS [] w v bss) (fun v H=>Sl 5 1 v (cbs (k::bss.flatten)) H):=by
 refine Tri.mt func242 ntmps242 fun w hw=>?_;obtain⟨vs,hR,hvl,hvs⟩:=hw;obtain⟨pa,pl,pc,rfl,hpl,hpc,hpr⟩:=hR;rw [Nat.mul_one] at hpl;have hbl:bss.length=pl:=oQ;have hb1:bV (fun i=>some (i*1,1)) (zs [.int .u8 0] 1) [(0,.int .u8 (k.toNat:Int))]=some (cbs [k]):=rfl;refine W.j fun b_=>?_;have hA:Sl 5 1 (.slice (some ⟨b_,0,none⟩) 1 1) (cbs (k::(bss.take 0).flatten)) [(b_,cl (cbs [k]) 5)]:=by have:=Sl.mk (e:=5) (n:=1) (b:=b_) (len:=1) (cap:=1) (xs:=cbs [k]) (junk:=[]) rfl rfl (Nat.le_refl _);rw [aG] at this;simpa using this
 refine bP [] [(b_,cl (cbs [k]) 5)] (fun x:Value×Hp=>[(5,x.1)]) (fun x=>x.2) (fun x=>Sl 5 1 x.1 (cbs (k::bss.flatten)) x.2) ?_ ?_
 ·refine W.k ?_;refine bE [10,11] (fun x:Nat×Value×Hp=>[(5,x.2.1),(12,.int .i64 (x.1:Int))]) (fun x=>x.2.2) (fun x=>pl-x.1) (fun x=>x.1<=pl/\Sl 5 1 x.2.1 (cbs (k::(bss.take x.1).flatten)) x.2.2) (0,.slice (some ⟨b_,0,none⟩) 1 1,[(b_,cl (cbs [k]) 5)]) ⟨oQ,hA⟩ ?_;rintro⟨i,v2,H2⟩ ⟨hi,h2⟩;dsimp only at hi h2 |-;have h21:=h2.isOne;by_cases hip:i<pl
  ·obtain⟨bs,hbs⟩:∃ bs,bss[i]?=some bs:=⟨_,aA oQ⟩;obtain⟨a,len,cap,hvi,hrd⟩:=hvs i bs hbs;have hfl:=aBU bss (i+1);have hf2:=tX bss hbs;obtain⟨pb,po,l,T,fz,rfl,hpb,hpk,hpy⟩:=hpr.resolve_left oQ;have hl:l[po+i]?=some (.slice a len cap):=by rw [<-hpy,bD,if_pos oQ,bH] at hvi;exact hvi
   obtain⟨hbsl,hlc⟩:=hrd.len1;have hNl:((bss.take (i+1)).flatten).length=((bss.take i).flatten).length+len:=by rw [hf2,aB,hbsl]
   refine W.k ?_;refine W.ap h2 (fun w2 hs=>hrd.srcAt hs) (fun v3 H3 h3=>?_) (hys:=by rw [aI];omega) (hbytes:=by rw [aI,aI,aW];omega);have h31:=h3.isOne;rw [<-iW,dX,<-hf2] at h3;refine W.k ?_;refine aN.mk (i+1,v3,H3) ?_;exact⟨oQ,h3⟩
  have hi2:i=pl:=oQ;subst hi2;have hall:bss.take i=bss:=aK oQ;rw [hall] at h2;refine W.k ?_;refine bS.mk (v2,H2) ?_;exact h2
 rintro⟨v2,H2⟩ h2;dsimp only at h2 |-;have h21:=h2.isOne;refine W.k ?_;refine Fin.to H2 ?_;exact F.f1 h2
theorem aD7(k:UInt8)(v:Value)(bss:LL)(hn:bss.flatten.length<=1099511626000)(hn2:bss.length<=1099511627776):Tri prog 189 [.int .u8 (k.toNat:Int),v] [] (fun w=>RdS [] w v bss) (fun v H=>v=.agg (cbs (Sha.sum (k::bss.flatten))).toArray/\H=[]):=by
 refine Tri.mt func189 ntmps189 fun w hw=>?_;have hpv:=hw.one;have hl3:(cbs (Sha.sum (k::bss.flatten))).length=32:=by rw [aI,Sha.sum_len]
 refine W.k fun b_=>?_;refine aF (aLJ k v bss hn hn2) ?_ rfl (fun w2 hs=>hw.ro (Hc:=[]) hs);intro v1 H1 h1;have h11:=h1.isOne;refine W.k ?_;refine W.cw (aNP v1 _ (by rw [aW];omega)) ?_ rfl (fun w2 hs=>Rd.ownB [] h1 hs);refine F.c0 _ ?_;exact⟨rfl,rfl⟩
instance(priority:=low) cv8n (n:Nat):Cv .u8 (n:Int) ((UInt8.ofNat n).toNat:Int):=⟨by
 rw [tZ,cX];omega⟩
theorem Sl.own(e n b:Nat){len:Nat}{xs:LV}(h:xs.length=len*n):Sl e n (.slice (some ⟨b,0,none⟩) len len) xs [(b,cl xs e)]:=by have:=Sl.mk (e:=e) (n:=n) (b:=b) (len:=len) (cap:=len) (xs:=xs) (junk:=[]) h (by simp) (Nat.le_refl _);rwa [aG] at this
theorem yK(n:Nat)(v:UInt64)(hn:1<=n)(hn8:n<=8):Tri prog 184 [.int .i64 (n:Int),dZ v] [] NT (fun r H=>∃ b,r=.slice (some ⟨b,0,none⟩) n n/\H=[(b,cl (cbs (leN n v)) 5)]):=by refine Tri.mt func184 ntmps184 fun w hw=>?_;refine W.k fun b_=>?_;refine aF (aHG n v (byU v) 239 [aKD n v] hn hn8 (fun k hk=>aQn n v k oQ)) ?_;rintro _ _ ⟨b,rfl,rfl⟩;rw [show (List.range n).map (byU v)=leN n v from rfl];refine W.k ?_;refine Fin.to [(b,cl (cbs (leN n v)) 5)] ?_;refine F.f1 ?_;exact⟨b,rfl,rfl⟩
theorem wS(n:Nat)(v:UInt64)(hn8:n<=8):Tri prog 142 [.int .i64 (n:Int),dZ v] [] NT (fun r H=>Sl 5 1 r (cbs (leN n v)) H):=by
 refine Tri.mt func142 ntmps142 fun w hw=>?_;refine W.j ?_;have hV:v.toNat<18446744073709551616:=v.toNat_lt;refine bP [0] [] (fun x:Value×Hp=>[(5,x.1)]) (fun x=>x.2) (fun x=>Sl 5 1 x.1 (cbs (leN n v)) x.2) ?_ ?_
 ·refine W.k ?_;rw [show dZ v=.int .u64 ((v.toNat/256^0:Nat):Int) by simp [dZ]];refine bE [0] (fun x:Nat×Value×Hp=>[(1,.int .u64 ((v.toNat/256^x.1:Nat):Int)),(5,x.2.1),(6,.int .i64 (x.1:Int))]) (fun x=>x.2.2) (fun x=>n-x.1) (fun x=>x.1<=n/\Sl 5 1 x.2.1 (cbs (leN x.1 v)) x.2.2) (0,.slice none 0 0,[]) ⟨oQ,Sl.nil _ _⟩ ?_;rintro⟨i,v2,H2⟩ ⟨hi,h2⟩;dsimp only at hi h2 |-;have h21:=h2.isOne;by_cases hin:i<n
  ·have hs:leN (i+1) v=leN i v++[byU v i]:=by simp [leN,bT]
   have hb:=aAV v (k:=i) oQ;have hq:((v.toNat/256^(i+1):Nat):Int)=((v.toNat/256^i:Nat):Int)/256:=by rw [fE,<-gQ];rfl
   have hx:v.toNat/256^i<=v.toNat:=kF ..;generalize v.toNat/256^i=X at hb hq hx |-;have hb1:bV (fun i=>some (i*1,1)) (zs [.int .u8 0] 1) [(0,.int .u8 ((byU v i).toNat:Int))]=some (cbs [byU v i]):=rfl;haveI i1:Cv .u8 ((X:Int)%256) ((byU v i).toNat:Int):=⟨by rw [tZ,hb,cX];omega⟩;refine W.k fun b_=>?_;refine W.ap (ys:=cbs [byU v i]) (mm:=1) h2 (fun w hs=>(Sl.own 5 1 b_ (xs:=cbs [byU v i]) rfl).srcAt hs inferInstance) (fun v3 H3 h3=>?_) (hys:=rfl) (hbytes:=by simp [dV];omega);have h31:=h3.isOne;rw [<-iW,<-hs] at h3;refine W.k ?_;refine aGO ?_;refine W.k ?_;rw [<-hq];refine aN.mk (i+1,v3,H3) ?_;exact⟨oQ,h3⟩
  have:i=n:=oQ;subst this;refine W.k ?_;refine bS.mk (v2,H2) ?_;exact h2
 rintro⟨v2,H2⟩ h2;dsimp only at h2 |-;have h21:=h2.isOne;refine W.k ?_;refine Fin.to H2 ?_;exact F.f1 h2
end
section
open Go.ChangeShapes Go.WideShapes Go.ChangeAt Go.RowKit
section
variable {H:Type}{enc:TypeId×Value->H}{P:Program}{W:World}{sp:Nat->Bool}{hl:Bool}
theorem aNZ(ys:LV)(h:∀ v∈ys,∃ n:Int,v=.int .u8 n/\0<=n/\n<256):∃ bs:LB,bs.length=ys.length/\ys=cbs bs:=by
 refine⟨ys.map fun v=>match v with|.int _ n=>UInt8.ofNat n.toNat|_=>0,by simp,?_⟩;unfold cbs;rw [qY];refine (List.map_id ys).symm.trans (eJ fun v hv=>?_);obtain⟨n,h1,h2,h3⟩:=h v hv;simp only [id,Function.comp,h1];have:(UInt8.ofNat n.toNat).toNat=n.toNat:=by rw [cX];exact dK oQ
 simp only [this,Value.int.injEq,true_and];omega
theorem aGz{t e n fuel:Nat}{cs:LV}{z:DataW H×List MemPlace}(hu:P.underlying t=some (.array n e))(hc:P.cellsOf e=1)(he:P.underlying e=some (.int .u8))(hct:P.cellsOf t=n)(h:DataW.trod enc P W 0 sp hl fuel t cs=some z):∃ bs:LB,bs.length=n/\cs=cbs bs:=by obtain⟨xs,m,-,-,hl1,hl2,hel⟩:=DataW.trod_array hu h;rw [hct] at hl1;obtain⟨bs,h1,h2⟩:=aNZ cs (fun v hv=>by obtain⟨i,hi,rfl⟩:=pU.1 hv;have h3:=hel i oQ;rw [hc,Nat.mul_one,bK hi,aA oQ] at h3;simp only [qV,cU] at h3;obtain⟨n,h4,h5,h6⟩:=pL he h3;simp only [qP,and_true] at h4;exact⟨n,h4,Int.le_trans dQ h5,Int.lt_of_le_of_lt h6 dQ⟩);exact⟨bs,oQ,h2⟩
theorem aQA{n:Nat}(ys:LV)(f:Nat->LB)(len:Nat)(hy:ys.length=len*n)(h:∀ i,i<len->(ys.drop (i*n)).take n=cbs (f i)):ys=cbs ((List.range len).map f).flatten:=by
 have key:∀ m,m<=len->ys.take (m*n)=cbs ((List.range m).map f).flatten:=by
  intro m;induction m with
  | zero=>intro _;simp
  | succ m ih=>
   intro hm
   rw [gD,List.take_add,ih oQ,h m oQ,bT]
   simp
 have:=key len (Nat.le_refl _);rwa [<-hy,bO] at this
end
section
variable {H:Type}{enc:TypeId×Value->H}{w:World}{sp:Nat->Bool}{hd:Bool}
theorem aCM{t u b:Nat}{r:Reach}{v:Value}{d:DataW H}{ps:List MemPlace}{P:Program}{n:Nat}(he:P.underlying t=some (.array n u))(hc:P.cellsOf t=n)(hcu:P.cellsOf u=1)(heu:P.underlying u=some (.int .u8))(hval:Value.okWide P w r b t v)(hd':DataW.Trod enc P w 0 sp hd t v d ps):∃ x:LB,x.length=n/\v=.agg (cbs x).toArray:=by unfold Value.okWide at hval;rw [he] at hval;obtain⟨cs,rfl,-⟩:=hval;obtain⟨fuel,h⟩:=hd';obtain⟨bs,h1,h2⟩:=aGz he hcu heu hc h;refine⟨bs,h1,?_⟩;rw [<-h2];simp [Value.cells]
end
end
end Go.Proofs.YtdfclocfackkmaaGreat
