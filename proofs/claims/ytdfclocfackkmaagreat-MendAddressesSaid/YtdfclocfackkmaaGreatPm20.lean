/- The document's AES, and its stream. -/
import Derived.Test.YtdfclocfackkmaaGreatPm19
import Derived.Test.YtdfclocfackkmaaGreatPm16
set_option linter.unusedVariables false
set_option linter.unusedSimpArgs false
set_option linter.unusedSectionVars false
set_option maxHeartbeats 8000000
namespace Go.Proofs.YtdfclocfackkmaaGreat
open Go Go.Proofs.Tryz
section
attribute [local irreducible] SW SL SQ SH SA SS Pu Fin bS aN
def fnL(h:Nat->UInt8):LB:=(List.range 16).map h
theorem aHO(h:Nat->UInt8):(fnL h).length=16:=by simp [fnL]
theorem iJ(h:Nat->UInt8):(cbs (fnL h)).length=16:=by rw [aI,aHO]
theorem uI(h:Nat->UInt8){i:Nat}(hi:i<16):(cbs (fnL h))[i]?=some (.int .u8 ((h i).toNat:Int)):=by unfold fnL cbs;rw [qY,aL,eI hi];rfl
theorem aA2{h g:Nat->UInt8}(e:∀ i,i<16->h i=g i):fnL h=fnL g:=by unfold fnL;exact eJ fun i hi=>e i (eK.1 hi)
theorem xB{h g:Nat->UInt8}{i:Nat}(v:UInt8)(hi:i<16)(hv:g i=v)(e:∀ j,j<16->j≠i->g j=h j):(cbs (fnL h)).set i (.int .u8 (v.toNat:Int))=cbs (fnL g):=by
 apply cM;intro j;rw [dW];by_cases hj:j<16
 ·rw [uI g hj];by_cases hij:i=j
  ·subst hij;rw [if_pos rfl,if_pos (by rw [iJ];exact hi),hv]
  rw [if_neg hij,uI h hj,e j hj (Ne.symm hij)]
 rw [bF (by rw [iJ];omega),bF (by rw [iJ];omega)];split
 ·split
  ·rename_i h1;rw [iJ] at h1;omega
  rfl
 rfl
namespace Rg
def B(x:UInt8):UInt8:=subL.getD x.toNat 0
def T(x:UInt8):UInt8:=twL.getD x.toNat 0
def e0(ws:LL)(x:LB)(i:Nat):UInt8:=x.getD ((i%4)*4+i/4) 0 ^^^ ws.flatten.getD ((i%4)*4+i/4) 0
def eS(s:Nat->UInt8)(i:Nat):UInt8:=B (s (i/4*4+(i%4+i/4)%4))
def eM(t:Nat->UInt8)(i:Nat):UInt8:=T (t i) ^^^ T (t ((i/4+1)%4*4+i%4)) ^^^ t ((i/4+1)%4*4+i%4) ^^^ t ((i/4+2)%4*4+i%4) ^^^ t ((i/4+3)%4*4+i%4)
def eA(ws:LL)(n:Nat)(t:Nat->UInt8)(i:Nat):UInt8:=t i ^^^ ws.flatten.getD ((4*n+i%4)*4+i/4) 0
def eT(R n:Nat)(s:Nat->UInt8):Nat->UInt8:=if n<R then eM (eS s) else eS s
def st(ws:LL)(R:Nat)(x:LB):Nat->Nat->UInt8
 | 0=>e0 ws x
 | n+1=>eA ws (n+1) (eT R (n+1) (st ws R x n))
def eO(s:Nat->UInt8)(k:Nat):UInt8:=s (k%4*4+k/4)
def enc(ws:LL)(R:Nat)(x:LB):LB:=fnL (eO (st ws R x R))
theorem enc_len(ws:LL)(R:Nat)(x:LB):(enc ws R x).length=16:=aHO _
end Rg
def vO(k:Nat)(g h:Nat->UInt8)(i:Nat):UInt8:=if i<k then g i else h i
theorem aI2(g h:Nat->UInt8):fnL (vO 0 g h)=fnL h:=aA2 fun i _=>by unfold vO;rw [if_neg oQ]
theorem aCG(g h:Nat->UInt8):fnL (vO 16 g h)=fnL g:=aA2 fun i hi=>by unfold vO;rw [if_pos hi]
theorem aCH{g h:Nat->UInt8}{k:Nat}(hk:k<16):(cbs (fnL (vO k g h))).set k (.int .u8 ((g k).toNat:Int))=cbs (fnL (vO (k+1) g h)):=
 xB _ hk (by unfold vO;rw [if_pos oQ]) fun j hj hne=>by
  unfold vO
  by_cases h:j<k
  ·rw [if_pos h,if_pos oQ]
  ·rw [if_neg h,if_neg oQ]
def aBJ(k:Nat)(g h:Nat->UInt8)(i:Nat):UInt8:=if i%4*4+i/4<k then g i else h i
theorem aFF(g h:Nat->UInt8):fnL (aBJ 16 g h)=fnL g:=aA2 fun i hi=>by unfold aBJ;rw [if_pos oQ]
theorem aFG{g h:Nat->UInt8}{k:Nat}(hk:k<16):(cbs (fnL (aBJ k g h))).set (k%4*4+k/4) (.int .u8 ((g (k%4*4+k/4)).toNat:Int))=cbs (fnL (aBJ (k+1) g h)):=
 xB _ oQ (by unfold aBJ;rw [if_pos oQ]) fun j hj hne=>by
  unfold aBJ
  by_cases h:j%4*4+j/4<k
  ·rw [if_pos h,if_pos oQ]
  ·rw [if_neg h,if_neg oQ]
section
variable {c n:Nat}{ws:LL}
abbrev rcO(wv:Value)(n:Nat):Obj:=cl (rcL (cbs Rg.subL) (cbs Rg.twL) wv (.int .i64 (n:Int))) 219
theorem aO0(wv:Value)(t:Nat->UInt8):Tri prog 267 [ptv c,.agg (cbs (fnL t)).toArray] [(c,rcO wv n)] NT (fun v H=>v=.agg (cbs (fnL (Rg.eM t))).toArray/\H=[(c,rcO wv n)]):=by
 refine Tri.mt func267 ntmps267 fun w hw=>?_;have hl0:=iJ t;have hL:=iJ (Rg.eM t);have l1:(cbs Rg.subL).length=256:=by rw [aI,Rg.subL_len]
 have l2:(cbs Rg.twL).length=256:=by rw [aI,Rg.twL_len]
 have hT:∀ x:UInt8,(rcL (cbs Rg.subL) (cbs Rg.twL) wv (.int .i64 (n:Int)))[256+x.toNat]?=some (.int .u8 ((Rg.T x).toNat:Int)):=fun x=>by have hx:x.toNat<256:=x.toNat_lt;rw [aNz l1 l2 hx];have:=aAa (x:=Rg.twL) (k:=x.toNat) (by rw [Rg.twL_len];exact hx) [];rwa [aG] at this
 clear l1 l2;unfold rcO;generalize rcL (cbs Rg.subL) (cbs Rg.twL) wv (.int .i64 (n:Int))=RL at *;refine W.j fun _ _ b_=>?_;refine SW.cut [4,5] [b_] (fun _:Unit=>[]) (fun _=>[(b_,cl (cbs (fnL (Rg.eM t))) 380)]) NT ?_ ?_
 ·refine W.k ?_;refine cI [0,3,4,5] [b_] (fun k:Nat=>[(6,.int .i64 (k:Int))]) (fun k=>[(b_,cl (cbs (fnL (aBJ (4*k) (Rg.eM t) fun _=>0))) 380)]) (fun k=>4-k) (fun k=>k<=4) 0 (Nat.zero_le _) ?_;intro k hk;by_cases h:k<4
  ·refine W.j ?_;refine SW.cut [0,3,4,5,6] [b_] (fun _:Unit=>[]) (fun _=>[(b_,cl (cbs (fnL (aBJ (4*(k+1)) (Rg.eM t) fun _=>0))) 380)]) NT ?_ ?_
   ·refine W.k ?_;refine cI [0,3,4,5,6] [b_] (fun r:Nat=>[(7,.int .i64 (r:Int))]) (fun r=>[(b_,cl (cbs (fnL (aBJ (4*k+r) (Rg.eM t) fun _=>0))) 380)]) (fun r=>4-r) (fun r=>r<=4) 0 (Nat.zero_le _) ?_;intro r hr;by_cases hr4:r<4
    ·have g0:=uI t (i:=r*4+k) oQ;have g1:=uI t (i:=(r+1)%4*4+k) oQ;have g2:=uI t (i:=(r+2)%4*4+k) oQ;have g3:=uI t (i:=(r+3)%4*4+k) oQ;have hA:=hT (t (r*4+k));have hB:=hT (t ((r+1)%4*4+k));have hs:=aFG (g:=Rg.eM t) (h:=fun _=>0) (k:=4*k+r) oQ;rw [show (4*k+r)%4*4+(4*k+r)/4=r*4+k by omega] at hs;have u0:=(t (r*4+k)).toNat_lt;have u1:=(t ((r+1)%4*4+k)).toNat_lt;have hlt:r*4+k<(cbs (fnL (aBJ (4*k+r) (Rg.eM t) fun _=>0))).length:=by rw [iJ];omega
     have hem:Rg.eM t (r*4+k)=Rg.T (t (r*4+k)) ^^^ Rg.T (t ((r+1)%4*4+k)) ^^^ t ((r+1)%4*4+k) ^^^ t ((r+2)%4*4+k) ^^^ t ((r+3)%4*4+k):=by unfold Rg.eM;rw [show (r*4+k)/4=r by omega,show (r*4+k)%4=k by omega]
     rw [hem] at hs;refine W.k ?_;(refine SW.l [] [0,1,2,3,4,5,6,7,8,9,10,11,12,13,14] ?_);(refine SW.l [35] [0,1,2,3,4,5,6,7,8,9,10,11,12,13,14,15,16,17,18,19,20,21,22,23,24,25,26,27,28,29,30,31,32,33,34] ?_;refine bL 35 ?_;refine W.i ?_;refine SS.dn ?_);rw [hs];refine W.k ?_;refine aN.mk (r+1) ?_;omega
    have:r=4:=oQ;subst this;refine W.k ?_;refine bS.mk () ?_;trivial
   rintro _ -;refine W.k ?_;refine aN.mk (k+1) ?_;omega
  have:k=4:=oQ;subst this;rw [show 4*4=16 from rfl,aFF];refine W.k ?_;refine bS.mk () ?_;trivial
 rintro _ -;refine W.k ?_;exact F.cH [(c,cl RL 219)] _ ⟨rfl,rfl⟩
theorem aOX{Hc:Hp}(hC:aFb c n ws Hc)(hw4:∀ y∈ws,y.length=4)(hws:ws.length<=1000)(h1:1<=n)(hn:4*n+4<=ws.length)(x:LB)(hx:x.length=16):Tri prog 243 [ptv c,.agg (cbs x).toArray] Hc NT (fun v H=>v=.agg (cbs (Rg.enc ws n x)).toArray/\H=Hc):=by
 obtain⟨wv,Hs,hS,rfl⟩:=hC;have hfl:=dH hw4;have hmx:=fun t=>aO0 (c:=c) (n:=n) wv t;have hl16:(cbs x).length=16:=by rw [aI,hx]
 have l1:(cbs Rg.subL).length=256:=by rw [aI,Rg.subL_len]
 have l2:(cbs Rg.twL).length=256:=by rw [aI,Rg.twL_len]
 have hB:∀ x:UInt8,(rcL (cbs Rg.subL) (cbs Rg.twL) wv (.int .i64 (n:Int)))[x.toNat]?=some (.int .u8 ((Rg.B x).toNat:Int)):=fun x=>by have hx:x.toNat<256:=x.toNat_lt;rw [aNy l1 l2 hx];have:=aAa (x:=Rg.subL) (k:=x.toNat) (by rw [Rg.subL_len];exact hx) [];rwa [aG] at this
 have hW:=aK3 l1 l2 (ws:=wv) (r:=.int .i64 (n:Int));have hR:=aNx l1 l2 (ws:=wv) (r:=.int .i64 (n:Int));clear l1 l2;unfold rcO at hmx;generalize rcL (cbs Rg.subL) (cbs Rg.twL) wv (.int .i64 (n:Int))=RL at *;rcases hS with ⟨-,hz,-⟩|⟨bw,len,cap,junk,rfl,hxl,hj,hlc,rfl⟩
 ·have:=congrArg List.length hz;rw [aI,hfl] at this;simp at this;omega
 rw [aI,hfl] at hxl;have hlen:ws.length=len:=oQ;subst hlen;refine Tri.mt func243 ntmps243 fun w hw=>?_;refine W.j fun _ _ b_=>?_;rename_i b3 b4;generalize b_=b5;refine SW.cut [0,4,5] [b5] (fun _:Unit=>[]) (fun _=>[(b5,cl (cbs (fnL (Rg.st ws n x 0))) 380)]) NT ?_ ?_
 ·refine W.k ?_;refine cI [0,3,4,5] [b5] (fun k:Nat=>[(6,.int .i64 (k:Int))]) (fun k=>[(b5,cl (cbs (fnL (aBJ k (Rg.e0 ws x) fun _=>0))) 380)]) (fun k=>16-k) (fun k=>k<=16) 0 (Nat.zero_le _) ?_;intro k hk;by_cases h:k<16
  ·have g0:=aAa (x:=x) (k:=k) oQ [];rw [aG] at g0;have g1:=aAa (x:=ws.flatten) (k:=k/4*4+k%4) (by rw [hfl];omega) junk;have hs:=aFG (g:=Rg.e0 ws x) (h:=fun _=>0) (k:=k) h;have hem:Rg.e0 ws x (k%4*4+k/4)=x.getD k 0 ^^^ ws.flatten.getD (k/4*4+k%4) 0:=by unfold Rg.e0;rw [show (k%4*4+k/4)%4*4+(k%4*4+k/4)/4=k by omega,show k/4*4+k%4=k by omega]
   rw [hem] at hs;have hlt:k%4*4+k/4<(cbs (fnL (aBJ k (Rg.e0 ws x) fun _=>0))).length:=by rw [iJ];omega
   refine W.k ?_;(refine SW.l [21] [0,1,2,3,4,5,6,7,8,9,10,11,12,13,14,15,16,17,18,19,20] ?_;refine bL 21 ?_;refine W.i ?_;refine SS.dn ?_);rw [hs];refine W.k ?_;refine aN.mk (k+1) ?_;omega
  have:k=16:=oQ;subst this;rw [aFF,show Rg.e0 ws x=Rg.st ws n x 0 from rfl];refine W.k ?_;refine bS.mk () ?_;trivial
 rintro _ -;refine W.j ?_;refine SW.cut [4,5] [b5] (fun _:Unit=>[]) (fun _=>[(b5,cl (cbs (fnL (Rg.st ws n x n))) 380)]) NT ?_ ?_
 ·refine W.k ?_;refine cI [0,4,5] [b5] (fun m:Nat=>[(7,.int .i64 ((m+1:Nat):Int))]) (fun m=>[(b5,cl (cbs (fnL (Rg.st ws n x m))) 380)]) (fun m=>n-m) (fun m=>m<=n) 0 (Nat.zero_le _) ?_;intro m hm;by_cases hmn:m<n
  ·obtain⟨s,hst0⟩:∃ s,Rg.st ws n x m=s:=⟨_,rfl⟩;have hst:Rg.st ws n x (m+1)=Rg.eA ws (m+1) (Rg.eT n (m+1) s):=by rw [<-hst0];rfl
   rw [hst0];clear hst0;refine W.j ?_;refine SW.block ?_;refine W.j fun b_=>?_;refine SW.cut [0,4,5,7,8] [b_] (fun _:Unit=>[]) (fun _=>[(b_,cl (cbs (fnL (Rg.eS s))) 380)]) NT ?_ ?_
   ·refine W.k ?_;refine cI [0,4,5,7,8] [b_] (fun r:Nat=>[(9,.int .i64 (r:Int))]) (fun r=>[(b_,cl (cbs (fnL (vO (r*4) (Rg.eS s) fun _=>0))) 380)]) (fun r=>4-r) (fun r=>r<=4) 0 (Nat.zero_le _) ?_;intro r hr;by_cases hr4:r<4
    ·refine W.j ?_;refine SW.cut [0,4,5,7,8,9] [b_] (fun _:Unit=>[]) (fun _=>[(b_,cl (cbs (fnL (vO ((r+1)*4) (Rg.eS s) fun _=>0))) 380)]) NT ?_ ?_
     ·refine W.k ?_;refine cI [0,4,5,7,8,9] [b_] (fun k:Nat=>[(10,.int .i64 (k:Int))]) (fun k=>[(b_,cl (cbs (fnL (vO (r*4+k) (Rg.eS s) fun _=>0))) 380)]) (fun k=>4-k) (fun k=>k<=4) 0 (Nat.zero_le _) ?_;intro k hk;by_cases hk4:k<4
      ·have g0:=uI s (i:=r*4+(k+r)%4) oQ;have u0:=(s (r*4+(k+r)%4)).toNat_lt;have g1:=hB (s (r*4+(k+r)%4));have hs:=aCH (g:=Rg.eS s) (h:=fun _=>0) (k:=r*4+k) oQ;have hem:Rg.eS s (r*4+k)=Rg.B (s (r*4+(k+r)%4)):=by unfold Rg.eS;rw [show (r*4+k)/4=r by omega,show (r*4+k)%4=k by omega]
       rw [hem] at hs;have hlt:r*4+k<(cbs (fnL (vO (r*4+k) (Rg.eS s) fun _=>0))).length:=by rw [iJ];omega
       refine W.k ?_;(refine SW.l [17] [0,1,2,3,4,5,6,7,8,9,10,11,12,13,14,15,16] ?_;refine bL 17 ?_;refine W.i ?_;refine SS.dn ?_);rw [hs];refine W.k ?_;refine aN.mk (k+1) ?_;omega
      have:k=4:=oQ;subst this;rw [show r*4+4=(r+1)*4 by omega];refine W.k ?_;refine bS.mk () ?_;trivial
     rintro _ -;refine W.k ?_;refine aN.mk (r+1) ?_;omega
    have:r=4:=oQ;subst this;rw [show 4*4=16 from rfl,aCG];refine W.k ?_;refine bS.mk () ?_;trivial
   rintro _ -;have hE:=iJ (Rg.eS s);have hM:=iJ (Rg.eM (Rg.eS s));rcases mP (m+1) n with hmn2|hmn2;case' inl=>
    have heT:Rg.eT n (m+1) s=Rg.eM (Rg.eS s):=by unfold Rg.eT;rw [if_pos hmn2]
    refine W.j ?_;refine W.cq (hmx _) ?_;rw [<-heT] at hM |-;refine W.j ?_
   case' inr=>
    have heT:Rg.eT n (m+1) s=Rg.eS s:=by unfold Rg.eT;rw [if_neg oQ]
    rw [<-heT];refine W.j ?_
   all_goals
    generalize Rg.eT n (m+1) s=u at *;refine W.k ?_;refine cI [0,4,5,7,8] [b5] (fun r:Nat=>[(11,.int .i64 (r:Int))]) (fun r=>[(b5,cl (cbs (fnL (vO (r*4) (Rg.eA ws (m+1) u) s))) 380)]) (fun r=>4-r) (fun r=>r<=4) 0 (Nat.zero_le _) ?_ (hG:=by rw [jM,aI2]);intro r hr;by_cases hr4:r<4
    ·refine W.j ?_;refine SW.cut [0,4,5,7,8,11] [b5] (fun _:Unit=>[]) (fun _=>[(b5,cl (cbs (fnL (vO ((r+1)*4) (Rg.eA ws (m+1) u) s))) 380)]) NT ?_ ?_
     ·refine W.k ?_;refine cI [0,4,5,7,8,11] [b5] (fun k:Nat=>[(12,.int .i64 (k:Int))]) (fun k=>[(b5,cl (cbs (fnL (vO (r*4+k) (Rg.eA ws (m+1) u) s))) 380)]) (fun k=>4-k) (fun k=>k<=4) 0 (Nat.zero_le _) ?_;intro k hk;by_cases hk4:k<4
      ·have g0:=uI u (i:=r*4+k) oQ;have g1:=aAa (x:=ws.flatten) (k:=(4*(m+1)+k)*4+r) (by rw [hfl];omega) junk;have hs:=aCH (g:=Rg.eA ws (m+1) u) (h:=s) (k:=r*4+k) oQ;have hem:Rg.eA ws (m+1) u (r*4+k)=u (r*4+k) ^^^ ws.flatten.getD ((4*(m+1)+k)*4+r) 0:=by unfold Rg.eA;rw [show (r*4+k)/4=r by omega,show (r*4+k)%4=k by omega]
       rw [hem] at hs;have hlt:r*4+k<(cbs (fnL (vO (r*4+k) (Rg.eA ws (m+1) u) s))).length:=by rw [iJ];omega
       refine W.k ?_;(refine SW.l [22] [0,1,2,3,4,5,6,7,8,9,10,11,12,13,14,15,16,17,18,19,20,21] ?_;refine bL 22 ?_;refine W.i ?_;refine SS.dn ?_);rw [hs];refine W.k ?_;refine aN.mk (k+1) ?_;omega
      have:k=4:=oQ;subst this;rw [show r*4+4=(r+1)*4 by omega];refine W.k ?_;refine bS.mk () ?_;trivial
     rintro _ -;refine W.k ?_;refine aN.mk (r+1) ?_;omega
    have:r=4:=oQ;subst this;rw [show 4*4=16 from rfl,aCG,<-hst];refine W.k ?_;refine aN.mk (m+1) ?_;omega
  have:m=n:=oQ;subst this;refine W.k ?_;refine bS.mk () ?_;trivial
 rintro _ -;have hO:∀ k,(Rg.eO (Rg.st ws n x n)) k=Rg.st ws n x n (k%4*4+k/4):=fun _=>rfl;have hE2:fnL (Rg.eO (Rg.st ws n x n))=Rg.enc ws n x:=rfl;have hL:=iJ (Rg.eO (Rg.st ws n x n));generalize Rg.st ws n x n=s at *;refine W.j fun b_=>?_;refine SW.cut [4,13] [b_] (fun _:Unit=>[]) (fun _=>[(b_,cl (cbs (fnL (Rg.eO s))) 22)]) NT ?_ ?_
 ·refine W.k ?_;refine cI [4,5,13] [b_] (fun k:Nat=>[(14,.int .i64 (k:Int))]) (fun k=>[(b_,cl (cbs (fnL (vO k (Rg.eO s) fun _=>0))) 22)]) (fun k=>16-k) (fun k=>k<=16) 0 (Nat.zero_le _) ?_;intro k hk;by_cases hk4:k<16
  ·have g0:=uI s (i:=k%4*4+k/4) oQ;have hs:=aCH (g:=Rg.eO s) (h:=fun _=>0) (k:=k) hk4;rw [hO k] at hs;have hlt:k<(cbs (fnL (vO k (Rg.eO s) fun _=>0))).length:=by rw [iJ];omega
   refine W.k ?_;rw [hs];refine aN.mk (k+1) ?_;omega
  have:k=16:=oQ;subst this;rw [aCG];refine W.k ?_;refine bS.mk () ?_;trivial
 rintro _ -;refine W.k ?_;rw [<-hE2];exact F.cH ((c,cl RL 219)::[(bw,cl (cbs ws.flatten++junk) 193)]) _ ⟨rfl,rfl⟩
end
end
section
section
variable {P:Program}{C:Ctx}{Q:Exit->Fr->Hp->Prop}{A:Fr}{H:Hp}{L rest:List Oper}{o:Oper}{d:Option Tmp}{ty:TypeId}{pos:String}{af:Array Edge}{g:Option (Nat×Bool)}{t t':TypeId}{d':Option Nat}{x y:Operand}{m q:Int}
theorem aMC(ho:o.op=.binOp .quo t x y t')(hx:ev A x=some (.int .u32 m))(hy:ev A y=some (.int .u32 q))(h0:0<=m)(h1:m<4294967296)(hn:0<q):Pu P C A H o (.int .u32 (m/q)):=
 aCN ho hx hy oQ (by
  rw [mF h0]
  have h2:0<=m/q:=vB h0 oQ
  have h3:m/q<=m:=sS q h0
  rw [sO];omega)
theorem aNX(h:SL P C L Q rest (pt A d' (.int .u32 (m/q))) H)(hx:ev A x=some (.int .u32 m):=by exact rfl)(hy:ev A y=some (.int .u32 q):=by exact rfl)(h0:0<=m:=by omega)(h1:m<4294967296:=by omega)(hn:0<q:=by omega)(hg:gd L A ⟨d,.binOp .quo t x y t',ty,pos,af,g⟩=some true:=by exact rfl)(hd:dk C.n d=some d':=by exact rfl):SL P C L Q (⟨d,.binOp .quo t x y t',ty,pos,af,g⟩::rest) A H:=bN (aMC rfl hx hy h0 h1 hn) hg hd h
end
attribute [local irreducible] SW SL SQ SH SA SS Pu Fin bS aN
def cF(e k l:Nat)(i:Nat):UInt8:=if i<8 then UInt8.ofNat (e/256^(7-i)) else if i<12 then UInt8.ofNat (k/256^(11-i)) else if i=12 then UInt8.ofNat (l/256) else if i=13 then UInt8.ofNat (l%256) else 0
theorem aPP(e:UInt64)(k l:Nat):fnL (cF e.toNat k l)=pZ e k l:=by unfold pZ Sha.beN fnL cF;simp [bT];exact kG.1 (by simp)
def cS(e k l:Nat)(a b:Nat)(i:Nat):UInt8:=if i<8 then (if 8-a<=i then cF e k l i else 0) else if i<12 then (if 12-b<=i then cF e k l i else 0) else 0
theorem aHg(e:UInt64)(k l:Nat)(hk:k<4294967296)(hl:l<65536):Tri prog 244 [dZ e,.int .u32 (k:Int),.int .i64 (l:Int)] [] NT (fun v H=>v=.agg (cbs (pZ e k l)).toArray/\H=[]):=by
 refine Tri.mt func244 ntmps244 fun w hw=>?_;have hV:e.toNat<18446744073709551616:=e.toNat_lt;rw [<-aPP];have hL:=iJ (cF e.toNat k l);refine W.j fun _ b_=>?_;rename_i b3;rw [show dZ e=.int .u64 ((e.toNat/256^0:Nat):Int) by simp [dZ]];generalize e.toNat=E at *;refine SW.cut [1,2,6,7] [b_] (fun _:Unit=>[]) (fun _=>[(b_,cl (cbs (fnL (cS E k l 8 0))) 22)]) NT ?_ ?_
 ·refine W.k ?_;refine cI [1,2,6,7] [b_] (fun j:Nat=>[(0,.int .u64 ((E/256^j:Nat):Int)),(8,.int .i64 (7-(j:Int)))]) (fun j=>[(b_,cl (cbs (fnL (cS E k l j 0))) 22)]) (fun j=>8-j) (fun j=>j<=8) 0 (Nat.zero_le _) ?_;intro j hj;by_cases h:j<8
  ·haveI i0:eB (7-(j:Int)) (7-j):=⟨oQ⟩;haveI i1:Cv .u8 (((E/256^j:Nat):Int)%256) ((UInt8.ofNat (E/256^j)).toNat:Int):=⟨by rw [tZ,cX];omega⟩;have hx:E/256^j<=E:=kF ..;have hq:((E/256^(j+1):Nat):Int)=((E/256^j:Nat):Int)/256:=by rw [fE,<-gQ];rfl
   have hs:=xB (h:=cS E k l j 0) (g:=cS E k l (j+1) 0) (i:=7-j) (UInt8.ofNat (E/256^j)) oQ (by
    unfold cS cF;rw [if_pos oQ,if_pos oQ,if_pos oQ,show 7-(7-j)=j by omega]) (fun i hi hne=>by
    unfold cS;by_cases h8:i<8
    ·rw [if_pos h8,if_pos h8];by_cases h9:8-j<=i
     ·rw [if_pos h9,if_pos oQ]
     rw [if_neg h9,if_neg oQ]
    rw [if_neg h8,if_neg h8])
   have hlt:7-j<(cbs (fnL (cS E k l j 0))).length:=by rw [iJ];omega
   generalize E/256^j=X at *;refine W.k ?_;rw [hs];refine aGO ?_;refine W.k ?_;rw [<-hq,show (7:Int)-(j:Int)-1=7-((j+1:Nat):Int) by omega];refine aN.mk (j+1) ?_;omega
  have:j=8:=oQ;subst this;refine W.k ?_;refine bS.mk () ?_;trivial
 rintro _ -;refine W.j ?_;rw [show (.int .u32 (k:Int):Value)=.int .u32 ((k/256^0:Nat):Int) by simp];refine SW.cut [2,6,7] [b_] (fun _:Unit=>[]) (fun _=>[(b_,cl (cbs (fnL (cS E k l 8 4))) 22)]) NT ?_ ?_
 ·refine W.k ?_;refine cI [2,6,7] [b_] (fun j:Nat=>[(1,.int .u32 ((k/256^j:Nat):Int)),(9,.int .i64 (11-(j:Int)))]) (fun j=>[(b_,cl (cbs (fnL (cS E k l 8 j))) 22)]) (fun j=>4-j) (fun j=>j<=4) 0 (Nat.zero_le _) ?_;intro j hj;by_cases h:j<4
  ·haveI i0:eB (11-(j:Int)) (11-j):=⟨oQ⟩;haveI i1:Cv .u8 (((k/256^j:Nat):Int)%256) ((UInt8.ofNat (k/256^j)).toNat:Int):=⟨by rw [tZ,cX];omega⟩;have hx:k/256^j<=k:=kF ..;have hq:((k/256^(j+1):Nat):Int)=((k/256^j:Nat):Int)/256:=by rw [fE,<-gQ];rfl
   have hs:=xB (h:=cS E k l 8 j) (g:=cS E k l 8 (j+1)) (i:=11-j) (UInt8.ofNat (k/256^j)) oQ (by
    unfold cS cF;rw [if_neg oQ,if_pos oQ,if_pos oQ,if_neg oQ,if_pos oQ,show 11-(11-j)=j by omega]) (fun i hi hne=>by
    unfold cS;by_cases h8:i<8
    ·rw [if_pos h8,if_pos h8]
    rw [if_neg h8,if_neg h8];by_cases h12:i<12
    ·rw [if_pos h12,if_pos h12];by_cases h9:12-j<=i
     ·rw [if_pos h9,if_pos oQ]
     rw [if_neg h9,if_neg oQ]
    rw [if_neg h12,if_neg h12])
   have hlt:11-j<(cbs (fnL (cS E k l 8 j))).length:=by rw [iJ];omega
   generalize k/256^j=X at *;refine W.k ?_;rw [hs];refine aNX ?_;refine W.k ?_;rw [<-hq,show (11:Int)-(j:Int)-1=11-((j+1:Nat):Int) by omega];refine aN.mk (j+1) ?_;omega
  have:j=4:=oQ;subst this;refine W.k ?_;refine bS.mk () ?_;trivial
 rintro _ -;haveI i1:Cv .u8 ((l:Int)/256) ((UInt8.ofNat (l/256)).toNat:Int):=⟨by rw [tZ,cX];omega⟩;haveI i2:Cv .u8 ((l:Int)%256) ((UInt8.ofNat (l%256)).toNat:Int):=⟨by rw [tZ,cX];omega⟩;have hs1:=xB (h:=cS E k l 8 4) (g:=fun i=>if i=12 then cF E k l 12 else cS E k l 8 4 i) (i:=12) (UInt8.ofNat (l/256)) oQ rfl (fun i hi hne=>if_neg hne);have hs2:=xB (h:=fun i=>if i=12 then cF E k l 12 else cS E k l 8 4 i) (g:=cF E k l) (i:=13) (UInt8.ofNat (l%256)) oQ rfl (fun i hi hne=>by
  by_cases h12:i=12
  ·subst h12;rfl
  rw [if_neg h12];unfold cS;by_cases h8:i<8
  ·rw [if_pos h8,if_pos oQ]
  rw [if_neg h8];by_cases hh:i<12
  ·rw [if_pos hh,if_pos oQ]
  rw [if_neg hh];unfold cF;rw [if_neg h8,if_neg hh,if_neg h12,if_neg hne])
 have hlt1:12<(cbs (fnL (cS E k l 8 4))).length:=by rw [iJ];omega
 have hlt2:13<(cbs (fnL fun i=>if i=12 then cF E k l 12 else cS E k l 8 4 i)).length:=by rw [iJ];omega
 refine W.k ?_;refine F.cH [] (cbs (fnL (cF E k l))) ⟨rfl,rfl⟩ (hl:=by rw [hs1,hs2])
theorem aIY{E:LB->LB}(hE:∀ x,(E x).length=16)(e:UInt64)(k n:Nat){i:Nat}(hi:i<16*n):(oC E e k n)[i]?=some ((E (pZ e k (i/16))).getD (i%16) 0):=by
 induction n with
 | zero=>omega
 | succ n ih=>
  rw [aBD]
  have hl:=uM hE e k n
  by_cases h:i<16*n
  ·rw [aJ oQ];exact ih h
  ·rw [aV oQ,hl,show i/16=n by omega,show i-16*n=i%16 by omega,aE,aA (by rw [hE];omega)]
   rfl
theorem aMc{E:LB->LB}(hE:∀ x,(E x).length=16)(e:UInt64)(k:Nat)(b:LB){i:Nat}(hi:i<b.length):(dY E e k b)[i]?=some (b.getD i 0 ^^^ (E (pZ e k (i/16))).getD (i%16) 0):=by
 unfold dY aE8;have gx:b.getD i 0=b[i]:=by rw [aE,aA hi];rfl
 rw [eV,bD,if_pos hi,aIY hE e k _ oQ,aA hi,gx]
theorem aKW{c n:Nat}{ws:LL}{Hc:Hp}(hC:aFb c n ws Hc)(hw4:∀ y∈ws,y.length=4)(hws:ws.length<=1000)(h1:1<=n)(hn:4*n+4<=ws.length)(e:UInt64)(k:Nat)(hk:k<4294967296)(v:Value)(x:LB)(hm:x.length<=65536):Tri prog 190 [ptv c,dZ e,.int .u32 (k:Int),v] Hc (fun w=>Rd (Hc.map Prod.fst) w 1 v (cbs x)) (fun r H=>∃ Hs,Sl 5 1 r (cbs (dY (Rg.enc ws n) e k x)) Hs/\H=Hs++Hc):=by
 have hE:=fun x (hx:x.length=16)=>aOX hC hw4 hws h1 hn x hx;have hxl:=mJ (E:=Rg.enc ws n) (fun x=>Rg.enc_len ..) e k x;refine Tri.mt func190 ntmps190 fun w hw=>?_;obtain⟨a,la,ca,rfl,hl1,hc1,hr1⟩:=hw.get;rw [aI,Nat.mul_one] at hl1;subst hl1;have hY:One (Value.slice a x.length ca):=⟨rfl⟩;refine W.j fun b_=>?_;refine SW.cut [] [b_] (fun x:Value×Hp=>[(9,x.1)]) (fun x=>x.2) (fun y=>Sl 5 1 y.1 (cbs (dY (Rg.enc ws n) e k x)) y.2) ?_ ?_
 ·refine W.k ?_;refine cI [0,1,2,10,13,14] [b_] (fun x:Nat×Value×Hp×LB=>[(9,x.2.1),(15,.int .i64 (x.1:Int))]) (fun x=>x.2.2.1++[(b_,cl (cbs x.2.2.2) 22)]) (fun y=>x.length-y.1)
   (fun y=>y.1<=x.length/\Sl 5 1 y.2.1 (cbs ((dY (Rg.enc ws n) e k x).take y.1)) y.2.2.1/\y.2.2.2.length=16/\(y.1%16≠0->y.2.2.2=Rg.enc ws n (pZ e k (y.1/16)))) (0,.slice none 0 0,[],List.replicate 16 0) ⟨Nat.zero_le _,Sl.nil _ _,rfl,fun h=>absurd rfl h⟩ ?_
  rintro⟨i,v2,H2,s⟩ ⟨hi,h2,hs16,hs⟩;dsimp only at hi h2 hs16 hs |-;have h21:=h2.isOne;have hsc:(cbs s).length=16:=by rw [aI,hs16]
  by_cases h:i<x.length
  ·obtain⟨b1,o1,l1,T1,z1,rfl,hb1,hk1,hy1⟩:=hr1 oQ;have g1:=aBl hy1 (aA h);have gx:x.getD i 0=x[i]:=by rw [aE,aA h];rfl
   have hat:=aMc (E:=Rg.enc ws n) (fun x=>Rg.enc_len ..) e k x h;rw [gx] at hat;generalize x[i]=y at *;have hca:=fun s' (h16:s'.length=16)=>aAa (x:=s') (k:=i%16) oQ [];simp only [aG] at hca;have hs16':=Rg.enc_len ws n (pZ e k (i/16));have hec:(cbs (Rg.enc ws n (pZ e k (i/16)))).length=16:=by rw [aI,hs16']
   have g2:=hca _ hs16';clear hca;have hxt:((dY (Rg.enc ws n) e k x).take i).length=i:=by rw [aH];omega
   have hxn:(dY (Rg.enc ws n) e k x).take (i+1)=(dY (Rg.enc ws n) e k x).take i++[y ^^^ (Rg.enc ws n (pZ e k (i/16))).getD (i%16) 0]:=by rw [aY,hat];rfl
   have hb1:∀ z:UInt8,bV (fun i=>some (i*1,1)) (zs [.int .u8 0] 1) [(0,.int .u8 (z.toNat:Int))]=some (cbs [z]):=fun z=>rfl;have hnx:∀ z:UInt8,(i+1)%16≠0->Rg.enc ws n (pZ e k (i/16))=Rg.enc ws n (pZ e k ((i+1)/16)):=fun _ h=>by rw [show (i+1)/16=i/16 by omega]
   rcases fS (i%16) with h0|h0;case' inl=>
    refine W.k ?_;refine W.cw (aHg e k (i/16) hk oQ) ?_;refine aF (hE _ (aCp e k (i/16))) ?_;rintro _ Hc ⟨rfl,rfl⟩
   case' inr=>
    have hs':=hs oQ;subst hs'
   all_goals
    generalize Rg.enc ws n (pZ e k (i/16))=s' at *;have hbz:=hb1 (y ^^^ s'.getD (i%16) 0);clear hb1;refine W.k fun b_=>?_;refine W.ap h2 (ys:=cbs [y ^^^ s'.getD (i%16) 0]) (mm:=1) (fun w2 hs=>(Sl.own 5 1 b_ (xs:=cbs [y ^^^ s'.getD (i%16) 0]) rfl).srcAt hs inferInstance) (fun v3 H3 h3=>?_) (hys:=rfl) (hbytes:=by rw [aI,hxt,aI];simp only [aW,List.length_nil];omega);have h31:=h3.isOne;rw [<-iW,<-hxn] at h3;refine W.k ?_;refine aN.mk (i+1,v3,H3,s') ?_;exact⟨h,h3,hs16',hnx 0⟩
  have:i=x.length:=oQ;subst this;rw [aK oQ] at h2;refine W.k ?_;refine bS.mk (v2,H2) ?_;exact h2
 rintro⟨v2,H2⟩ h2;dsimp only at h2 |-;have h21:=h2.isOne;refine W.k ?_;refine Fin.to (H2++Hc) ?_;exact F.f1 ⟨H2,h2,rfl⟩
end
namespace Ae
set_option maxRecDepth 100000
theorem B_eq(x:UInt8):Rg.B x=Aes.S x:=by unfold Rg.B Aes.S;rw [sub_eq]
theorem T_eq(x:UInt8):Rg.T x=Gf.twice x:=twL_at x
theorem subT_eq(w:LB):Rg.subT Rg.subL w=Aes.subW w:=by unfold Rg.subT Aes.subW;rw [sub_eq];rfl
def pwN:Nat->UInt8
 | 0=>1
 | m+1=>if (4+m)%4=0 then Gf.twice (pwN m) else pwN m
theorem pwN_eq:∀ m,m<41->m%4=0->pwN m=Gf.pow 2 ((4+m)/4-1):=by decide +kernel
theorem grow_eq(ws:LL)(hl:ws.length=4):∀ m,m<=40->Rg.grow Rg.subL Rg.twL 4 ws m=(Aes.grow 4 ws m,pwN m)
 | 0,_=>rfl
 | m+1,h=>by
  have hN:∀ w,Rg.nextW Rg.subL w (pwN m) (4+m) 4=Aes.nextW w (4+m) 4:=fun w=>by
   unfold Rg.nextW Aes.nextW;rw [if_neg (show ¬ (6<4/\(4+m)%4=4) by omega),if_neg (show ¬ (4=8/\(4+m)%8=4) by omega)];by_cases hm:(4+m)%4=0
   ·rw [if_pos hm,if_pos hm,subT_eq,pwN_eq m oQ oQ]
   rw [if_neg hm,if_neg hm]
  have hP:Rg.nextP Rg.twL (pwN m) (4+m) 4=pwN (m+1):=by unfold Rg.nextP;rw [twL_at];rfl
  unfold Rg.grow Aes.grow;rw [grow_eq ws hl m oQ,hl,hN,hP]
theorem sched_eq(k:LB)(h:k.length=16):Rg.sched k=Aes.sched k:=by unfold Rg.sched Aes.sched;rw [h];rw [grow_eq _ (by unfold Aes.keyW;simp) _ dQ]
theorem getD_map{f:Nat->UInt8}{k:Nat}(h:k<16):((List.range 16).map f).getD k 0=f k:=by rw [aE,aL,eI h];rfl
def tp(i:Nat):Nat:=i%4*4+i/4
theorem mixN_at(x:LB)(hx:x.length=16)(k:Nat)(hk:k<16):(Aes.mixX x).getD k 0=Aes.mixK ((x.drop (4*(k/4))).take 4) (k%4):=by
 have e:Aes.mixX x=(List.range 16).map fun k=>Aes.mixK ((x.drop (4*(k/4))).take 4) (k%4):=by unfold Aes.mixX Aes.mixN;rw [cQ oQ,aG];rfl
 rw [e,getD_map hk]
theorem col_at(x:LB)(c j:Nat)(hj:j<4):((x.drop (4*c)).take 4).getD j 0=x.getD (4*c+j) 0:=by rw [aE,bD,if_pos hj,bH,aE]
theorem mix8(a b c d y z:UInt8):a ^^^ b ^^^ c ^^^ d ^^^ y ^^^ Gf.twice (y ^^^ z)=Gf.twice y ^^^ Gf.twice z ^^^ (a ^^^ b ^^^ c ^^^ d ^^^ y):=by rw [twice_x];exact vV ..
theorem subX_at(x:LB){k:Nat}(h:k<16):(Aes.subX x).getD k 0=Aes.S (x.getD k 0):=getD_map h
theorem shiftX_at(x:LB){k:Nat}(h:k<16):(Aes.shiftX x).getD k 0=x.getD ((k+4*(k%4))%16) 0:=getD_map h
theorem keyX_at(ws:LL)(r:Nat)(x:LB){k:Nat}(h:k<16):(Aes.keyX ws r x).getD k 0=x.getD k 0 ^^^ ws.flatten.getD ((4*r+k/4)*4+k%4) 0:=getD_map h
theorem eS_eq(x:LB)(s:Nat->UInt8)(hs:∀ i,i<16->s i=x.getD (tp i) 0)(i:Nat)(hi:i<16):Rg.eS s i=(Aes.shiftX (Aes.subX x)).getD (tp i) 0:=by
 unfold Rg.eS;have ht:tp i<16:=by unfold tp;omega
 have hk:∀ i,i<16->tp (i/4*4+(i%4+i/4)%4)=(tp i+4*(tp i%4))%16:=dQ;rw [B_eq,hs _ oQ,shiftX_at _ ht,subX_at _ oQ,hk i hi]
theorem eM_eq(x:LB)(hx:x.length=16)(s:Nat->UInt8)(hs:∀ i,i<16->s i=x.getD (tp i) 0)(i:Nat)(hi:i<16):Rg.eM s i=(Aes.mixX x).getD (tp i) 0:=by
 have ht:tp i<16:=by unfold tp;omega
 unfold Rg.eM;rw [mixN_at x hx _ ht,T_eq,T_eq,hs i hi,hs _ oQ,hs _ oQ,hs _ oQ];unfold Aes.mixK;rw [col_at _ _ 0 dQ,col_at _ _ 1 dQ,col_at _ _ 2 dQ,col_at _ _ 3 dQ,col_at _ _ (tp i%4) oQ,col_at _ _ ((tp i%4+1)%4) oQ,mix8];have h1:tp i/4=i%4:=by unfold tp;omega
 have h2:tp i%4=i/4:=by unfold tp;omega
 have e0:tp i=4*(i%4)+i/4:=by unfold tp;omega
 have e1:tp ((i/4+1)%4*4+i%4)=4*(i%4)+(i/4+1)%4:=by unfold tp;omega
 have e2:tp ((i/4+2)%4*4+i%4)=4*(i%4)+(i/4+2)%4:=by unfold tp;omega
 have e3:tp ((i/4+3)%4*4+i%4)=4*(i%4)+(i/4+3)%4:=by unfold tp;omega
 rw [h1,h2,e0,e1,e2,e3];generalize hc:4*(i%4)=c;have key:∀ a b c d:UInt8,a ^^^ b ^^^ c ^^^ d ^^^ a=b ^^^ c ^^^ d:=fun a b c d=>by rw [vV (a ^^^ b ^^^ c ^^^ d) a,jH (a ^^^ b),jH a,<-jH a a,UInt8.xor_self,UInt8.zero_xor,jH b]
 have sum4:∀ f:Nat->UInt8,∀ r,r<4->f 0 ^^^ f 1 ^^^ f 2 ^^^ f 3 ^^^ f r=f ((r+1)%4) ^^^ f ((r+2)%4) ^^^ f ((r+3)%4):=fun f r hr=>by
  have c3:∀ x y z w:UInt8,x ^^^ y ^^^ z ^^^ w=y ^^^ z ^^^ w ^^^ x:=fun x y z w=>by rw [jH (x ^^^ y),jH x,vV x,<-jH y]
  rcases (by omega:r=0\/r=1\/r=2\/r=3) with rfl|rfl|rfl|rfl
  ·exact key (f 0) (f 1) (f 2) (f 3)
  ·rw [c3 (f 0)];exact key (f 1) (f 2) (f 3) (f 0)
  ·rw [c3 (f 0),c3 (f 1)];exact key (f 2) (f 3) (f 0) (f 1)
  rw [c3 (f 0),c3 (f 1),c3 (f 2)];exact key (f 3) (f 0) (f 1) (f 2)
 rw [show x.getD (c+0) 0 ^^^ x.getD (c+1) 0 ^^^ x.getD (c+2) 0 ^^^ x.getD (c+3) 0 ^^^ x.getD (c+i/4) 0=_ from sum4 (fun j=>x.getD (c+j) 0) (i/4) oQ];simp only [jH]
theorem st_eq(ws:LL)(R:Nat)(x:LB):∀ n,n<R->∀ i,i<16->Rg.st ws R x n i=(Aes.rnds ws x n).getD (tp i) 0
 | 0,_,i,hi=>by show Rg.e0 ws x i=(Aes.keyX ws 0 x).getD (tp i) 0;rw [keyX_at _ _ _ (by unfold tp;omega)];unfold Rg.e0;congr 2;unfold tp;omega
 | n+1,hn,i,hi=>by show Rg.eA ws (n+1) (Rg.eT R (n+1) (Rg.st ws R x n)) i=(Aes.keyX ws (n+1) (Aes.mixX (Aes.shiftX (Aes.subX (Aes.rnds ws x n))))).getD (tp i) 0;rw [keyX_at _ _ _ (by unfold tp;omega)];unfold Rg.eA Rg.eT;rw [if_pos hn,eM_eq _ (by unfold Aes.shiftX;simp) _ (eS_eq _ _ (st_eq ws R x n oQ)) i hi];congr 2;unfold tp;omega
theorem enc_eq(ws:LL)(n:Nat)(hn:1<=n)(x:LB):Rg.enc ws n x=Aes.enc ws n x:=by
 obtain⟨m,rfl⟩:∃ m,n=m+1:=⟨n-1,oQ⟩;unfold Rg.enc fnL Aes.enc Aes.keyX;apply eJ;intro k hk;have hk:=eK.1 hk;show Rg.eA ws (m+1) (Rg.eT (m+1) (m+1) (Rg.st ws (m+1) x m)) (k%4*4+k/4)=Aes.keyF ws (m+1) (Aes.shiftX (Aes.subX (Aes.rnds ws x (m+1-1)))) k;unfold Rg.eA Rg.eT Aes.keyF;rw [if_neg oQ,eS_eq _ _ (st_eq ws (m+1) x m oQ) _ oQ,Nat.add_sub_cancel];congr 2
 ·unfold tp;omega
 omega
theorem encs(k:LB)(h:k.length=16)(n:Nat)(hn:1<=n):Rg.enc (Rg.sched k) n=Aes.enc (Aes.sched k) n:=by funext x;rw [sched_eq k h,enc_eq _ _ hn]
end Ae
end Go.Proofs.YtdfclocfackkmaaGreat
