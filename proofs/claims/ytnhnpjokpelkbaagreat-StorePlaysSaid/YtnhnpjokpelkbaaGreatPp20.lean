/- The document's AES, and its stream. -/
import Derived.Test.YtnhnpjokpelkbaaGreatPp19
import Derived.Test.YtnhnpjokpelkbaaGreatPp16
set_option linter.unusedVariables false
set_option linter.unusedSimpArgs false
set_option linter.unusedSectionVars false
set_option maxHeartbeats 8000000
namespace Go.Proofs.YtnhnpjokpelkbaaGreat
open Go Go.Proofs.Tryz
section
attribute [local irreducible] SW SL SQ SH SA SS Pu Fin bT aQ
def fnL(h:Nat→UInt8):List UInt8:=(List.range 16).map h
theorem aHl(h:Nat→UInt8):(fnL h).length=16:=by simp [fnL]
theorem iO(h:Nat→UInt8):(cbs (fnL h)).length=16:=by rw [aI,aHl]
theorem uU(h:Nat→UInt8){i:Nat}(hi:i<16):(cbs (fnL h))[i]?=some (.int .u8 ((h i).toNat:Int)):=by
 unfold fnL cbs
 rw [gQ,aJ,eN hi]
 rfl
theorem aAV{h g:Nat→UInt8}(e:∀ i,i<16→h i=g i):fnL h=fnL g:=by
 unfold fnL
 exact eH fun i hi=>e i (eP.1 hi)
theorem xD{h g:Nat→UInt8}{i:Nat}(v:UInt8)(hi:i<16)(hv:g i=v)(e:∀ j,j<16→j≠i→g j=h j):(cbs (fnL h)).set i (.int .u8 (v.toNat:Int))=cbs (fnL g):=by
 apply cB
 intro j
 rw [dT]
 by_cases hj:j<16
 ·rw [uU g hj]
  by_cases hij:i=j
  ·subst hij
   rw [if_pos rfl,if_pos (by rw [iO];exact hi),hv]
  ·rw [if_neg hij,uU h hj,e j hj (Ne.symm hij)]
 ·rw [bB (by rw [iO];omega),bB (by rw [iO];omega)]
  split
  ·split
   ·rename_i h1;rw [iO] at h1;omega
   ·rfl
  ·rfl
namespace Rg
def B(x:UInt8):UInt8:=subL.getD x.toNat 0
def T(x:UInt8):UInt8:=twL.getD x.toNat 0
def e0(ws:List (List UInt8))(x:List UInt8)(i:Nat):UInt8:=x.getD ((i%4)*4+i/4) 0 ^^^ ws.flatten.getD ((i%4)*4+i/4) 0
def eS(s:Nat→UInt8)(i:Nat):UInt8:=B (s (i/4*4+(i%4+i/4)%4))
def eM(t:Nat→UInt8)(i:Nat):UInt8:=T (t i) ^^^ T (t ((i/4+1)%4*4+i%4)) ^^^ t ((i/4+1)%4*4+i%4) ^^^ t ((i/4+2)%4*4+i%4) ^^^ t ((i/4+3)%4*4+i%4)
def eA(ws:List (List UInt8))(n:Nat)(t:Nat→UInt8)(i:Nat):UInt8:=t i ^^^ ws.flatten.getD ((4*n+i%4)*4+i/4) 0
def eT(R n:Nat)(s:Nat→UInt8):Nat→UInt8:=if n<R then eM (eS s) else eS s
def st(ws:List (List UInt8))(R:Nat)(x:List UInt8):Nat→Nat→UInt8
 | 0=>e0 ws x
 | n+1=>eA ws (n+1) (eT R (n+1) (st ws R x n))
def eO(s:Nat→UInt8)(k:Nat):UInt8:=s (k%4*4+k/4)
def enc(ws:List (List UInt8))(R:Nat)(x:List UInt8):List UInt8:=fnL (eO (st ws R x R))
theorem enc_len(ws:List (List UInt8))(R:Nat)(x:List UInt8):(enc ws R x).length=16:=aHl _
end Rg
def vW(k:Nat)(g h:Nat→UInt8)(i:Nat):UInt8:=if i<k then g i else h i
theorem aIw(g h:Nat→UInt8):fnL (vW 0 g h)=fnL h:=aAV fun i _=>by unfold vW;rw [if_neg oQ]
theorem aCr(g h:Nat→UInt8):fnL (vW 16 g h)=fnL g:=aAV fun i hi=>by unfold vW;rw [if_pos hi]
theorem aCs{g h:Nat→UInt8}{k:Nat}(hk:k<16):(cbs (fnL (vW k g h))).set k (.int .u8 ((g k).toNat:Int))=cbs (fnL (vW (k+1) g h)):=
 xD _ hk (by unfold vW;rw [if_pos oQ]) fun j hj hne=>by
  unfold vW
  by_cases h:j<k
  ·rw [if_pos h,if_pos oQ]
  ·rw [if_neg h,if_neg oQ]
def aBw(k:Nat)(g h:Nat→UInt8)(i:Nat):UInt8:=if i%4*4+i/4<k then g i else h i
theorem aFe(g h:Nat→UInt8):fnL (aBw 16 g h)=fnL g:=aAV fun i hi=>by unfold aBw;rw [if_pos oQ]
theorem aFf{g h:Nat→UInt8}{k:Nat}(hk:k<16):(cbs (fnL (aBw k g h))).set (k%4*4+k/4) (.int .u8 ((g (k%4*4+k/4)).toNat:Int))=cbs (fnL (aBw (k+1) g h)):=
 xD _ oQ (by unfold aBw;rw [if_pos oQ]) fun j hj hne=>by
  unfold aBw
  by_cases h:j%4*4+j/4<k
  ·rw [if_pos h,if_pos oQ]
  ·rw [if_neg h,if_neg oQ]
section
variable {c n:Nat}{ws:List (List UInt8)}
abbrev rcO(wv:Value)(n:Nat):Obj:=cl (rcL (cbs Rg.subL) (cbs Rg.twL) wv (.int .i64 (n:Int))) 216
theorem aOg(wv:Value)(t:Nat→UInt8):Tri prog 268 [ptv c,.agg (cbs (fnL t)).toArray] [(c,rcO wv n)] (fun _=>True)
  (fun v H=>v=.agg (cbs (fnL (Rg.eM t))).toArray∧H=[(c,rcO wv n)]):=by
 refine Tri.mk func268 rfl ntmps268 rfl fun w hw=>?_
 have hl0:=iO t
 have hL:=iO (Rg.eM t)
 have l1:(cbs Rg.subL).length=256:=by rw [aI,Rg.subL_len]
 have l2:(cbs Rg.twL).length=256:=by rw [aI,Rg.twL_len]
 have hT:∀ x:UInt8,(rcL (cbs Rg.subL) (cbs Rg.twL) wv (.int .i64 (n:Int)))[256+x.toNat]?=some (.int .u8 ((Rg.T x).toNat:Int)):=fun x=>by
  have hx:x.toNat<256:=x.toNat_lt
  rw [aMR l1 l2 hx]
  have:=zX (x:=Rg.twL) (k:=x.toNat) (by rw [Rg.twL_len];exact hx) []
  rwa [aH] at this
 clear l1 l2
 unfold rcO
 generalize rcL (cbs Rg.subL) (cbs Rg.twL) wv (.int .i64 (n:Int))=RL at *
 refine W.j fun _ _ b_=>?_
 refine SW.cut [4,5] [b_] (fun _:Unit=>[]) (fun _=>[(b_,cl (cbs (fnL (Rg.eM t))) 383)]) (fun _=>True) ?_ ?_
 ·refine W.k ?_
  refine cK [0,3,4,5] [b_] (fun k:Nat=>[(6,.int .i64 (k:Int))]) (fun k=>[(b_,cl (cbs (fnL (aBw (4*k) (Rg.eM t) fun _=>0))) 383)]) (fun k=>4-k) (fun k=>k≤4) 0 (Nat.zero_le _) ?_
  intro k hk
  by_cases h:k<4
  ·refine W.j ?_
   refine SW.cut [0,3,4,5,6] [b_] (fun _:Unit=>[]) (fun _=>[(b_,cl (cbs (fnL (aBw (4*(k+1)) (Rg.eM t) fun _=>0))) 383)]) (fun _=>True) ?_ ?_
   ·refine W.k ?_
    refine cK [0,3,4,5,6] [b_] (fun r:Nat=>[(7,.int .i64 (r:Int))]) (fun r=>[(b_,cl (cbs (fnL (aBw (4*k+r) (Rg.eM t) fun _=>0))) 383)]) (fun r=>4-r) (fun r=>r≤4) 0 (Nat.zero_le _) ?_
    intro r hr
    by_cases hr4:r<4
    ·have g0:=uU t (i:=r*4+k) oQ
     have g1:=uU t (i:=(r+1)%4*4+k) oQ
     have g2:=uU t (i:=(r+2)%4*4+k) oQ
     have g3:=uU t (i:=(r+3)%4*4+k) oQ
     have hA:=hT (t (r*4+k))
     have hB:=hT (t ((r+1)%4*4+k))
     have hs:=aFf (g:=Rg.eM t) (h:=fun _=>0) (k:=4*k+r) oQ
     rw [show (4*k+r)%4*4+(4*k+r)/4=r*4+k by omega] at hs
     have u0:=(t (r*4+k)).toNat_lt
     have u1:=(t ((r+1)%4*4+k)).toNat_lt
     have hlt:r*4+k<(cbs (fnL (aBw (4*k+r) (Rg.eM t) fun _=>0))).length:=by rw [iO];omega
     have hem:Rg.eM t (r*4+k)=Rg.T (t (r*4+k)) ^^^ Rg.T (t ((r+1)%4*4+k)) ^^^ t ((r+1)%4*4+k) ^^^ t ((r+2)%4*4+k) ^^^ t ((r+3)%4*4+k):=by
      unfold Rg.eM
      rw [show (r*4+k)/4=r by omega,show (r*4+k)%4=k by omega]
     rw [hem] at hs
     refine W.k ?_
     (refine SW.l [] [0,1,2,3,4,5,6,7,8,9,10,11,12,13,14] ?_)
     (refine SW.l [35] [0,1,2,3,4,5,6,7,8,9,10,11,12,13,14,15,16,17,18,19,20,21,22,23,24,25,26,27,28,29,30,31,32,33,34] ?_;refine bO 35 ?_;refine W.i ?_;refine SS.dn ?_)
     rw [hs]
     refine W.k ?_
     refine aQ.mk (r+1) ?_
     omega
    ·have:r=4:=oQ
     subst this
     refine W.k ?_
     refine bT.mk () ?_
     trivial
   rintro _ -
   refine W.k ?_
   refine aQ.mk (k+1) ?_
   omega
  ·have:k=4:=oQ
   subst this
   rw [show 4*4=16 from rfl,aFe]
   refine W.k ?_
   refine bT.mk () ?_
   trivial
 rintro _ -
 refine W.k ?_
 exact F.cH [(c,cl RL 216)] _ ⟨rfl,rfl⟩
theorem aOd{Hc:Hp}(hC:aEK c n ws Hc)(hw4:∀ y∈ws,y.length=4)(hws:ws.length≤1000)(h1:1≤n)(hn:4*n+4≤ws.length)(x:List UInt8)(hx:x.length=16):Tri prog 245 [ptv c,.agg (cbs x).toArray] Hc (fun _=>True)
  (fun v H=>v=.agg (cbs (Rg.enc ws n x)).toArray∧H=Hc):=by
 obtain⟨wv,Hs,hS,rfl⟩:=hC
 have hfl:=dI hw4
 have hmx:=fun t=>aOg (c:=c) (n:=n) wv t
 have hl16:(cbs x).length=16:=by rw [aI,hx]
 have l1:(cbs Rg.subL).length=256:=by rw [aI,Rg.subL_len]
 have l2:(cbs Rg.twL).length=256:=by rw [aI,Rg.twL_len]
 have hB:∀ x:UInt8,(rcL (cbs Rg.subL) (cbs Rg.twL) wv (.int .i64 (n:Int)))[x.toNat]?=some (.int .u8 ((Rg.B x).toNat:Int)):=fun x=>by
  have hx:x.toNat<256:=x.toNat_lt
  rw [aMQ l1 l2 hx]
  have:=zX (x:=Rg.subL) (k:=x.toNat) (by rw [Rg.subL_len];exact hx) []
  rwa [aH] at this
 have hW:=aKt l1 l2 (ws:=wv) (r:=.int .i64 (n:Int))
 have hR:=aMP l1 l2 (ws:=wv) (r:=.int .i64 (n:Int))
 clear l1 l2
 unfold rcO at hmx
 generalize rcL (cbs Rg.subL) (cbs Rg.twL) wv (.int .i64 (n:Int))=RL at *
 rcases hS with ⟨-,hz,-⟩|⟨bw,len,cap,junk,rfl,hxl,hj,hlc,rfl⟩
 ·have:=congrArg List.length hz
  rw [aI,hfl] at this
  simp at this;omega
 rw [aI,hfl] at hxl
 have hlen:ws.length=len:=oQ
 subst hlen
 refine Tri.mk func245 rfl ntmps245 rfl fun w hw=>?_
 refine W.j fun _ _ b_=>?_
 rename_i b3 b4
 generalize b_=b5
 refine SW.cut [0,4,5] [b5] (fun _:Unit=>[]) (fun _=>[(b5,cl (cbs (fnL (Rg.st ws n x 0))) 383)]) (fun _=>True) ?_ ?_
 ·refine W.k ?_
  refine cK [0,3,4,5] [b5] (fun k:Nat=>[(6,.int .i64 (k:Int))]) (fun k=>[(b5,cl (cbs (fnL (aBw k (Rg.e0 ws x) fun _=>0))) 383)]) (fun k=>16-k) (fun k=>k≤16) 0 (Nat.zero_le _) ?_
  intro k hk
  by_cases h:k<16
  ·have g0:=zX (x:=x) (k:=k) oQ []
   rw [aH] at g0
   have g1:=zX (x:=ws.flatten) (k:=k/4*4+k%4) (by rw [hfl];omega) junk
   have hs:=aFf (g:=Rg.e0 ws x) (h:=fun _=>0) (k:=k) h
   have hem:Rg.e0 ws x (k%4*4+k/4)=x.getD k 0 ^^^ ws.flatten.getD (k/4*4+k%4) 0:=by
    unfold Rg.e0
    rw [show (k%4*4+k/4)%4*4+(k%4*4+k/4)/4=k by omega,show k/4*4+k%4=k by omega]
   rw [hem] at hs
   have hlt:k%4*4+k/4<(cbs (fnL (aBw k (Rg.e0 ws x) fun _=>0))).length:=by rw [iO];omega
   refine W.k ?_
   (refine SW.l [21] [0,1,2,3,4,5,6,7,8,9,10,11,12,13,14,15,16,17,18,19,20] ?_;refine bO 21 ?_;refine W.i ?_;refine SS.dn ?_)
   rw [hs]
   refine W.k ?_
   refine aQ.mk (k+1) ?_
   omega
  ·have:k=16:=oQ
   subst this
   rw [aFe,show Rg.e0 ws x=Rg.st ws n x 0 from rfl]
   refine W.k ?_
   refine bT.mk () ?_
   trivial
 rintro _ -
 refine W.j ?_
 refine SW.cut [4,5] [b5] (fun _:Unit=>[]) (fun _=>[(b5,cl (cbs (fnL (Rg.st ws n x n))) 383)]) (fun _=>True) ?_ ?_
 ·refine W.k ?_
  refine cK [0,4,5] [b5] (fun m:Nat=>[(7,.int .i64 ((m+1:Nat):Int))]) (fun m=>[(b5,cl (cbs (fnL (Rg.st ws n x m))) 383)]) (fun m=>n-m) (fun m=>m≤n) 0 (Nat.zero_le _) ?_
  intro m hm
  by_cases hmn:m<n
  ·obtain⟨s,hst0⟩:∃ s,Rg.st ws n x m=s:=⟨_,rfl⟩
   have hst:Rg.st ws n x (m+1)=Rg.eA ws (m+1) (Rg.eT n (m+1) s):=by rw [← hst0];rfl
   rw [hst0]
   clear hst0
   refine W.j ?_
   refine SW.block ?_
   refine W.j fun b_=>?_
   refine SW.cut [0,4,5,7,8] [b_] (fun _:Unit=>[]) (fun _=>[(b_,cl (cbs (fnL (Rg.eS s))) 383)]) (fun _=>True) ?_ ?_
   ·refine W.k ?_
    refine cK [0,4,5,7,8] [b_] (fun r:Nat=>[(9,.int .i64 (r:Int))]) (fun r=>[(b_,cl (cbs (fnL (vW (r*4) (Rg.eS s) fun _=>0))) 383)]) (fun r=>4-r) (fun r=>r≤4) 0 (Nat.zero_le _) ?_
    intro r hr
    by_cases hr4:r<4
    ·refine W.j ?_
     refine SW.cut [0,4,5,7,8,9] [b_] (fun _:Unit=>[]) (fun _=>[(b_,cl (cbs (fnL (vW ((r+1)*4) (Rg.eS s) fun _=>0))) 383)]) (fun _=>True) ?_ ?_
     ·refine W.k ?_
      refine cK [0,4,5,7,8,9] [b_] (fun k:Nat=>[(10,.int .i64 (k:Int))]) (fun k=>[(b_,cl (cbs (fnL (vW (r*4+k) (Rg.eS s) fun _=>0))) 383)]) (fun k=>4-k) (fun k=>k≤4) 0 (Nat.zero_le _) ?_
      intro k hk
      by_cases hk4:k<4
      ·have g0:=uU s (i:=r*4+(k+r)%4) oQ
       have u0:=(s (r*4+(k+r)%4)).toNat_lt
       have g1:=hB (s (r*4+(k+r)%4))
       have hs:=aCs (g:=Rg.eS s) (h:=fun _=>0) (k:=r*4+k) oQ
       have hem:Rg.eS s (r*4+k)=Rg.B (s (r*4+(k+r)%4)):=by
        unfold Rg.eS
        rw [show (r*4+k)/4=r by omega,show (r*4+k)%4=k by omega]
       rw [hem] at hs
       have hlt:r*4+k<(cbs (fnL (vW (r*4+k) (Rg.eS s) fun _=>0))).length:=by rw [iO];omega
       refine W.k ?_
       (refine SW.l [17] [0,1,2,3,4,5,6,7,8,9,10,11,12,13,14,15,16] ?_;refine bO 17 ?_;refine W.i ?_;refine SS.dn ?_)
       rw [hs]
       refine W.k ?_
       refine aQ.mk (k+1) ?_
       omega
      ·have:k=4:=oQ
       subst this
       rw [show r*4+4=(r+1)*4 by omega]
       refine W.k ?_
       refine bT.mk () ?_
       trivial
     rintro _ -
     refine W.k ?_
     refine aQ.mk (r+1) ?_
     omega
    ·have:r=4:=oQ
     subst this
     rw [show 4*4=16 from rfl,aCr]
     refine W.k ?_
     refine bT.mk () ?_
     trivial
   rintro _ -
   have hE:=iO (Rg.eS s)
   have hM:=iO (Rg.eM (Rg.eS s))
   rcases mY (m+1) n with hmn2|hmn2
   case' inl=>
    have heT:Rg.eT n (m+1) s=Rg.eM (Rg.eS s):=by unfold Rg.eT;rw [if_pos hmn2]
    refine W.j ?_
    refine W.cq (hmx _) ?_
    rw [← heT] at hM ⊢
    refine W.j ?_
   case' inr=>
    have heT:Rg.eT n (m+1) s=Rg.eS s:=by unfold Rg.eT;rw [if_neg oQ]
    rw [← heT]
    refine W.j ?_
   all_goals
    generalize Rg.eT n (m+1) s=u at *
    refine W.k ?_
    refine cK [0,4,5,7,8] [b5] (fun r:Nat=>[(11,.int .i64 (r:Int))]) (fun r=>[(b5,cl (cbs (fnL (vW (r*4) (Rg.eA ws (m+1) u) s))) 383)]) (fun r=>4-r) (fun r=>r≤4) 0 (Nat.zero_le _) ?_ (hG:=by rw [jR,aIw])
    intro r hr
    by_cases hr4:r<4
    ·refine W.j ?_
     refine SW.cut [0,4,5,7,8,11] [b5] (fun _:Unit=>[]) (fun _=>[(b5,cl (cbs (fnL (vW ((r+1)*4) (Rg.eA ws (m+1) u) s))) 383)]) (fun _=>True) ?_ ?_
     ·refine W.k ?_
      refine cK [0,4,5,7,8,11] [b5] (fun k:Nat=>[(12,.int .i64 (k:Int))]) (fun k=>[(b5,cl (cbs (fnL (vW (r*4+k) (Rg.eA ws (m+1) u) s))) 383)]) (fun k=>4-k) (fun k=>k≤4) 0 (Nat.zero_le _) ?_
      intro k hk
      by_cases hk4:k<4
      ·have g0:=uU u (i:=r*4+k) oQ
       have g1:=zX (x:=ws.flatten) (k:=(4*(m+1)+k)*4+r) (by rw [hfl];omega) junk
       have hs:=aCs (g:=Rg.eA ws (m+1) u) (h:=s) (k:=r*4+k) oQ
       have hem:Rg.eA ws (m+1) u (r*4+k)=u (r*4+k) ^^^ ws.flatten.getD ((4*(m+1)+k)*4+r) 0:=by
        unfold Rg.eA
        rw [show (r*4+k)/4=r by omega,show (r*4+k)%4=k by omega]
       rw [hem] at hs
       have hlt:r*4+k<(cbs (fnL (vW (r*4+k) (Rg.eA ws (m+1) u) s))).length:=by rw [iO];omega
       refine W.k ?_
       (refine SW.l [22] [0,1,2,3,4,5,6,7,8,9,10,11,12,13,14,15,16,17,18,19,20,21] ?_;refine bO 22 ?_;refine W.i ?_;refine SS.dn ?_)
       rw [hs]
       refine W.k ?_
       refine aQ.mk (k+1) ?_
       omega
      ·have:k=4:=oQ
       subst this
       rw [show r*4+4=(r+1)*4 by omega]
       refine W.k ?_
       refine bT.mk () ?_
       trivial
     rintro _ -
     refine W.k ?_
     refine aQ.mk (r+1) ?_
     omega
    ·have:r=4:=oQ
     subst this
     rw [show 4*4=16 from rfl,aCr,← hst]
     refine W.k ?_
     refine aQ.mk (m+1) ?_
     omega
  ·have:m=n:=oQ
   subst this
   refine W.k ?_
   refine bT.mk () ?_
   trivial
 rintro _ -
 have hO:∀ k,(Rg.eO (Rg.st ws n x n)) k=Rg.st ws n x n (k%4*4+k/4):=fun _=>rfl
 have hE2:fnL (Rg.eO (Rg.st ws n x n))=Rg.enc ws n x:=rfl
 have hL:=iO (Rg.eO (Rg.st ws n x n))
 generalize Rg.st ws n x n=s at *
 refine W.j fun b_=>?_
 refine SW.cut [4,13] [b_] (fun _:Unit=>[]) (fun _=>[(b_,cl (cbs (fnL (Rg.eO s))) 32)]) (fun _=>True) ?_ ?_
 ·refine W.k ?_
  refine cK [4,5,13] [b_] (fun k:Nat=>[(14,.int .i64 (k:Int))]) (fun k=>[(b_,cl (cbs (fnL (vW k (Rg.eO s) fun _=>0))) 32)]) (fun k=>16-k) (fun k=>k≤16) 0 (Nat.zero_le _) ?_
  intro k hk
  by_cases hk4:k<16
  ·have g0:=uU s (i:=k%4*4+k/4) oQ
   have hs:=aCs (g:=Rg.eO s) (h:=fun _=>0) (k:=k) hk4
   rw [hO k] at hs
   have hlt:k<(cbs (fnL (vW k (Rg.eO s) fun _=>0))).length:=by rw [iO];omega
   refine W.k ?_
   rw [hs]
   refine aQ.mk (k+1) ?_
   omega
  ·have:k=16:=oQ
   subst this
   rw [aCr]
   refine W.k ?_
   refine bT.mk () ?_
   trivial
 rintro _ -
 refine W.k ?_
 rw [← hE2]
 exact F.cH ((c,cl RL 216)::[(bw,cl (cbs ws.flatten++junk) 193)]) _ ⟨rfl,rfl⟩
end
end
section
section
variable {P:Program}{C:Ctx}{Q:Exit→Fr→Hp→Prop}{ρ:Fr}{H:Hp}{L rest:List Oper}{o:Oper}{d:Option Tmp}{ty:TypeId}{pos:String}{af:Array Edge}{g:Option (Nat×Bool)}{t t':TypeId}{d':Option Nat}{x y:Operand}{m q:Int}
theorem aLV(ho:o.op=.binOp .quo t x y t')(hx:ev ρ x=some (.int .u32 m))(hy:ev ρ y=some (.int .u32 q))(h0:0≤m)(h1:m<4294967296)(hn:0<q):Pu P C ρ H o (.int .u32 (m/q)):=
 aCv ho hx hy oQ (by
  rw [mM h0]
  have h2:0≤m/q:=vJ h0 oQ
  have h3:m/q≤m:=tG q h0
  rw [tD];omega)
theorem aNf(h:SL P C L Q rest (pt ρ d' (.int .u32 (m/q))) H)(hx:ev ρ x=some (.int .u32 m):=by exact rfl)(hy:ev ρ y=some (.int .u32 q):=by exact rfl)(h0:0≤m:=by omega)(h1:m<4294967296:=by omega)(hn:0<q:=by omega)(hg:gd L ρ ⟨d,.binOp .quo t x y t',ty,pos,af,g⟩=some true:=by exact rfl)(hd:dk C.n d=some d':=by exact rfl):SL P C L Q (⟨d,.binOp .quo t x y t',ty,pos,af,g⟩::rest) ρ H:=bP (aLV rfl hx hy h0 h1 hn) hg hd h
end
attribute [local irreducible] SW SL SQ SH SA SS Pu Fin bT aQ
def cF(e k l:Nat)(i:Nat):UInt8:=if i<8 then UInt8.ofNat (e/256^(7-i)) else if i<12 then UInt8.ofNat (k/256^(11-i)) else if i=12 then UInt8.ofNat (l/256) else if i=13 then UInt8.ofNat (l%256) else 0
theorem aO2(e:UInt64)(k l:Nat):fnL (cF e.toNat k l)=qD e k l:=by
 unfold qD Sha.beN fnL cF
 simp [bV]
 exact kL.1 (by simp)
def cS(e k l:Nat)(a b:Nat)(i:Nat):UInt8:=if i<8 then (if 8-a≤i then cF e k l i else 0) else if i<12 then (if 12-b≤i then cF e k l i else 0) else 0
theorem aGK(e:UInt64)(k l:Nat)(hk:k<4294967296)(hl:l<65536):Tri prog 246 [eG e,.int .u32 (k:Int),.int .i64 (l:Int)] [] (fun _=>True) (fun v H=>v=.agg (cbs (qD e k l)).toArray∧H=[]):=by
 refine Tri.mk func246 rfl ntmps246 rfl fun w hw=>?_
 have hV:e.toNat<18446744073709551616:=e.toNat_lt
 rw [← aO2]
 have hL:=iO (cF e.toNat k l)
 refine W.j fun _ b_=>?_
 rename_i b3
 rw [show eG e=.int .u64 ((e.toNat/256^0:Nat):Int) by simp [eG]]
 generalize e.toNat=E at *
 refine SW.cut [1,2,6,7] [b_] (fun _:Unit=>[]) (fun _=>[(b_,cl (cbs (fnL (cS E k l 8 0))) 32)]) (fun _=>True) ?_ ?_
 ·refine W.k ?_
  refine cK [1,2,6,7] [b_] (fun j:Nat=>[(0,.int .u64 ((E/256^j:Nat):Int)),(8,.int .i64 (7-(j:Int)))]) (fun j=>[(b_,cl (cbs (fnL (cS E k l j 0))) 32)]) (fun j=>8-j) (fun j=>j≤8) 0 (Nat.zero_le _) ?_
  intro j hj
  by_cases h:j<8
  ·haveI i0:eI (7-(j:Int)) (7-j):=⟨by omega⟩
   haveI i1:Cv .u8 (((E/256^j:Nat):Int)%256) ((UInt8.ofNat (E/256^j)).toNat:Int):=⟨by rw [uL,cY];omega⟩
   have hx:E/256^j≤E:=kK ..
   have hq:((E/256^(j+1):Nat):Int)=((E/256^j:Nat):Int)/256:=by rw [fE,← gS];rfl
   have hs:=xD (h:=cS E k l j 0) (g:=cS E k l (j+1) 0) (i:=7-j) (UInt8.ofNat (E/256^j)) oQ (by
    unfold cS cF
    rw [if_pos oQ,if_pos oQ,if_pos oQ,show 7-(7-j)=j by omega]) (fun i hi hne=>by
    unfold cS
    by_cases h8:i<8
    ·rw [if_pos h8,if_pos h8]
     by_cases h9:8-j≤i
     ·rw [if_pos h9,if_pos oQ]
     ·rw [if_neg h9,if_neg oQ]
    ·rw [if_neg h8,if_neg h8])
   have hlt:7-j<(cbs (fnL (cS E k l j 0))).length:=by rw [iO];omega
   generalize E/256^j=X at *
   refine W.k ?_
   rw [hs]
   refine aGk ?_
   refine W.k ?_
   rw [← hq,show (7:Int)-(j:Int)-1=7-((j+1:Nat):Int) by omega]
   refine aQ.mk (j+1) ?_
   omega
  ·have:j=8:=oQ
   subst this
   refine W.k ?_
   refine bT.mk () ?_
   trivial
 rintro _ -
 refine W.j ?_
 rw [show (.int .u32 (k:Int):Value)=.int .u32 ((k/256^0:Nat):Int) by simp]
 refine SW.cut [2,6,7] [b_] (fun _:Unit=>[]) (fun _=>[(b_,cl (cbs (fnL (cS E k l 8 4))) 32)]) (fun _=>True) ?_ ?_
 ·refine W.k ?_
  refine cK [2,6,7] [b_] (fun j:Nat=>[(1,.int .u32 ((k/256^j:Nat):Int)),(9,.int .i64 (11-(j:Int)))]) (fun j=>[(b_,cl (cbs (fnL (cS E k l 8 j))) 32)]) (fun j=>4-j) (fun j=>j≤4) 0 (Nat.zero_le _) ?_
  intro j hj
  by_cases h:j<4
  ·haveI i0:eI (11-(j:Int)) (11-j):=⟨by omega⟩
   haveI i1:Cv .u8 (((k/256^j:Nat):Int)%256) ((UInt8.ofNat (k/256^j)).toNat:Int):=⟨by rw [uL,cY];omega⟩
   have hx:k/256^j≤k:=kK ..
   have hq:((k/256^(j+1):Nat):Int)=((k/256^j:Nat):Int)/256:=by rw [fE,← gS];rfl
   have hs:=xD (h:=cS E k l 8 j) (g:=cS E k l 8 (j+1)) (i:=11-j) (UInt8.ofNat (k/256^j)) oQ (by
    unfold cS cF
    rw [if_neg oQ,if_pos oQ,if_pos oQ,if_neg oQ,if_pos oQ,show 11-(11-j)=j by omega]) (fun i hi hne=>by
    unfold cS
    by_cases h8:i<8
    ·rw [if_pos h8,if_pos h8]
    ·rw [if_neg h8,if_neg h8]
     by_cases h12:i<12
     ·rw [if_pos h12,if_pos h12]
      by_cases h9:12-j≤i
      ·rw [if_pos h9,if_pos oQ]
      ·rw [if_neg h9,if_neg oQ]
     ·rw [if_neg h12,if_neg h12])
   have hlt:11-j<(cbs (fnL (cS E k l 8 j))).length:=by rw [iO];omega
   generalize k/256^j=X at *
   refine W.k ?_
   rw [hs]
   refine aNf ?_
   refine W.k ?_
   rw [← hq,show (11:Int)-(j:Int)-1=11-((j+1:Nat):Int) by omega]
   refine aQ.mk (j+1) ?_
   omega
  ·have:j=4:=oQ
   subst this
   refine W.k ?_
   refine bT.mk () ?_
   trivial
 rintro _ -
 haveI i1:Cv .u8 ((l:Int)/256) ((UInt8.ofNat (l/256)).toNat:Int):=⟨by rw [uL,cY];omega⟩
 haveI i2:Cv .u8 ((l:Int)%256) ((UInt8.ofNat (l%256)).toNat:Int):=⟨by rw [uL,cY];omega⟩
 have hs1:=xD (h:=cS E k l 8 4) (g:=fun i=>if i=12 then cF E k l 12 else cS E k l 8 4 i) (i:=12) (UInt8.ofNat (l/256)) oQ rfl (fun i hi hne=>if_neg hne)
 have hs2:=xD (h:=fun i=>if i=12 then cF E k l 12 else cS E k l 8 4 i) (g:=cF E k l) (i:=13) (UInt8.ofNat (l%256)) oQ rfl (fun i hi hne=>by
  by_cases h12:i=12
  ·subst h12;rfl
  ·rw [if_neg h12]
   unfold cS
   by_cases h8:i<8
   ·rw [if_pos h8,if_pos oQ]
   ·rw [if_neg h8]
    by_cases hh:i<12
    ·rw [if_pos hh,if_pos oQ]
    ·rw [if_neg hh]
     unfold cF
     rw [if_neg h8,if_neg hh,if_neg h12,if_neg hne])
 have hlt1:12<(cbs (fnL (cS E k l 8 4))).length:=by rw [iO];omega
 have hlt2:13<(cbs (fnL fun i=>if i=12 then cF E k l 12 else cS E k l 8 4 i)).length:=by rw [iO];omega
 refine W.k ?_
 refine F.cH [] (cbs (fnL (cF E k l))) ⟨rfl,rfl⟩ (hl:=by rw [hs1,hs2])
theorem aIu{E:List UInt8→List UInt8}(hE:∀ x,(E x).length=16)(e:UInt64)(k n:Nat){i:Nat}(hi:i<16*n):(mF E e k n)[i]?=some ((E (qD e k (i/16))).getD (i%16) 0):=by
 induction n with
 | zero=>omega
 | succ n ih=>
  rw [aBp]
  have hl:=rV hE e k n
  by_cases h:i<16*n
  ·rw [aL oQ];exact ih h
  ·rw [aY oQ,hl,show i/16=n by omega,show i-16*n=i%16 by omega,aC,aA (by rw [hE];omega)]
   rfl
theorem aLy{E:List UInt8→List UInt8}(hE:∀ x,(E x).length=16)(e:UInt64)(k:Nat)(b:List UInt8){i:Nat}(hi:i<b.length):(dM E e k b)[i]?=some (b.getD i 0 ^^^ (E (qD e k (i/16))).getD (i%16) 0):=by
 unfold dM aBA
 have gx:b.getD i 0=b[i]:=by rw [aC,aA hi];rfl
 rw [eK,bE,if_pos hi,aIu hE e k _ oQ,aA hi,gx]
theorem aKm{c n:Nat}{ws:List (List UInt8)}{Hc:Hp}(hC:aEK c n ws Hc)(hw4:∀ y∈ws,y.length=4)(hws:ws.length≤1000)(h1:1≤n)(hn:4*n+4≤ws.length)(e:UInt64)(k:Nat)(hk:k<4294967296)(v:Value)(x:List UInt8)(hm:x.length≤65536) :
  Tri prog 207 [ptv c,eG e,.int .u32 (k:Int),v] Hc (fun w=>Rd (Hc.map Prod.fst) w 1 v (cbs x))
  (fun r H=>∃ Hs,Sl 5 1 r (cbs (dM (Rg.enc ws n) e k x)) Hs∧H=Hs++Hc):=by
 have hE:=fun x (hx:x.length=16)=>aOd hC hw4 hws h1 hn x hx
 have hxl:=mQ (E:=Rg.enc ws n) (fun x=>Rg.enc_len ..) e k x
 refine Tri.mk func207 rfl ntmps207 rfl fun w hw=>?_
 obtain⟨a,la,ca,rfl,hl1,hc1,hr1⟩:=hw.get
 rw [aI,Nat.mul_one] at hl1
 subst hl1
 have hY:One (Value.slice a x.length ca):=⟨rfl⟩
 refine W.j fun b_=>?_
 refine SW.cut [] [b_] (fun x:Value×Hp=>[(9,x.1)]) (fun x=>x.2) (fun y=>Sl 5 1 y.1 (cbs (dM (Rg.enc ws n) e k x)) y.2) ?_ ?_
 ·refine W.k ?_
  refine cK [0,1,2,10,13,14] [b_] (fun x:Nat×Value×Hp×List UInt8=>[(9,x.2.1),(15,.int .i64 (x.1:Int))]) (fun x=>x.2.2.1++[(b_,cl (cbs x.2.2.2) 32)]) (fun y=>x.length-y.1)
   (fun y=>y.1≤x.length∧Sl 5 1 y.2.1 (cbs ((dM (Rg.enc ws n) e k x).take y.1)) y.2.2.1∧y.2.2.2.length=16∧(y.1%16≠0→y.2.2.2=Rg.enc ws n (qD e k (y.1/16)))) (0,.slice none 0 0,[],List.replicate 16 0) ⟨Nat.zero_le _,Sl.nil _ _,rfl,fun h=>absurd rfl h⟩ ?_
  rintro⟨i,v2,H2,s⟩ ⟨hi,h2,hs16,hs⟩
  dsimp only at hi h2 hs16 hs ⊢
  have h21:=h2.isOne
  have hsc:(cbs s).length=16:=by rw [aI,hs16]
  by_cases h:i<x.length
  ·obtain⟨b1,o1,l1,T1,z1,rfl,hb1,hk1,hy1⟩:=hr1 oQ
   have g1:=aA9 hy1 (aA h)
   have gx:x.getD i 0=x[i]:=by rw [aC,aA h];rfl
   have hat:=aLy (E:=Rg.enc ws n) (fun x=>Rg.enc_len ..) e k x h
   rw [gx] at hat
   generalize x[i]=y at *
   have hca:=fun s' (h16:s'.length=16)=>zX (x:=s') (k:=i%16) oQ []
   simp only [aH] at hca
   have hs16':=Rg.enc_len ws n (qD e k (i/16))
   have hec:(cbs (Rg.enc ws n (qD e k (i/16)))).length=16:=by rw [aI,hs16']
   have g2:=hca _ hs16'
   clear hca
   have hxt:((dM (Rg.enc ws n) e k x).take i).length=i:=by rw [aG];omega
   have hxn:(dM (Rg.enc ws n) e k x).take (i+1)=(dM (Rg.enc ws n) e k x).take i++[y ^^^ (Rg.enc ws n (qD e k (i/16))).getD (i%16) 0]:=by rw [aZ,hat];rfl
   have hb1:∀ z:UInt8,bX (fun i=>some (i*1,1)) (zs [.int .u8 0] 1) [(0,.int .u8 (z.toNat:Int))]=some (cbs [z]):=fun z=>rfl
   have hnx:∀ z:UInt8,(i+1)%16≠0→Rg.enc ws n (qD e k (i/16))=Rg.enc ws n (qD e k ((i+1)/16)):=fun _ h=>by rw [show (i+1)/16=i/16 by omega]
   rcases fW (i%16) with h0|h0
   case' inl=>
    refine W.k ?_
    refine W.cw (aGK e k (i/16) hk oQ) ?_
    refine aF (hE _ (aCa e k (i/16))) ?_
    rintro _ Hc ⟨rfl,rfl⟩
   case' inr=>
    have hs':=hs oQ
    subst hs'
   all_goals
    generalize Rg.enc ws n (qD e k (i/16))=s' at *
    have hbz:=hb1 (y ^^^ s'.getD (i%16) 0)
    clear hb1
    refine W.k fun b_=>?_
    refine W.ap h2 (ys:=cbs [y ^^^ s'.getD (i%16) 0]) (mm:=1) (fun w2 hs=>(Sl.own 5 1 b_ (xs:=cbs [y ^^^ s'.getD (i%16) 0]) rfl).srcAt hs inferInstance) (fun v3 H3 h3=>?_) (hys:=rfl) (hbytes:=by rw [aI,hxt,aI];simp only [aX,List.length_nil];omega)
    have h31:=h3.isOne
    rw [← jB,← hxn] at h3
    refine W.k ?_
    refine aQ.mk (i+1,v3,H3,s') ?_
    exact⟨h,h3,hs16',hnx 0⟩
  ·have:i=x.length:=oQ
   subst this
   rw [aK oQ] at h2
   refine W.k ?_
   refine bT.mk (v2,H2) ?_
   exact h2
 rintro⟨v2,H2⟩ h2
 dsimp only at h2 ⊢
 have h21:=h2.isOne
 refine W.k ?_
 refine Fin.to (H2++Hc) ?_
 exact F.f1 ⟨H2,h2,rfl⟩
end
namespace Ae
set_option maxRecDepth 100000
theorem B_eq(x:UInt8):Rg.B x=Aes.S x:=by unfold Rg.B Aes.S;rw [sub_eq]
theorem T_eq(x:UInt8):Rg.T x=Gf.twice x:=twL_at x
theorem subT_eq(w:List UInt8):Rg.subT Rg.subL w=Aes.subW w:=by unfold Rg.subT Aes.subW;rw [sub_eq];rfl
def pwN:Nat→UInt8
 | 0=>1
 | m+1=>if (4+m)%4=0 then Gf.twice (pwN m) else pwN m
theorem pwN_eq:∀ m,m<41→m%4=0→pwN m=Gf.pow 2 ((4+m)/4-1):=by decide +kernel
theorem grow_eq(ws:List (List UInt8))(hl:ws.length=4):∀ m,m≤40→Rg.grow Rg.subL Rg.twL 4 ws m=(Aes.grow 4 ws m,pwN m)
 | 0,_=>rfl
 | m+1,h=>by
  have hN:∀ w,Rg.nextW Rg.subL w (pwN m) (4+m) 4=Aes.nextW w (4+m) 4:=fun w=>by
   unfold Rg.nextW Aes.nextW
   rw [if_neg (show ¬ (6<4∧(4+m)%4=4) by omega),if_neg (show ¬ (4=8∧(4+m)%8=4) by omega)]
   by_cases hm:(4+m)%4=0
   ·rw [if_pos hm,if_pos hm,subT_eq,pwN_eq m oQ oQ]
   ·rw [if_neg hm,if_neg hm]
  have hP:Rg.nextP Rg.twL (pwN m) (4+m) 4=pwN (m+1):=by
   unfold Rg.nextP
   rw [twL_at]
   rfl
  unfold Rg.grow Aes.grow
  rw [grow_eq ws hl m oQ,hl,hN,hP]
theorem sched_eq(k:List UInt8)(h:k.length=16):Rg.sched k=Aes.sched k:=by
 unfold Rg.sched Aes.sched
 rw [h]
 rw [grow_eq _ (by unfold Aes.keyW;simp) _ dQ]
theorem getD_map{f:Nat→UInt8}{k:Nat}(h:k<16):((List.range 16).map f).getD k 0=f k:=by
 rw [aC,aJ,eN h];rfl
def tp(i:Nat):Nat:=i%4*4+i/4
theorem mixN_at(x:List UInt8)(hx:x.length=16)(k:Nat)(hk:k<16):(Aes.mixX x).getD k 0=Aes.mixK ((x.drop (4*(k/4))).take 4) (k%4):=by
 have e:Aes.mixX x=(List.range 16).map fun k=>Aes.mixK ((x.drop (4*(k/4))).take 4) (k%4):=by
  unfold Aes.mixX Aes.mixN
  rw [cP oQ,aH]
  rfl
 rw [e,getD_map hk]
theorem col_at(x:List UInt8)(c j:Nat)(hj:j<4):((x.drop (4*c)).take 4).getD j 0=x.getD (4*c+j) 0:=by
 rw [aC,bE,if_pos hj,bI,aC]
theorem mix8(a b c d y z:UInt8):a ^^^ b ^^^ c ^^^ d ^^^ y ^^^ Gf.twice (y ^^^ z)=Gf.twice y ^^^ Gf.twice z ^^^ (a ^^^ b ^^^ c ^^^ d ^^^ y):=by rw [twice_x];exact wB ..
theorem subX_at(x:List UInt8){k:Nat}(h:k<16):(Aes.subX x).getD k 0=Aes.S (x.getD k 0):=getD_map h
theorem shiftX_at(x:List UInt8){k:Nat}(h:k<16):(Aes.shiftX x).getD k 0=x.getD ((k+4*(k%4))%16) 0:=getD_map h
theorem keyX_at(ws:List (List UInt8))(r:Nat)(x:List UInt8){k:Nat}(h:k<16):(Aes.keyX ws r x).getD k 0=x.getD k 0 ^^^ ws.flatten.getD ((4*r+k/4)*4+k%4) 0:=getD_map h
theorem eS_eq(x:List UInt8)(s:Nat→UInt8)(hs:∀ i,i<16→s i=x.getD (tp i) 0)(i:Nat)(hi:i<16):Rg.eS s i=(Aes.shiftX (Aes.subX x)).getD (tp i) 0:=by
 unfold Rg.eS
 have ht:tp i<16:=by unfold tp;omega
 have hk:∀ i,i<16→tp (i/4*4+(i%4+i/4)%4)=(tp i+4*(tp i%4))%16:=by decide
 rw [B_eq,hs _ oQ,shiftX_at _ ht,subX_at _ oQ,hk i hi]
theorem eM_eq(x:List UInt8)(hx:x.length=16)(s:Nat→UInt8)(hs:∀ i,i<16→s i=x.getD (tp i) 0)(i:Nat)(hi:i<16):Rg.eM s i=(Aes.mixX x).getD (tp i) 0:=by
 have ht:tp i<16:=by unfold tp;omega
 unfold Rg.eM
 rw [mixN_at x hx _ ht,T_eq,T_eq,hs i hi,hs _ oQ,hs _ oQ,hs _ oQ]
 unfold Aes.mixK
 rw [col_at _ _ 0 dQ,col_at _ _ 1 dQ,col_at _ _ 2 dQ,col_at _ _ 3 dQ,col_at _ _ (tp i%4) oQ,col_at _ _ ((tp i%4+1)%4) oQ,mix8]
 have h1:tp i/4=i%4:=by unfold tp;omega
 have h2:tp i%4=i/4:=by unfold tp;omega
 have e0:tp i=4*(i%4)+i/4:=by unfold tp;omega
 have e1:tp ((i/4+1)%4*4+i%4)=4*(i%4)+(i/4+1)%4:=by unfold tp;omega
 have e2:tp ((i/4+2)%4*4+i%4)=4*(i%4)+(i/4+2)%4:=by unfold tp;omega
 have e3:tp ((i/4+3)%4*4+i%4)=4*(i%4)+(i/4+3)%4:=by unfold tp;omega
 rw [h1,h2,e0,e1,e2,e3]
 generalize hc:4*(i%4)=c
 have key:∀ a b c d:UInt8,a ^^^ b ^^^ c ^^^ d ^^^ a=b ^^^ c ^^^ d:=fun a b c d=>by
  rw [wB (a ^^^ b ^^^ c ^^^ d) a,iQ (a ^^^ b),iQ a,← iQ a a,UInt8.xor_self,UInt8.zero_xor,iQ b]
 have sum4:∀ f:Nat→UInt8,∀ r,r<4→f 0 ^^^ f 1 ^^^ f 2 ^^^ f 3 ^^^ f r=f ((r+1)%4) ^^^ f ((r+2)%4) ^^^ f ((r+3)%4):=fun f r hr=>by
  have c3:∀ x y z w:UInt8,x ^^^ y ^^^ z ^^^ w=y ^^^ z ^^^ w ^^^ x:=fun x y z w=>by rw [iQ (x ^^^ y),iQ x,wB x,← iQ y]
  rcases (by omega:r=0∨r=1∨r=2∨r=3) with rfl|rfl|rfl|rfl
  ·exact key (f 0) (f 1) (f 2) (f 3)
  ·rw [c3 (f 0)];exact key (f 1) (f 2) (f 3) (f 0)
  ·rw [c3 (f 0),c3 (f 1)];exact key (f 2) (f 3) (f 0) (f 1)
  ·rw [c3 (f 0),c3 (f 1),c3 (f 2)];exact key (f 3) (f 0) (f 1) (f 2)
 rw [show x.getD (c+0) 0 ^^^ x.getD (c+1) 0 ^^^ x.getD (c+2) 0 ^^^ x.getD (c+3) 0 ^^^ x.getD (c+i/4) 0=_ from sum4 (fun j=>x.getD (c+j) 0) (i/4) oQ]
 simp only [iQ]
theorem st_eq(ws:List (List UInt8))(R:Nat)(x:List UInt8):∀ n,n<R→∀ i,i<16→Rg.st ws R x n i=(Aes.rnds ws x n).getD (tp i) 0
 | 0,_,i,hi=>by
  show Rg.e0 ws x i=(Aes.keyX ws 0 x).getD (tp i) 0
  rw [keyX_at _ _ _ (by unfold tp;omega)]
  unfold Rg.e0
  congr 2
  unfold tp
  omega
 | n+1,hn,i,hi=>by
  show Rg.eA ws (n+1) (Rg.eT R (n+1) (Rg.st ws R x n)) i=(Aes.keyX ws (n+1) (Aes.mixX (Aes.shiftX (Aes.subX (Aes.rnds ws x n))))).getD (tp i) 0
  rw [keyX_at _ _ _ (by unfold tp;omega)]
  unfold Rg.eA Rg.eT
  rw [if_pos hn,eM_eq _ (by unfold Aes.shiftX;simp) _ (eS_eq _ _ (st_eq ws R x n oQ)) i hi]
  congr 2
  unfold tp
  omega
theorem enc_eq(ws:List (List UInt8))(n:Nat)(hn:1≤n)(x:List UInt8):Rg.enc ws n x=Aes.enc ws n x:=by
 obtain⟨m,rfl⟩:∃ m,n=m+1:=⟨n-1,by omega⟩
 unfold Rg.enc fnL Aes.enc Aes.keyX
 apply eH
 intro k hk
 have hk:=eP.1 hk
 show Rg.eA ws (m+1) (Rg.eT (m+1) (m+1) (Rg.st ws (m+1) x m)) (k%4*4+k/4)=Aes.keyF ws (m+1) (Aes.shiftX (Aes.subX (Aes.rnds ws x (m+1-1)))) k
 unfold Rg.eA Rg.eT Aes.keyF
 rw [if_neg oQ,eS_eq _ _ (st_eq ws (m+1) x m oQ) _ oQ,Nat.add_sub_cancel]
 congr 2
 ·unfold tp;omega
 ·omega
theorem encs(k:List UInt8)(h:k.length=16)(n:Nat)(hn:1≤n):Rg.enc (Rg.sched k) n=Aes.enc (Aes.sched k) n:=by
 funext x
 rw [sched_eq k h,enc_eq _ _ hn]
end Ae
end Go.Proofs.YtnhnpjokpelkbaaGreat
