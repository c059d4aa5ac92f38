/- The program's AES: a block is encrypted. -/
import Derived.Test.YtnhnpjokpelkbaaGreatPs14
import Derived.Test.YtnhnpjokpelkbaaGreatPs12
set_option linter.unusedVariables false
set_option linter.unusedSimpArgs false
set_option linter.unusedSectionVars false
set_option maxHeartbeats 1000000
namespace Go.Proofs.YtnhnpjokpelkbaaGreat
open Go Go.Proofs.Tryz
section
attribute [local irreducible] SW SL SQ SH SA SS Pu Fin bZ aQ
def rJ(f:Nat→UInt8)(x:List UInt8)(k:Nat):List UInt8:=(List.range k).map f++x.drop k
theorem uX(f:Nat→UInt8){x:List UInt8}{k:Nat}(h:k≤x.length):(rJ f x k).length=x.length:=by unfold rJ;simp;omega
theorem aBA(f:Nat→UInt8)(x:List UInt8):rJ f x 0=x:=by simp [rJ]
theorem aAZ(f:Nat→UInt8){x:List UInt8}{n:Nat}(h:x.length=n):rJ f x n=(List.range n).map f:=by unfold rJ;rw [gR oQ,aF]
theorem aH3(f:Nat→UInt8){x:List UInt8}{k:Nat}(h:k<x.length)(r:List Value):(cbs (rJ f x k)++r)[k]?=some (.int .u8 ((x.getD k 0).toNat:Int)):=by
 rw [aO (by rw [aI,uX f oQ];exact h)]
 unfold rJ cbs
 rw [aL,bB (by simp),aD,aD,dU,eB,aH,bH,kJ,aA h,aC,aA h]
 rfl
theorem aA0(f:Nat→UInt8){x:List UInt8}{k:Nat}(h:k<x.length)(r:List Value):(cbs (rJ f x k)++r).set k (.int .u8 ((f k).toNat:Int))=cbs (rJ f x (k+1))++r:=by
 have e:(cbs (rJ f x k)).set k (.int .u8 ((f k).toNat:Int))=cbs (rJ f x (k+1)):=by
  unfold rJ cbs
  rw [aL,cA _ _ (by simp),aD,aD,dU,eB,bM h,dK,fJ,bR]
  simp
 rw [fV _ _ (by rw [aI,uX f oQ];exact h),e]
theorem aAk{x:List UInt8}{k:Nat}(h:k<x.length)(r:List Value):(cbs x++r)[k]?=some (.int .u8 ((x.getD k 0).toNat:Int)):=by
 rw [aO (by rw [aI];exact h)]
 unfold cbs
 rw [aH,aC,aA h]
 rfl
namespace Aes
def keyF(ws:List (List UInt8))(r:Nat)(x:List UInt8)(k:Nat):UInt8:=x.getD k 0 ^^^ ws.flatten.getD ((4*r+k/4)*4+k%4) 0
def keyX(ws:List (List UInt8))(r:Nat)(x:List UInt8):List UInt8:=(List.range 16).map (keyF ws r x)
def subF(x:List UInt8)(k:Nat):UInt8:=S (x.getD k 0)
def subX(x:List UInt8):List UInt8:=(List.range 16).map (subF x)
def shiftF(x:List UInt8)(k:Nat):UInt8:=x.getD ((k+4*(k%4))%16) 0
def shiftX(x:List UInt8):List UInt8:=(List.range 16).map (shiftF x)
def mixK(c:List UInt8)(k:Nat):UInt8:=c.getD 0 0 ^^^ c.getD 1 0 ^^^ c.getD 2 0 ^^^ c.getD 3 0 ^^^ c.getD k 0 ^^^ Gf.twice (c.getD k 0 ^^^ c.getD ((k+1)%4) 0)
def mixW(c:List UInt8):List UInt8:=(List.range 4).map (mixK c)
def mixN(x:List UInt8)(j:Nat):List UInt8:=((List.range j).flatMap fun j=>mixW ((x.drop (4*j)).take 4))++x.drop (4*j)
def mixX(x:List UInt8):List UInt8:=mixN x 4
def stp:Nat→List UInt8→List UInt8
 | 0=>subX
 | 1=>shiftX
 | _=>mixX
def stps(x:List UInt8):Nat→List UInt8
 | 0=>x
 | n+1=>stp n (stps x n)
def rnds(ws:List (List UInt8))(x:List UInt8):Nat→List UInt8
 | 0=>keyX ws 0 x
 | n+1=>keyX ws (n+1) (stps (rnds ws x n) 3)
def enc(ws:List (List UInt8))(n:Nat)(x:List UInt8):List UInt8:=keyX ws n (stps (rnds ws x (n-1)) 2)
theorem keyX_len(ws:List (List UInt8))(r:Nat)(x:List UInt8):(keyX ws r x).length=16:=by unfold keyX;simp
theorem mixN_len{x:List UInt8}(hx:x.length=16){j:Nat}(hj:j≤4):(mixN x j).length=16:=by
 have e:∀ j,((List.range j).flatMap fun j=>mixW ((x.drop (4*j)).take 4)).length=4*j:=fun j=>by
  induction j with
  | zero=>rfl
  | succ j ih=>rw [bR,cY,aB,ih];simp [mixW];omega
 unfold mixN
 rw [aB,e,bE];omega
theorem stp_len{n:Nat}{x:List UInt8}(hx:x.length=16):(stp n x).length=16:=by
 unfold stp
 split
 ·unfold subX;simp
 ·unfold shiftX;simp
 ·exact mixN_len hx (Nat.le_refl _)
theorem stps_len{x:List UInt8}(hx:x.length=16)(n:Nat):(stps x n).length=16:=by
 induction n with
 | zero=>exact hx
 | succ n ih=>exact stp_len ih
theorem rnds_len(ws:List (List UInt8))(x:List UInt8)(n:Nat):(rnds ws x n).length=16:=by cases n <;> exact keyX_len ..
theorem enc_len(ws:List (List UInt8))(n:Nat)(x:List UInt8):(enc ws n x).length=16:=keyX_len ..
end Aes
abbrev stL(x:List UInt8)(b:Nat):List Value:=cbs x++[ptv b]
abbrev stV(x:List UInt8)(b:Nat):Value:=.agg (stL x b).toArray
theorem jZ{x:List UInt8}(b:Nat)(h:x.length=16):(stL x b).length=17:=by simp [h]
theorem aPK{x:List UInt8}(b:Nat)(h:x.length=16):(stL x b)[16]?=some (ptv b):=by
 rw [bB (by rw [aI,h];exact Nat.le_refl _),aI,h];rfl
theorem aOL(b:Nat)(x:List UInt8)(hx:x.length=16):Tri prog 249 [stV x b] [(b,gU)] (fun _=>True) (fun v H=>v=stV (Aes.subX x) b∧H=[(b,gU)]):=by
 refine Tri.mk func249 rfl ntmps249 rfl fun w hw=>?_
 have hl0:=jZ b hx
 have hL:(stL (Aes.subX x) b).length=17:=jZ b (by simp [Aes.subX])
 refine W.j fun _ b_=>?_
 rename_i b1
 rw [show stL x b=stL (rJ (Aes.subF x) x 0) b by rw [aBA]]
 refine SW.cut [1,2] [b1] (fun _:Unit=>[]) (fun _=>[(b1,cl (stL (Aes.subX x) b) 357)]) (fun _=>True) ?_ ?_
 ·refine W.k ?_
  refine cV [1,2] [b1] (fun n:Nat=>[(4,.int .i64 (n:Int))]) (fun n=>[(b1,cl (stL (rJ (Aes.subF x) x n) b) 357)]) (fun n=>16-n) (fun n=>n≤16) 0 (Nat.zero_le _) ?_
  intro n hn
  by_cases h:n<16
  ·have hul:=uX (Aes.subF x) (x:=x) (k:=n) oQ
   have hp:=aPK b (hul.trans hx)
   have hv:=aH3 (Aes.subF x) (x:=x) (k:=n) oQ [ptv b]
   have hs:=aA0 (Aes.subF x) (x:=x) (k:=n) oQ [ptv b]
   have hlt:n<(stL (rJ (Aes.subF x) x n) b).length:=by rw [jZ b (hul.trans hx)];omega
   have hc:=aJU (b:=b) (m:=Gf.backN 256) Gf.subL_len (x.getD n 0)
   rw [show u8v (Gf.subL.getD (x.getD n 0).toNat 0)=.int .u8 ((Aes.subF x n).toNat:Int) from rfl] at hc
   refine W.k ?_
   (refine SW.l [7,10] [0,1,2,3,4,5,6,8] ?_;refine bV 7 ?_)
   refine W.cq hc ?_
   (refine SL.l [9] ?_;refine bV 10 ?_;refine W.i ?_;refine SS.dn ?_)
   rw [hs]
   refine W.k ?_
   refine aQ.mk (n+1) ?_
   omega
  ·have:n=16:=oQ
   subst this
   rw [aAZ _ hx,show (List.range 16).map (Aes.subF x)=Aes.subX x from rfl]
   refine W.k ?_
   refine bZ.mk () ?_
   trivial
 rintro _ -
 refine W.k ?_
 exact F.cH [(b,gU)] _ ⟨rfl,rfl⟩
theorem aKZ(b:Nat)(x:List UInt8)(hx:x.length=16):Tri prog 250 [stV x b] [(b,gU)] (fun _=>True) (fun v H=>v=stV (Aes.shiftX x) b∧H=[(b,gU)]):=by
 refine Tri.mk func250 rfl ntmps250 rfl fun w hw=>?_
 have hl0:=jZ b hx
 have hL:(stL (Aes.shiftX x) b).length=17:=jZ b (by simp [Aes.shiftX])
 have h16:(cbs x).length=16:=by rw [aI,hx]
 have hld:((stL x b).drop 0).take 16=cbs x:=by rw [bY,bU oQ,aJ oQ]
 refine W.j fun _ _ b_=>?_
 rename_i b1 b2
 rw [show stL x b=stL (rJ (Aes.shiftF x) x 0) b by rw [aBA]]
 refine SW.cut [1,2] [b1] (fun _:Unit=>[]) (fun _=>[(b1,cl (stL (Aes.shiftX x) b) 357)]) (fun _=>True) ?_ ?_
 ·refine W.k ?_
  refine cV [1,2,3] [b1] (fun n:Nat=>[(7,.int .i64 (n:Int))]) (fun n=>[(b1,cl (stL (rJ (Aes.shiftF x) x n) b) 357)]) (fun n=>16-n) (fun n=>n≤16) 0 (Nat.zero_le _) ?_
  intro n hn
  by_cases h:n<16
  ·have hul:=uX (Aes.shiftF x) (x:=x) (k:=n) oQ
   have hv:=aAk (x:=x) (k:=(n+4*(n%4))%16) oQ []
   rw [aF,show (x.getD ((n+4*(n%4))%16) 0)=Aes.shiftF x n from rfl] at hv
   have hs:=aA0 (Aes.shiftF x) (x:=x) (k:=n) oQ [ptv b]
   have hlt:n<(stL (rJ (Aes.shiftF x) x n) b).length:=by rw [jZ b (hul.trans hx)];omega
   refine W.k ?_
   rw [hs]
   refine aQ.mk (n+1) ?_
   omega
  ·have:n=16:=oQ
   subst this
   rw [aAZ _ hx,show (List.range 16).map (Aes.shiftF x)=Aes.shiftX x from rfl]
   refine W.k ?_
   refine bZ.mk () ?_
   trivial
 rintro _ -
 refine W.k ?_
 exact F.cH [(b,gU)] _ ⟨rfl,rfl⟩
theorem aL2(c:List UInt8)(h4:c.length=4)(k:Nat)(hk:k<4):Tri prog 286 [.agg (cbs c).toArray,.int .i64 (k:Int)] [] (fun _=>True) (fun v H=>v=.int .u8 ((Aes.mixK c k).toNat:Int)∧H=[]):=by
 refine Tri.mk func286 rfl ntmps286 rfl fun w hw=>?_
 have e:=fun j (h:j<4)=>aAk (x:=c) (k:=j) oQ []
 simp only [aF] at e
 have e0:=e 0 oQ
 have e1:=e 1 oQ
 have e2:=e 2 oQ
 have e3:=e 3 oQ
 have ek:=e k hk
 have el:=e ((k+1)%4) oQ
 clear e
 have ht:=aH2 (c.getD k 0 ^^^ c.getD ((k+1)%4) 0)
 unfold Aes.mixK
 refine W.j fun b_=>?_
 (refine SW.l [] [0,1,2,3,4,5,6,7,8,9,10,11,12,13,14,15,16,17,18,19,20,21,22,23] ?_;refine aX 24 ?_)
 refine W.cq ht ?_
 (refine SL.l [25,26,27] ?_)
 refine W.k ?_
 exact F.n
theorem aLP(c:List UInt8)(h4:c.length=4):Tri prog 285 [.agg (cbs c).toArray,.func (.func 286) #[] #[]] [] (fun _=>True) (fun v H=>v=.agg (cbs (Aes.mixW c)).toArray∧H=[]):=by
 refine Tri.mk func285 rfl ntmps285 rfl fun w hw=>?_
 have hl0:(cbs c).length=4:=by rw [aI,h4]
 have hL:(cbs (Aes.mixW c)).length=4:=by rw [aI];simp [Aes.mixW]
 have hz4:(List.replicate 4 (0:UInt8)).length=4:=rfl
 refine W.j fun _ _ b_=>?_
 rename_i b1 b2
 refine SW.cut [4,5] [b_] (fun _:Unit=>[]) (fun _=>[(b_,cl (cbs (Aes.mixW c)) 193)]) (fun _=>True) ?_ ?_
 ·refine W.k ?_
  refine cV [1,2,4,5] [b_] (fun n:Nat=>[(7,.int .i64 (n:Int))]) (fun n=>[(b_,cl (cbs (rJ (Aes.mixK c) (List.replicate 4 0) n)++[]) 193)]) (fun n=>4-n) (fun n=>n≤4) 0 (Nat.zero_le _) ?_
  intro n hn
  by_cases h:n<4
  ·have hul:=uX (Aes.mixK c) (x:=List.replicate 4 0) (k:=n) (by rw [hz4];omega)
   have hs:=aA0 (Aes.mixK c) (x:=List.replicate 4 0) (k:=n) (by rw [hz4];omega) []
   have hlt:n<(cbs (rJ (Aes.mixK c) (List.replicate 4 0) n)++[]).length:=by rw [aF,aI,hul,hz4];exact h
   refine W.k ?_
   refine dR [] rfl rfl rfl rfl rfl rfl (aL2 c h4 n h) (fun _ _=>trivial) ?_
   rintro _ _ ⟨rfl,rfl⟩
   refine W.k ?_
   rw [hs]
   refine aQ.mk (n+1) ?_
   omega
  ·have:n=4:=oQ
   subst this
   rw [aAZ _ hz4,aF,show (List.range 4).map (Aes.mixK c)=Aes.mixW c from rfl]
   refine W.k ?_
   refine bZ.mk () ?_
   trivial
 rintro _ -
 refine W.k ?_
 exact F.cH [] _ ⟨rfl,rfl⟩
theorem aOU(c:List UInt8)(h4:c.length=4):Tri prog 270 [.agg (cbs c).toArray] [] (fun _=>True) (fun v H=>v=.agg (cbs (Aes.mixW c)).toArray∧H=[]):=by
 refine Tri.mk func270 rfl ntmps270 rfl fun w hw=>?_
 have hl0:(cbs c).length=4:=by rw [aI,h4]
 have hL:(cbs (Aes.mixW c)).length=4:=by rw [aI];simp [Aes.mixW]
 refine W.k fun _ b_=>?_
 refine W.cw (aLP c h4) ?_
 exact F.cH [] _ ⟨rfl,rfl⟩
section
variable {P:Program}{C:Ctx}{ρ:Fr}{H:Hp}{o:Oper}{t e n len l h b j:Nat}{x y z:Operand}{k kk:IntKind}{m q:Int}
theorem aOj [kS P t len e n] [i0:eC m l] [i1:eC q h](ho:o.op=.slice t x (some y) (some z) none)(hx:ev ρ x=some (.pointer (some ⟨b,j,none⟩)))(hy:ev ρ y=some (.int k m))(hz:ev ρ z=some (.int kk q))(h1:l<h)(h2:h≤len):Pu P C ρ H o (.slice (some ⟨b,j+l*n,none⟩) (h-l) (len-l)):=by
 have:=tE (P:=P) (C:=C) (ρ:=ρ) (H:=H) (o:=o) (l:=l) (h:=h) ho hx (.inr ⟨y,k,m,rfl,hy,i0.ok⟩) (.inr ⟨z,kk,q,rfl,hz,i1.ok⟩) oQ h2
 rwa [if_neg oQ] at this
theorem aOi [kS P t len e n] [i0:eC m l](ho:o.op=.slice t x (some y) none none)(hx:ev ρ x=some (.pointer (some ⟨b,j,none⟩)))(hy:ev ρ y=some (.int k m))(h1:l<len):Pu P C ρ H o (.slice (some ⟨b,j+l*n,none⟩) (len-l) (len-l)):=by
 have:=tE (P:=P) (C:=C) (ρ:=ρ) (H:=H) (o:=o) (l:=l) (h:=len) ho hx (.inr ⟨y,k,m,rfl,hy,i0.ok⟩) (.inl ⟨rfl,rfl⟩) oQ (Nat.le_refl _)
 rwa [if_neg oQ] at this
end
theorem aNF(b:Nat)(x:List UInt8)(hx:x.length=16):Tri prog 269 [stV x b,.func (.func 270) #[] #[]] [(b,gU)] (fun _=>True) (fun v H=>v=stV (Aes.mixX x) b∧H=[(b,gU)]):=by
 refine Tri.mk func269 rfl ntmps269 rfl fun w hw=>?_
 have hl0:=jZ b hx
 have hL:(stL (Aes.mixX x) b).length=17:=jZ b (Aes.mixN_len hx (Nat.le_refl _))
 refine W.j fun _ b_=>?_
 rename_i b1
 rw [show stL x b=stL (Aes.mixN x 0) b by simp [Aes.mixN]]
 refine SW.cut [1,2,4] [b1] (fun _:Unit=>[]) (fun _=>[(b1,cl (stL (Aes.mixX x) b) 357)]) (fun _=>True) ?_ ?_
 ·refine W.k ?_
  refine cV [1,2,4] [b1] (fun n:Nat=>[(5,.int .i64 ((4*n:Nat):Int))]) (fun n=>[(b1,cl (stL (Aes.mixN x n) b) 357)]) (fun n=>4-n) (fun n=>n≤4) 0 (Nat.zero_le _) ?_
  intro n hn
  have hml:=Aes.mixN_len hx hn
  by_cases h:n<4
  ·have hml2:=jZ b hml
   have hc4:((x.drop (4*n)).take 4).length=4:=by rw [aK,bE];omega
   have hdr:(Aes.mixN x n).drop (4*n)=x.drop (4*n):=by
    have e:∀ j,((List.range j).flatMap fun j=>Aes.mixW ((x.drop (4*j)).take 4)).length=4*j:=fun j=>by
     induction j with
     | zero=>rfl
     | succ j ih=>rw [bR,cY,aB,ih];simp [Aes.mixW];omega
    unfold Aes.mixN
    rw [gD,e,eB,bY,gR (by rw [e];exact Nat.le_refl _),List.nil_append]
   have hld:((stL (Aes.mixN x n) b).drop (4*n)).take 4=cbs ((x.drop (4*n)).take 4):=by
    rw [cD (by rw [aI,hml];omega),bU (by rw [bE,aI,hml];omega),← hdr]
    simp [cbs]
   have hcl:(cbs ((x.drop (4*n)).take 4)).length=4:=by rw [aI,hc4]
   have hwl:(cbs (Aes.mixW ((x.drop (4*n)).take 4))).length=4:=by rw [aI];simp [Aes.mixW]
   have hput:(stL (Aes.mixN x n) b).take (4*n)++cbs (Aes.mixW ((x.drop (4*n)).take 4))++(stL (Aes.mixN x n) b).drop (4*n+(cbs (Aes.mixW ((x.drop (4*n)).take 4))).length)=stL (Aes.mixN x (n+1)) b:=by
    have hd2:(Aes.mixN x n).drop (4*n+4)=x.drop (4*n+4):=by rw [← cM,hdr,cM]
    have ht2:(Aes.mixN x n).take (4*n)=(List.range n).flatMap fun j=>Aes.mixW ((x.drop (4*j)).take 4):=by
     have e:∀ j,((List.range j).flatMap fun j=>Aes.mixW ((x.drop (4*j)).take 4)).length=4*j:=fun j=>by
      induction j with
      | zero=>rfl
      | succ j ih=>rw [bR,cY,aB,ih];simp [Aes.mixW];omega
     unfold Aes.mixN
     rw [iG,e,eB,cU,aF,aJ (by rw [e];exact Nat.le_refl _)]
    rw [hwl,cD (by rw [aI,hml];omega),bU (by rw [aI,hml];omega)]
    have e3:Aes.mixN x (n+1)=(Aes.mixN x n).take (4*n)++Aes.mixW ((x.drop (4*n)).take 4)++(Aes.mixN x n).drop (4*n+4):=by
     rw [ht2,hd2]
     unfold Aes.mixN
     rw [bR,cY,show 4*(n+1)=4*n+4 by omega]
     simp
    rw [e3]
    show _=cbs _++[ptv b]
    simp only [cbs,aL,iA,jQ,aV]
   haveI i1:eC (((4*n:Nat):Int)+4) (4*n+4):=⟨by omega⟩
   refine W.k ?_
   refine bN (aOj (l:=4*n) (h:=4*n+4) rfl rfl rfl rfl oQ oQ) rfl rfl ?_
   rw [show 4*n+4-4*n=4 by omega,fH,Nat.mul_one]
   refine aMS ?_
   refine W.la ?_
   refine dR [] rfl rfl rfl rfl rfl rfl (aOU _ hc4) (fun _ _=>trivial) ?_
   rintro _ _ ⟨rfl,rfl⟩
   refine W.k fun b_=>?_
   (refine SW.l [] [0,1] ?_;refine dN 2 rfl (aOi (l:=4*n) rfl rfl rfl oQ) ?_;refine dN 3 rfl (yT rfl rfl) ?_;refine aX 4 ?_)
   rw [fH,Nat.mul_one]
   refine W.cy (mm:=4) (ys:=cbs (Aes.mixW ((x.drop (4*n)).take 4))) (fun w2 hs=>fB.block hs.at (by rw [bY,aJ (by rw [hwl];exact Nat.le_refl _)]) (by rw [hwl])) ?_
   rw [hput]
   (refine bK [] ?_;refine SS.dn ?_)
   refine W.k ?_
   rw [show ((4*n:Nat):Int)+4=((4*(n+1):Nat):Int) by omega]
   refine aQ.mk (n+1) ?_
   omega
  ·have:n=4:=oQ
   subst this
   rw [show Aes.mixN x 4=Aes.mixX x from rfl]
   refine W.k ?_
   refine bZ.mk () ?_
   trivial
 rintro _ -
 refine W.k ?_
 exact F.cH [(b,gU)] _ ⟨rfl,rfl⟩
theorem aOJ(b:Nat)(x:List UInt8)(hx:x.length=16):Tri prog 251 [stV x b] [(b,gU)] (fun _=>True) (fun v H=>v=stV (Aes.mixX x) b∧H=[(b,gU)]):=by
 refine Tri.mk func251 rfl ntmps251 rfl fun w hw=>?_
 have hl0:=jZ b hx
 have hL:(stL (Aes.mixX x) b).length=17:=jZ b (Aes.mixN_len hx (Nat.le_refl _))
 refine W.k fun _ b_=>?_
 refine W.cw (aNF b x hx) ?_
 exact F.cH [(b,gU)] _ ⟨rfl,rfl⟩
def sO:List Value:=[.func (.func 249) #[] #[],.func (.func 250) #[] #[],.func (.func 251) #[] #[]]
theorem aMT(b sb:Nat)(n:Nat)(hn:n=2∨n=3)(x:List UInt8)(hx:x.length=16):Tri prog 248 [stV x b,.slice (some ⟨sb,0,none⟩) n n] [(sb,cl (sO.take n) 360),(b,gU)] (fun _=>True)
  (fun v H=>v=stV (Aes.stps x n) b∧H=[(sb,cl (sO.take n) 360),(b,gU)]):=by
 refine Tri.mk func248 rfl ntmps248 rfl fun w hw=>?_
 have hl0:=jZ b hx
 have hl:=fun k=>jZ b (Aes.stps_len hx k)
 have h0:=hl 0
 have h1:=hl 1
 have h2:=hl 2
 have h3:=hl 3
 have hL:=hl n
 clear hl
 refine W.j fun _ b_=>?_
 rename_i b1
 rw [show stL x b=stL (Aes.stps x 0) b from rfl]
 refine bW [2,4] [(sb,cl (sO.take n) 360),(b1,cl (stL (Aes.stps x 0) b) 357),(b,gU)] (fun _:Unit=>[]) (fun _=>[(sb,cl (sO.take n) 360),(b1,cl (stL (Aes.stps x n) b) 357),(b,gU)]) (fun _=>True) ?_ ?_
 ·refine W.k ?_
  refine bF [2,4,7,8] (fun k:Nat=>[(9,.int .i64 (k:Int))]) (fun k=>[(sb,cl (sO.take n) 360),(b1,cl (stL (Aes.stps x k) b) 357),(b,gU)]) (fun k=>n-k) (fun k=>k≤n) 0 (Nat.zero_le _) ?_
  intro k hk
  by_cases h:k<n
  ·rcases (by omega:k=0∨k=1∨k=2) with rfl|rfl|rfl
   ·have hv:(sO.take n)[0]?=some (.func (.func 249) #[] #[]):=by rcases hn with rfl|rfl <;> rfl
    refine W.k ?_
    refine dR [(b,gU)] rfl rfl rfl rfl rfl rfl (aOL b (Aes.stps x 0) hx) (fun _ _=>trivial) ?_
    rintro _ _ ⟨rfl,rfl⟩
    rw [show Aes.subX (Aes.stps x 0)=Aes.stps x 1 from rfl]
    refine W.k ?_
    refine aQ.mk 1 ?_
    omega
   ·have hv:(sO.take n)[1]?=some (.func (.func 250) #[] #[]):=by rcases hn with rfl|rfl <;> rfl
    refine W.k ?_
    refine dR [(b,gU)] rfl rfl rfl rfl rfl rfl (aKZ b (Aes.stps x 1) (Aes.stps_len hx 1)) (fun _ _=>trivial) ?_
    rintro _ _ ⟨rfl,rfl⟩
    rw [show Aes.shiftX (Aes.stps x 1)=Aes.stps x 2 from rfl]
    refine W.k ?_
    refine aQ.mk 2 ?_
    omega
   ·have hv:(sO.take n)[2]?=some (.func (.func 251) #[] #[]):=by rcases hn with rfl|rfl <;> first|omega|rfl
    refine W.k ?_
    refine dR [(b,gU)] rfl rfl rfl rfl rfl rfl (aOJ b (Aes.stps x 2) (Aes.stps_len hx 2)) (fun _ _=>trivial) ?_
    rintro _ _ ⟨rfl,rfl⟩
    rw [show Aes.mixX (Aes.stps x 2)=Aes.stps x 3 from rfl]
    refine W.k ?_
    refine aQ.mk 3 ?_
    omega
  ·have:k=n:=oQ
   subst this
   refine W.k ?_
   refine bZ.mk () ?_
   trivial
 rintro _ -
 refine W.k ?_
 exact F.cH [(sb,cl (sO.take n) 360),(b,gU)] _ ⟨rfl,rfl⟩
theorem aOI{c b n:Nat}{ws:List (List UInt8)}{Hc:Hp}(hC:aDQ c b n ws Hc)(hw4:∀ y∈ws,y.length=4)(hws:ws.length≤1000)(x:List UInt8)(hx:x.length=16)(r:Nat)(hr:4*r+4≤ws.length):Tri prog 247 [ptv c,stV x b,.int .i64 (r:Int)] Hc (fun _=>True)
  (fun v H=>v=stV (Aes.keyX ws r x) b∧H=Hc):=by
 obtain⟨wv,Hs,hS,rfl⟩:=hC
 have hfl:=eN hw4
 refine Tri.mk func247 rfl ntmps247 rfl fun w hw=>?_
 have hl0:=jZ b hx
 have hL:(stL (Aes.keyX ws r x) b).length=17:=jZ b (Aes.keyX_len ..)
 rcases hS with ⟨-,hz,-⟩|⟨bw,len,cap,junk,rfl,hxl,hj,hlc,rfl⟩
 ·have:=congrArg List.length hz
  rw [aI,hfl] at this
  simp at this;omega
 rw [aI,hfl] at hxl
 have hlen:ws.length=len:=oQ
 subst hlen
 refine W.j fun _ b_=>?_
 rename_i b1
 rw [show stL x b=stL (rJ (Aes.keyF ws r x) x 0) b by rw [aBA]]
 refine SW.cut [4,6] [b1] (fun _:Unit=>[]) (fun _=>[(b1,cl (stL (Aes.keyX ws r x) b) 357)]) (fun _=>True) ?_ ?_
 ·refine W.k ?_
  refine cV [0,2,4,6] [b1] (fun n:Nat=>[(8,.int .i64 (n:Int))]) (fun n=>[(b1,cl (stL (rJ (Aes.keyF ws r x) x n) b) 357)]) (fun n=>16-n) (fun n=>n≤16) 0 (Nat.zero_le _) ?_
  intro k hk
  by_cases h:k<16
  ·have hul:=uX (Aes.keyF ws r x) (x:=x) (k:=k) oQ
   have hv:=aH3 (Aes.keyF ws r x) (x:=x) (k:=k) oQ [ptv b]
   have hv2:=aAk (x:=ws.flatten) (k:=(4*r+k/4)*4+k%4) (by rw [hfl];omega) junk
   have hs:=aA0 (Aes.keyF ws r x) (x:=x) (k:=k) oQ [ptv b]
   have hlt:k<(stL (rJ (Aes.keyF ws r x) x k) b).length:=by rw [jZ b (hul.trans hx)];omega
   refine W.k ?_
   (refine SW.l [21] [0,1,2,3,4,5,6,7,8,9,10,11,12,13,14,15,16,17,18,19,20] ?_;refine bV 21 ?_;refine W.i ?_;refine SS.dn ?_)
   rw [show x.getD k 0 ^^^ ws.flatten.getD ((4*r+k/4)*4+k%4) 0=Aes.keyF ws r x k from rfl,hs]
   refine W.k ?_
   refine aQ.mk (k+1) ?_
   omega
  ·have:k=16:=oQ
   subst this
   rw [aAZ _ hx,show (List.range 16).map (Aes.keyF ws r x)=Aes.keyX ws r x from rfl]
   refine W.k ?_
   refine bZ.mk () ?_
   trivial
 rintro _ -
 refine W.k ?_
 exact F.cH ((c,qG b (.slice (some ⟨bw,0,none⟩) ws.length cap) (.int .i64 (n:Int)))::[(bw,cl (cbs ws.flatten++junk) 193)]) _ ⟨rfl,rfl⟩
theorem aIV(ws:List (List UInt8))(x:List UInt8)(k:Nat):(Aes.rnds ws x k).length=16:=Aes.rnds_len ws x k
theorem aH7{c b n:Nat}{ws:List (List UInt8)}{Hc:Hp}(hC:aDQ c b n ws Hc)(hw4:∀ y∈ws,y.length=4)(hws:ws.length≤1000)(h1:1≤n)(hn:4*n+4≤ws.length)(x:List UInt8)(hx:x.length=16):Tri prog 209 [ptv c,.agg (cbs x).toArray] (Hc++[(b,gU)]) (fun _=>True)
  (fun v H=>v=.agg (cbs (Aes.enc ws n x)).toArray∧H=Hc++[(b,gU)]):=by
 have hk:=fun x hx r hr=>aOI hC hw4 hws x hx r hr
 obtain⟨wv,Hs,hS,rfl⟩:=hC
 have hl16:(cbs x).length=16:=by rw [aI,hx]
 have hfx:bS (fun i=>[(0,16),(16,1)][i]?) (List.replicate 16 (.int .u8 0)++[.pointer none]) [(0,.agg (cbs x).toArray),(1,ptv b)]=some (stL x b):=
  vC (off:=0) (n:=16) (cbs x++[.pointer none]) rfl (by simp [vl,hx]) (by simp) (by simp [vl]) (vC (off:=16) (n:=1) (stL x b) rfl rfl (by simp [hx]) (by simp [vl,hx]) rfl)
 refine Tri.mk func209 rfl ntmps209 rfl fun w hw=>?_
 have hbs3:bS (fun i=>some (i*1,1)) (zs [.nilFunc] 3) [(0,.func (.func 249) #[] #[]),(1,.func (.func 250) #[] #[]),(2,.func (.func 251) #[] #[])]=some (sO.take 3):=rfl
 have hbs2:bS (fun i=>some (i*1,1)) (zs [.nilFunc] 2) [(0,.func (.func 249) #[] #[]),(1,.func (.func 250) #[] #[])]=some (sO.take 2):=rfl
 have hO2:=fun k=>jZ b (aIV ws x k)
 refine W.j fun _ b_=>?_
 rename_i b3
 (refine SW.l [] [0,1,2,3,4,5,6] ?_;skip )
 have hk0:=hk x hx 0 oQ
 have hC2:aDQ c b n ws ((c,qG b wv (.int .i64 (n:Int)))::Hs):=⟨wv,Hs,hS,rfl⟩
 have h17:=jZ b (Aes.keyX_len ws 0 x)
 refine jD 7 8 ?a ?b rfl rfl
 case' a=>
  refine W.cq hk0 ?_
  refine dX ?_
  refine aX 8 ?_
  refine W.al fun b5=>?_
 case' b=>
  refine W.al fun b5=>?_
  refine dX ?_
  refine aX 7 ?_
  refine W.cq hk0 ?_
 all_goals
  refine dX ?_
  refine aX 9 ?_
  refine W.i ?_
  refine SS.dn ?_
  refine W.j ?_
  refine SW.cut [0,4,5] [b5] (fun _:Unit=>[]) (fun _=>[(b5,cl (stL (Aes.rnds ws x (n-1)) b) 357)]) (fun _=>True) ?_ ?_
  ·refine W.k ?_
   refine cV [0,4,5] [b5] (fun k:Nat=>[(6,.int .i64 ((k+1:Nat):Int))]) (fun k=>[(b5,cl (stL (Aes.rnds ws x k) b) 357)]) (fun k=>n-k) (fun k=>k+1≤n) 0 h1 ?_
   intro k hkn
   have hlk:=hO2 k
   have hlk1:=hO2 (k+1)
   by_cases h:k+1<n
   ·refine W.k fun b_=>?_
    rename_i b8
    refine W.cw (aMT b b_ 3 (.inr rfl) (Aes.rnds ws x k) (Aes.rnds_len ..)) ?_
    refine W.cq (hk _ (Aes.stps_len (Aes.rnds_len ..) 3) (k+1) oQ) ?_
    rw [show Aes.keyX ws (k+1) (Aes.stps (Aes.rnds ws x k) 3)=Aes.rnds ws x (k+1) from rfl]
    refine W.k ?_
    refine aQ.mk (k+1) ?_
    omega
   ·have:k=n-1:=oQ
    subst this
    refine W.k ?_
    refine bZ.mk () ?_
    trivial
  rintro _ -
  have hlN:=hO2 (n-1)
  refine W.j ?_
  (refine SW.l [8,10] [0,1,4,5,6,7] ?_;refine aX 2 ?_)
  refine iQ (fun sb=>?_) (hr:=hbs2)
  (refine bK [] ?_;refine aX 3 ?_)
  refine W.cq (aMT b sb 2 (.inl rfl) (Aes.rnds ws x (n-1)) (Aes.rnds_len ..)) ?_
  (refine bK [] ?_;refine bV 8 ?_)
  refine W.cq (hk _ (Aes.stps_len (Aes.rnds_len ..) 2) n hn) ?_
  rw [show Aes.keyX ws n (Aes.stps (Aes.rnds ws x (n-1)) 2)=Aes.enc ws n x from rfl]
  have he:=Aes.enc_len ws n x
  have hfd:((stL (Aes.enc ws n x) b).drop 0).take 16=cbs (Aes.enc ws n x):=by rw [bY,bU (by rw [aI,he];exact Nat.le_refl _),aJ (by rw [aI,he];exact Nat.le_refl _)]
  have hfl:(cbs (Aes.enc ws n x)).length=16:=by rw [aI,he]
  (refine SL.l [9] ?_;refine bV 10 ?_;refine W.i ?_;refine SS.dn ?_)
  refine W.k ?_
  exact F.cH ((c,qG b wv (.int .i64 (n:Int)))::Hs++[(b,gU)]) _ ⟨rfl,rfl⟩
def qH(e:UInt64)(k l:Nat):List UInt8:=Sha.beN 8 e.toNat++Sha.beN 4 k++Sha.beN 2 l++[0,0]
theorem aCl(e:UInt64)(k l:Nat):(qH e k l).length=16:=by unfold qH;simp [Sha.beN_len]
def mA(E:List UInt8→List UInt8)(e:UInt64)(k n:Nat):List UInt8:=(List.range n).flatMap fun l=>E (qH e k l)
theorem sD{E:List UInt8→List UInt8}(hE:∀ x,(E x).length=16)(e:UInt64)(k n:Nat):(mA E e k n).length=16*n:=by
 unfold mA
 induction n with
 | zero=>rfl
 | succ n ih=>rw [bR,cY,aB,ih];simp [hE];omega
theorem aBJ(E:List UInt8→List UInt8)(e:UInt64)(k n:Nat):mA E e k (n+1)=mA E e k n++E (qH e k n):=by unfold mA;rw [bR,cY];simp
def dT(E:List UInt8→List UInt8)(e:UInt64)(k:Nat)(b:List UInt8):List UInt8:=aBU b ((mA E e k ((b.length+15)/16)).take b.length)
theorem oS{E:List UInt8→List UInt8}(hE:∀ x,(E x).length=16)(e:UInt64)(k:Nat)(b:List UInt8):(dT E e k b).length=b.length:=by
 unfold dT
 rw [aF6,aK,sD hE];omega
theorem aCm{E:List UInt8→List UInt8}(hE:∀ x,(E x).length=16)(e:UInt64)(k:Nat)(b:List UInt8):dT E e k (dT E e k b)=b:=by
 have hl:=oS hE e k b
 have hs:((mA E e k ((b.length+15)/16)).take b.length).length=b.length:=by rw [aK,sD hE];omega
 have e1:dT E e k (dT E e k b)=aBU (dT E e k b) ((mA E e k ((b.length+15)/16)).take b.length):=by
  conv=>lhs;unfold dT
  rw [show (aBU b (List.take b.length (mA E e k ((b.length+15)/16)))).length=b.length from hl]
  rfl
 rw [e1]
 unfold dT aBU
 generalize (mA E e k ((b.length+15)/16)).take b.length=s at hs
 clear e1 hl
 induction b generalizing s with
 | nil=>simp
 | cons x r ih=>
  cases s with
  | nil=>simp at hs
  | cons y t=>
   simp only [List.zipWith_cons_cons]
   rw [ih t (by simpa using hs)]
   rw [iP,UInt8.xor_self,UInt8.xor_zero]
theorem aH6(e:UInt64)(k l:Nat)(hk:k<4294967296)(hl:l<65536):Tri prog 210 [eX e,.int .u32 (k:Int),.int .u16 (l:Int)] [] (fun _=>True) (fun v H=>v=.agg (cbs (qH e k l)).toArray∧H=[]):=by
 refine Tri.mk func210 rfl ntmps210 rfl fun w hw=>?_
 have hc:=aCl e k l
 have hkU:(UInt64.ofNat k).toNat=k:=by rw [bC];omega
 have hlU:(UInt64.ofNat l).toNat=l:=by rw [bC];omega
 have h1:=aCu 8 e oQ oQ
 have h2:=aCu 4 (UInt64.ofNat k) oQ oQ
 have h3:=aCu 2 (UInt64.ofNat l) oQ oQ
 rw [hkU] at h2
 rw [hlU] at h3
 refine W.k fun b_=>?_
 refine aG h1 ?_
 rintro _ _ ⟨b1,rfl,rfl⟩
 have hb2:bS (fun i=>some (i*1,1)) (zs [.int .u8 0] 2) [(0,.int .u8 0),(1,.int .u8 0)]=some (cbs [0,0]):=rfl
 refine W.k ?_
 refine eU h2 rfl ?_
 rintro _ _ ⟨b2,rfl,rfl⟩
 refine W.k ?_
 refine eU h3 rfl ?_
 rintro _ _ ⟨b3,rfl,rfl⟩
 refine iQ (fun b4=>?_) (hr:=hb2)
 refine iQ (fun b5=>?_) (hr:=bs4 ..)
 have hfl:[Sha.beN 8 e.toNat,Sha.beN 4 k,Sha.beN 2 l,[0,0]].flatten=qH e k l:=by unfold qH;simp
 refine aG (wJ _ [Sha.beN 8 e.toNat,Sha.beN 4 k,Sha.beN 2 l,[0,0]] (by rw [hfl,hc];decide) (by simp only [aW,List.length_nil];omega)) ?_ (hpre:=fun w2 hs=>RdS.at (T:=23) (fz:=(0,0)) (Hc:=[]) hs rfl (Nat.le_refl _) rfl (xT rfl (Rd.my (Hc:=[]) (T:=5) b1 _ hs (Sha.beN_len ..)) (Rd.my (Hc:=[]) (T:=5) b2 _ hs (Sha.beN_len ..)) (Rd.my (Hc:=[]) (T:=5) b3 _ hs (Sha.beN_len ..)) (Rd.my (Hc:=[]) (T:=5) b4 _ hs rfl)))
 rw [hfl]
 intro v6 H6 h6
 have h61:=h6.isOne
 have hc16:(cbs (qH e k l)).length=16:=by rw [aI,hc]
 rcases h6 with ⟨-,hz,-⟩|⟨b6,len6,cap6,junk,rfl,hxl,hj,hlc,rfl⟩
 ·have:=congrArg List.length hz
  rw [aI,hc] at this
  simp at this
 rw [hc16] at hxl
 have hl6:len6=16:=oQ
 subst hl6
 have hld:((cbs (qH e k l)++junk).drop 0).take 16=cbs (qH e k l):=by rw [bY,bU oQ,aJ oQ]
 refine W.k ?_
 refine aMS ?_
 refine W.k ?_
 exact F.cH [] _ ⟨rfl,rfl⟩
theorem aJs{c b n:Nat}{ws:List (List UInt8)}{Hc:Hp}(hC:aDQ c b n ws Hc)(hw4:∀ y∈ws,y.length=4)(hws:ws.length≤1000)(h1:1≤n)(hn:4*n+4≤ws.length)(e:UInt64)(k m:Nat)(hk:k<4294967296)(hm1:1≤m)(hm:m≤65536) :
  Tri prog 148 [ptv c,eX e,.int .u32 (k:Int),.int .i64 (m:Int)] (Hc++[(b,gU)]) (fun _=>True)
  (fun v H=>∃ Hs,RdH Hs v ((mA (Aes.enc ws n) e k ((m+15)/16)).take m)∧H=Hs++(Hc++[(b,gU)])):=by
 have hE:=fun x (hx:x.length=16)=>aH7 hC hw4 hws h1 hn x hx
 refine Tri.mk func148 rfl ntmps148 rfl fun w hw=>?_
 have hlb:=fun j=>sD (E:=Aes.enc ws n) (fun x=>Aes.enc_len ..) e k j
 refine W.j ?_
 refine bW [3] [] (fun x:Value×Hp=>[(10,x.1)]) (fun x=>x.2) (fun x=>Sl 5 1 x.1 (cbs (mA (Aes.enc ws n) e k ((m+15)/16))) x.2) ?_ ?_
 ·refine W.k ?_
  refine bF [1,2,3,9] (fun x:Nat×Value×Hp=>[(10,x.2.1),(11,.int .i64 (x.1:Int))]) (fun x=>x.2.2++(Hc++[(b,gU)])) (fun x=>(m+15)/16-x.1) (fun x=>x.1≤(m+15)/16∧Sl 5 1 x.2.1 (cbs (mA (Aes.enc ws n) e k x.1)) x.2.2) (0,.slice none 0 0,[]) ⟨Nat.zero_le _,Sl.nil _ _⟩ ?_
  rintro⟨j,v2,H2⟩ ⟨hj,h2⟩
  dsimp only at hj h2 ⊢
  have h21:=h2.isOne
  obtain⟨a2,l2,c2,rfl,hl2⟩:=h2.form
  rw [aI,hlb,Nat.mul_one] at hl2
  subst hl2
  by_cases h:16*j<m
  ·haveI i1:Cv .u16 (j:Int) (j:Int):=⟨by show (j:Int)%65536=(j:Int);omega⟩
   refine W.k ?_
   refine W.cw (aH6 e k j hk oQ) ?_
   refine dR (Hc++[(b,gU)]) rfl rfl rfl rfl rfl rfl (hE _ (aCl e k j)) (fun _ _=>trivial) ?_
   rintro _ _ ⟨rfl,rfl⟩
   have hel:(Aes.enc ws n (qH e k j)).length=16:=Aes.enc_len ..
   have hec:(cbs (Aes.enc ws n (qH e k j))).length=16:=by rw [aI,hel]
   have hls:=aBJ (Aes.enc ws n) e k j
   refine W.k fun b_=>?_
   refine W.ap h2 (ys:=cbs (Aes.enc ws n (qH e k j))) (mm:=16) (fun w2 hs=>(Sl.own 32 1 b_ (len:=16) (xs:=cbs (Aes.enc ws n (qH e k j))) oQ).srcAt hs inferInstance) (fun v3 H3 h3=>?_) (hys:=by omega) (hbytes:=by rw [aI,hlb,hec];omega)
   have h31:=h3.isOne
   rw [← jE,← hls] at h3
   refine W.k ?_
   refine aQ.mk (j+1,v3,H3) ?_
   exact⟨by omega,h3⟩
  ·have:j=(m+15)/16:=oQ
   subst this
   refine W.k ?_
   refine bZ.mk (_,H2) ?_
   exact h2
 rintro⟨v2,H2⟩ h2
 dsimp only at h2 ⊢
 have h22:=h2
 rcases h2 with ⟨-,hz,-⟩|⟨b6,len6,cap6,junk,rfl,hxl,hj,hlc,rfl⟩
 ·have:=congrArg List.length hz
  rw [aI,hlb] at this
  simp at this;omega
 rw [aI,hlb] at hxl
 refine W.k ?_
 refine W.s3 ?_
 rw [show lO (some ⟨b6,0,none⟩) m 0 1=some ⟨b6,0,none⟩ by unfold lO;split <;> simp [Addr.add]]
 refine W.k ?_
 refine Fin.to ([(b6,cl (cbs (mA (Aes.enc ws n) e k ((m+15)/16))++junk) 5)]++(Hc++[(b,gU)])) ?_
 have hcut:=(RdH.of h22).cut m 0 m m (Nat.zero_le _) oQ oQ oQ
 rw [bY,jC,show lO (some ⟨b6,0,none⟩) m 0 1=some ⟨b6,0,none⟩ by unfold lO;split <;> simp [Addr.add]] at hcut
 exact F.f1 ⟨_,hcut,rfl⟩
theorem aG6{c b n:Nat}{ws:List (List UInt8)}{Hc:Hp}(hC:aDQ c b n ws Hc)(hw4:∀ y∈ws,y.length=4)(hws:ws.length≤1000)(h1:1≤n)(hn:4*n+4≤ws.length)(e:UInt64)(k:Nat)(hk:k<4294967296)(v:Value)(x:List UInt8)(hm1:1≤x.length)(hm:x.length≤65536) :
  Tri prog 89 [ptv c,eX e,.int .u32 (k:Int),v] (Hc++[(b,gU)]) (fun w=>Rd ((Hc++[(b,gU)]).map Prod.fst) w 1 v (cbs x))
  (fun r H=>∃ q,r=.slice (some ⟨q,0,none⟩) x.length x.length∧H=(q,cl (cbs (dT (Aes.enc ws n) e k x)) 5)::(Hc++[(b,gU)])):=by
 have hS:=aJs hC hw4 hws h1 hn e k x.length hk hm1 hm
 have hsl:((mA (Aes.enc ws n) e k ((x.length+15)/16)).take x.length).length=x.length:=by rw [aK,sD (fun x=>Aes.enc_len ..)];omega
 have hX:=fun u=>aPb v u x ((mA (Aes.enc ws n) e k ((x.length+15)/16)).take x.length) oQ
 rw [hsl,jB,show aBU x ((mA (Aes.enc ws n) e k ((x.length+15)/16)).take x.length)=dT (Aes.enc ws n) e k x from rfl] at hX
 refine Tri.mk func89 rfl ntmps89 rfl fun w hw=>?_
 obtain⟨a,la,ca,rfl,hl1,hc1,hr1⟩:=hw.get
 rw [aI,Nat.mul_one] at hl1
 subst hl1
 refine W.k ?_
 refine aG hS ?_
 rintro u _ ⟨Hs,hu,rfl⟩
 have hu1:=hu.one
 refine W.k ?_
 refine aG (hX u) ?_ (hpre:=fun w2 hs=>⟨hw.ro (Hc:=[]) hs,hu.rd (Hc:=[]) hs⟩)
 rintro _ _ ⟨q,rfl,rfl⟩
 refine W.k ?_
 refine Fin.to ((q,cl (cbs (dT (Aes.enc ws n) e k x)) 5)::(Hc++[(b,gU)])) ?_
 exact F.f1 ⟨q,rfl,rfl⟩
end
end Go.Proofs.YtnhnpjokpelkbaaGreat
