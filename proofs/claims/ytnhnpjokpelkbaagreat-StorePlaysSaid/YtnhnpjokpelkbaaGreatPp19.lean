/- The program's AES: a block is encrypted. -/
import Derived.Test.YtnhnpjokpelkbaaGreatPp15
import Derived.Test.YtnhnpjokpelkbaaGreatPp17
set_option linter.unusedVariables false
set_option linter.unusedSimpArgs false
set_option linter.unusedSectionVars false
set_option maxHeartbeats 2000000
namespace Go.Proofs.YtnhnpjokpelkbaaGreat
open Go Go.Proofs.Tryz
section
attribute [local irreducible] SW SL SQ SH SA SS Pu Fin bT aQ
def rF(f:Nat→UInt8)(x:List UInt8)(k:Nat):List UInt8:=(List.range k).map f++x.drop k
theorem uK(f:Nat→UInt8){x:List UInt8}{k:Nat}(h:k≤x.length):(rF f x k).length=x.length:=by unfold rF;simp;omega
theorem aBi(f:Nat→UInt8)(x:List UInt8):rF f x 0=x:=by simp [rF]
theorem aAH(f:Nat→UInt8){x:List UInt8}{n:Nat}(h:x.length=n):rF f x n=(List.range n).map f:=by unfold rF;rw [gO oQ,aH]
theorem aHW(f:Nat→UInt8){x:List UInt8}{k:Nat}(h:k<x.length)(r:List Value):(cbs (rF f x k)++r)[k]?=some (.int .u8 ((x.getD k 0).toNat:Int)):=by
 rw [aL (by rw [aI,uK f oQ];exact h)]
 unfold rF cbs
 rw [aV,aY (by simp),aD,aD,dY,dW,aJ,bI,jQ,aA h,aC,aA h]
 rfl
theorem aAI(f:Nat→UInt8){x:List UInt8}{k:Nat}(h:k<x.length)(r:List Value):(cbs (rF f x k)++r).set k (.int .u8 ((f k).toNat:Int))=cbs (rF f x (k+1))++r:=by
 have e:(cbs (rF f x k)).set k (.int .u8 ((f k).toNat:Int))=cbs (rF f x (k+1)):=by
  unfold rF cbs
  rw [aV,bY _ _ (by simp),aD,aD,dY,dW,bL h,dP,fF,bV]
  simp
 rw [gL _ _ (by rw [aI,uK f oQ];exact h),e]
theorem zX{x:List UInt8}{k:Nat}(h:k<x.length)(r:List Value):(cbs x++r)[k]?=some (.int .u8 ((x.getD k 0).toNat:Int)):=by
 rw [aL (by rw [aI];exact h)]
 unfold cbs
 rw [aJ,aC,aA h]
 rfl
namespace Aes
def keyF(ws:List (List UInt8))(r:Nat)(x:List UInt8)(k:Nat):UInt8:=x.getD k 0 ^^^ ws.flatten.getD ((4*r+k/4)*4+k%4) 0
def keyX(ws:List (List UInt8))(r:Nat)(x:List UInt8):List UInt8:=(List.range 16).map (keyF ws r x)
def subF(x:List UInt8)(k:Nat):UInt8:=S (x.getD k 0)
def subX(x:List UInt8):List UInt8:=(List.range 16).map (subF x)
def shiftF(x:List UInt8)(k:Nat):UInt8:=x.getD ((k+4*(k%4))%16) 0
def shiftX(x:List UInt8):List UInt8:=(List.range 16).map (shiftF x)
def mixK(c:List UInt8)(k:Nat):UInt8:=c.getD 0 0 ^^^ c.getD 1 0 ^^^ c.getD 2 0 ^^^ c.getD 3 0 ^^^ c.getD k 0 ^^^ Gf.twice (c.getD k 0 ^^^ c.getD ((k+1)%4) 0)
def mixW(c:List UInt8):List UInt8:=(List.range 4).map (mixK c)
def mixN(x:List UInt8)(j:Nat):List UInt8:=((List.range j).flatMap fun j=>mixW ((x.drop (4*j)).take 4))++x.drop (4*j)
def mixX(x:List UInt8):List UInt8:=mixN x 4
def stp:Nat→List UInt8→List UInt8
 | 0=>subX
 | 1=>shiftX
 | _=>mixX
def stps(x:List UInt8):Nat→List UInt8
 | 0=>x
 | n+1=>stp n (stps x n)
def rnds(ws:List (List UInt8))(x:List UInt8):Nat→List UInt8
 | 0=>keyX ws 0 x
 | n+1=>keyX ws (n+1) (stps (rnds ws x n) 3)
def enc(ws:List (List UInt8))(n:Nat)(x:List UInt8):List UInt8:=keyX ws n (stps (rnds ws x (n-1)) 2)
theorem keyX_len(ws:List (List UInt8))(r:Nat)(x:List UInt8):(keyX ws r x).length=16:=by unfold keyX;simp
theorem mixN_len{x:List UInt8}(hx:x.length=16){j:Nat}(hj:j≤4):(mixN x j).length=16:=by
 have e:∀ j,((List.range j).flatMap fun j=>mixW ((x.drop (4*j)).take 4)).length=4*j:=fun j=>by
  induction j with
  | zero=>rfl
  | succ j ih=>rw [bV,cU,aB,ih];simp [mixW];omega
 unfold mixN
 rw [aB,e,bG];omega
theorem stp_len{n:Nat}{x:List UInt8}(hx:x.length=16):(stp n x).length=16:=by
 unfold stp
 split
 ·unfold subX;simp
 ·unfold shiftX;simp
 ·exact mixN_len hx (Nat.le_refl _)
theorem stps_len{x:List UInt8}(hx:x.length=16)(n:Nat):(stps x n).length=16:=by
 induction n with
 | zero=>exact hx
 | succ n ih=>exact stp_len ih
theorem rnds_len(ws:List (List UInt8))(x:List UInt8)(n:Nat):(rnds ws x n).length=16:=by cases n <;> exact keyX_len ..
theorem enc_len(ws:List (List UInt8))(n:Nat)(x:List UInt8):(enc ws n x).length=16:=keyX_len ..
end Aes
abbrev stL(x:List UInt8)(b:Nat):List Value:=cbs x++[ptv b]
abbrev stV(x:List UInt8)(b:Nat):Value:=.agg (stL x b).toArray
theorem kD{x:List UInt8}(b:Nat)(h:x.length=16):(stL x b).length=17:=by simp [h]
theorem aPw{x:List UInt8}(b:Nat)(h:x.length=16):(stL x b)[16]?=some (ptv b):=by
 rw [aY (by rw [aI,h];exact Nat.le_refl _),aI,h];rfl
theorem aOy(b:Nat)(x:List UInt8)(hx:x.length=16):Tri prog 249 [stV x b] [(b,gU)] (fun _=>True) (fun v H=>v=stV (Aes.subX x) b∧H=[(b,gU)]):=by
 refine Tri.mk func249 rfl ntmps249 rfl fun w hw=>?_
 have hl0:=kD b hx
 have hL:(stL (Aes.subX x) b).length=17:=kD b (by simp [Aes.subX])
 refine W.j fun _ b_=>?_
 rename_i b1
 rw [show stL x b=stL (rF (Aes.subF x) x 0) b by rw [aBi]]
 refine SW.cut [1,2] [b1] (fun _:Unit=>[]) (fun _=>[(b1,cl (stL (Aes.subX x) b) 357)]) (fun _=>True) ?_ ?_
 ·refine W.k ?_
  refine cK [1,2] [b1] (fun n:Nat=>[(4,.int .i64 (n:Int))]) (fun n=>[(b1,cl (stL (rF (Aes.subF x) x n) b) 357)]) (fun n=>16-n) (fun n=>n≤16) 0 (Nat.zero_le _) ?_
  intro n hn
  by_cases h:n<16
  ·have hul:=uK (Aes.subF x) (x:=x) (k:=n) oQ
   have hp:=aPw b (hul.trans hx)
   have hv:=aHW (Aes.subF x) (x:=x) (k:=n) oQ [ptv b]
   have hs:=aAI (Aes.subF x) (x:=x) (k:=n) oQ [ptv b]
   have hlt:n<(stL (rF (Aes.subF x) x n) b).length:=by rw [kD b (hul.trans hx)];omega
   have hc:=aJQ (b:=b) (m:=Gf.backN 256) Gf.subL_len (x.getD n 0)
   rw [show u8v (Gf.subL.getD (x.getD n 0).toNat 0)=.int .u8 ((Aes.subF x n).toNat:Int) from rfl] at hc
   refine W.k ?_
   (refine SW.l [7,10] [0,1,2,3,4,5,6,8] ?_;refine bO 7 ?_)
   refine W.cq hc ?_
   (refine SL.l [9] ?_;refine bO 10 ?_;refine W.i ?_;refine SS.dn ?_)
   rw [hs]
   refine W.k ?_
   refine aQ.mk (n+1) ?_
   omega
  ·have:n=16:=oQ
   subst this
   rw [aAH _ hx,show (List.range 16).map (Aes.subF x)=Aes.subX x from rfl]
   refine W.k ?_
   refine bT.mk () ?_
   trivial
 rintro _ -
 refine W.k ?_
 exact F.cH [(b,gU)] _ ⟨rfl,rfl⟩
theorem aKP(b:Nat)(x:List UInt8)(hx:x.length=16):Tri prog 250 [stV x b] [(b,gU)] (fun _=>True) (fun v H=>v=stV (Aes.shiftX x) b∧H=[(b,gU)]):=by
 refine Tri.mk func250 rfl ntmps250 rfl fun w hw=>?_
 have hl0:=kD b hx
 have hL:(stL (Aes.shiftX x) b).length=17:=kD b (by simp [Aes.shiftX])
 have h16:(cbs x).length=16:=by rw [aI,hx]
 have hld:((stL x b).drop 0).take 16=cbs x:=by rw [bR,bW oQ,aK oQ]
 refine W.j fun _ _ b_=>?_
 rename_i b1 b2
 rw [show stL x b=stL (rF (Aes.shiftF x) x 0) b by rw [aBi]]
 refine SW.cut [1,2] [b1] (fun _:Unit=>[]) (fun _=>[(b1,cl (stL (Aes.shiftX x) b) 357)]) (fun _=>True) ?_ ?_
 ·refine W.k ?_
  refine cK [1,2,3] [b1] (fun n:Nat=>[(7,.int .i64 (n:Int))]) (fun n=>[(b1,cl (stL (rF (Aes.shiftF x) x n) b) 357)]) (fun n=>16-n) (fun n=>n≤16) 0 (Nat.zero_le _) ?_
  intro n hn
  by_cases h:n<16
  ·have hul:=uK (Aes.shiftF x) (x:=x) (k:=n) oQ
   have hv:=zX (x:=x) (k:=(n+4*(n%4))%16) oQ []
   rw [aH,show (x.getD ((n+4*(n%4))%16) 0)=Aes.shiftF x n from rfl] at hv
   have hs:=aAI (Aes.shiftF x) (x:=x) (k:=n) oQ [ptv b]
   have hlt:n<(stL (rF (Aes.shiftF x) x n) b).length:=by rw [kD b (hul.trans hx)];omega
   refine W.k ?_
   rw [hs]
   refine aQ.mk (n+1) ?_
   omega
  ·have:n=16:=oQ
   subst this
   rw [aAH _ hx,show (List.range 16).map (Aes.shiftF x)=Aes.shiftX x from rfl]
   refine W.k ?_
   refine bT.mk () ?_
   trivial
 rintro _ -
 refine W.k ?_
 exact F.cH [(b,gU)] _ ⟨rfl,rfl⟩
theorem aLN(c:List UInt8)(h4:c.length=4)(k:Nat)(hk:k<4):Tri prog 286 [.agg (cbs c).toArray,.int .i64 (k:Int)] [] (fun _=>True) (fun v H=>v=.int .u8 ((Aes.mixK c k).toNat:Int)∧H=[]):=by
 refine Tri.mk func286 rfl ntmps286 rfl fun w hw=>?_
 have e:=fun j (h:j<4)=>zX (x:=c) (k:=j) oQ []
 simp only [aH] at e
 have e0:=e 0 oQ
 have e1:=e 1 oQ
 have e2:=e 2 oQ
 have e3:=e 3 oQ
 have ek:=e k hk
 have el:=e ((k+1)%4) oQ
 clear e
 have ht:=aHV (c.getD k 0 ^^^ c.getD ((k+1)%4) 0)
 unfold Aes.mixK
 refine W.j fun b_=>?_
 (refine SW.l [] [0,1,2,3,4,5,6,7,8,9,10,11,12,13,14,15,16,17,18,19,20,21,22,23] ?_;refine bA 24 ?_)
 refine W.cq ht ?_
 (refine SL.l [25,26,27] ?_)
 refine W.k ?_
 exact F.n
theorem aLB(c:List UInt8)(h4:c.length=4):Tri prog 285 [.agg (cbs c).toArray,.func (.func 286) #[] #[]] [] (fun _=>True) (fun v H=>v=.agg (cbs (Aes.mixW c)).toArray∧H=[]):=by
 refine Tri.mk func285 rfl ntmps285 rfl fun w hw=>?_
 have hl0:(cbs c).length=4:=by rw [aI,h4]
 have hL:(cbs (Aes.mixW c)).length=4:=by rw [aI];simp [Aes.mixW]
 have hz4:(List.replicate 4 (0:UInt8)).length=4:=rfl
 refine W.j fun _ _ b_=>?_
 rename_i b1 b2
 refine SW.cut [4,5] [b_] (fun _:Unit=>[]) (fun _=>[(b_,cl (cbs (Aes.mixW c)) 193)]) (fun _=>True) ?_ ?_
 ·refine W.k ?_
  refine cK [1,2,4,5] [b_] (fun n:Nat=>[(7,.int .i64 (n:Int))]) (fun n=>[(b_,cl (cbs (rF (Aes.mixK c) (List.replicate 4 0) n)++[]) 193)]) (fun n=>4-n) (fun n=>n≤4) 0 (Nat.zero_le _) ?_
  intro n hn
  by_cases h:n<4
  ·have hul:=uK (Aes.mixK c) (x:=List.replicate 4 0) (k:=n) (by rw [hz4];omega)
   have hs:=aAI (Aes.mixK c) (x:=List.replicate 4 0) (k:=n) (by rw [hz4];omega) []
   have hlt:n<(cbs (rF (Aes.mixK c) (List.replicate 4 0) n)++[]).length:=by rw [aH,aI,hul,hz4];exact h
   refine W.k ?_
   refine dV [] rfl rfl rfl rfl rfl rfl (aLN c h4 n h) (fun _ _=>trivial) ?_
   rintro _ _ ⟨rfl,rfl⟩
   refine W.k ?_
   rw [hs]
   refine aQ.mk (n+1) ?_
   omega
  ·have:n=4:=oQ
   subst this
   rw [aAH _ hz4,aH,show (List.range 4).map (Aes.mixK c)=Aes.mixW c from rfl]
   refine W.k ?_
   refine bT.mk () ?_
   trivial
 rintro _ -
 refine W.k ?_
 exact F.cH [] _ ⟨rfl,rfl⟩
theorem aOH(c:List UInt8)(h4:c.length=4):Tri prog 270 [.agg (cbs c).toArray] [] (fun _=>True) (fun v H=>v=.agg (cbs (Aes.mixW c)).toArray∧H=[]):=by
 refine Tri.mk func270 rfl ntmps270 rfl fun w hw=>?_
 have hl0:(cbs c).length=4:=by rw [aI,h4]
 have hL:(cbs (Aes.mixW c)).length=4:=by rw [aI];simp [Aes.mixW]
 refine W.k fun _ b_=>?_
 refine W.cw (aLB c h4) ?_
 exact F.cH [] _ ⟨rfl,rfl⟩
section
variable {P:Program}{C:Ctx}{ρ:Fr}{H:Hp}{o:Oper}{t e n len l h b j:Nat}{x y z:Operand}{k kk:IntKind}{m q:Int}
theorem aNZ [kZ P t len e n] [i0:eI m l] [i1:eI q h](ho:o.op=.slice t x (some y) (some z) none)(hx:ev ρ x=some (.pointer (some ⟨b,j,none⟩)))(hy:ev ρ y=some (.int k m))(hz:ev ρ z=some (.int kk q))(h1:l<h)(h2:h≤len):Pu P C ρ H o (.slice (some ⟨b,j+l*n,none⟩) (h-l) (len-l)):=by
 have:=sW (P:=P) (C:=C) (ρ:=ρ) (H:=H) (o:=o) (l:=l) (h:=h) ho hx (.inr ⟨y,k,m,rfl,hy,i0.ok⟩) (.inr ⟨z,kk,q,rfl,hz,i1.ok⟩) oQ h2
 rwa [if_neg oQ] at this
theorem aNY [kZ P t len e n] [i0:eI m l](ho:o.op=.slice t x (some y) none none)(hx:ev ρ x=some (.pointer (some ⟨b,j,none⟩)))(hy:ev ρ y=some (.int k m))(h1:l<len):Pu P C ρ H o (.slice (some ⟨b,j+l*n,none⟩) (len-l) (len-l)):=by
 have:=sW (P:=P) (C:=C) (ρ:=ρ) (H:=H) (o:=o) (l:=l) (h:=len) ho hx (.inr ⟨y,k,m,rfl,hy,i0.ok⟩) (.inl ⟨rfl,rfl⟩) oQ (Nat.le_refl _)
 rwa [if_neg oQ] at this
end
theorem aNp(b:Nat)(x:List UInt8)(hx:x.length=16):Tri prog 269 [stV x b,.func (.func 270) #[] #[]] [(b,gU)] (fun _=>True) (fun v H=>v=stV (Aes.mixX x) b∧H=[(b,gU)]):=by
 refine Tri.mk func269 rfl ntmps269 rfl fun w hw=>?_
 have hl0:=kD b hx
 have hL:(stL (Aes.mixX x) b).length=17:=kD b (Aes.mixN_len hx (Nat.le_refl _))
 refine W.j fun _ b_=>?_
 rename_i b1
 rw [show stL x b=stL (Aes.mixN x 0) b by simp [Aes.mixN]]
 refine SW.cut [1,2,4] [b1] (fun _:Unit=>[]) (fun _=>[(b1,cl (stL (Aes.mixX x) b) 357)]) (fun _=>True) ?_ ?_
 ·refine W.k ?_
  refine cK [1,2,4] [b1] (fun n:Nat=>[(5,.int .i64 ((4*n:Nat):Int))]) (fun n=>[(b1,cl (stL (Aes.mixN x n) b) 357)]) (fun n=>4-n) (fun n=>n≤4) 0 (Nat.zero_le _) ?_
  intro n hn
  have hml:=Aes.mixN_len hx hn
  by_cases h:n<4
  ·have hml2:=kD b hml
   have hc4:((x.drop (4*n)).take 4).length=4:=by rw [aG,bG];omega
   have hdr:(Aes.mixN x n).drop (4*n)=x.drop (4*n):=by
    have e:∀ j,((List.range j).flatMap fun j=>Aes.mixW ((x.drop (4*j)).take 4)).length=4*j:=fun j=>by
     induction j with
     | zero=>rfl
     | succ j ih=>rw [bV,cU,aB,ih];simp [Aes.mixW];omega
    unfold Aes.mixN
    rw [gD,e,dW,bR,gO (by rw [e];exact Nat.le_refl _),List.nil_append]
   have hld:((stL (Aes.mixN x n) b).drop (4*n)).take 4=cbs ((x.drop (4*n)).take 4):=by
    rw [cM (by rw [aI,hml];omega),bW (by rw [bG,aI,hml];omega),← hdr]
    simp [cbs]
   have hcl:(cbs ((x.drop (4*n)).take 4)).length=4:=by rw [aI,hc4]
   have hwl:(cbs (Aes.mixW ((x.drop (4*n)).take 4))).length=4:=by rw [aI];simp [Aes.mixW]
   have hput:(stL (Aes.mixN x n) b).take (4*n)++cbs (Aes.mixW ((x.drop (4*n)).take 4))++(stL (Aes.mixN x n) b).drop (4*n+(cbs (Aes.mixW ((x.drop (4*n)).take 4))).length)=stL (Aes.mixN x (n+1)) b:=by
    have hd2:(Aes.mixN x n).drop (4*n+4)=x.drop (4*n+4):=by rw [← cJ,hdr,cJ]
    have ht2:(Aes.mixN x n).take (4*n)=(List.range n).flatMap fun j=>Aes.mixW ((x.drop (4*j)).take 4):=by
     have e:∀ j,((List.range j).flatMap fun j=>Aes.mixW ((x.drop (4*j)).take 4)).length=4*j:=fun j=>by
      induction j with
      | zero=>rfl
      | succ j ih=>rw [bV,cU,aB,ih];simp [Aes.mixW];omega
     unfold Aes.mixN
     rw [iG,e,dW,cT,aH,aK (by rw [e];exact Nat.le_refl _)]
    rw [hwl,cM (by rw [aI,hml];omega),bW (by rw [aI,hml];omega)]
    have e3:Aes.mixN x (n+1)=(Aes.mixN x n).take (4*n)++Aes.mixW ((x.drop (4*n)).take 4)++(Aes.mixN x n).drop (4*n+4):=by
     rw [ht2,hd2]
     unfold Aes.mixN
     rw [bV,cU,show 4*(n+1)=4*n+4 by omega]
     simp
    rw [e3]
    show _=cbs _++[ptv b]
    simp only [cbs,aV,iB,iJ,aM]
   haveI i1:eI (((4*n:Nat):Int)+4) (4*n+4):=⟨by omega⟩
   refine W.k ?_
   refine bP (aNZ (l:=4*n) (h:=4*n+4) rfl rfl rfl rfl oQ oQ) rfl rfl ?_
   rw [show 4*n+4-4*n=4 by omega,fX,Nat.mul_one]
   refine aMD ?_
   refine W.la ?_
   refine dV [] rfl rfl rfl rfl rfl rfl (aOH _ hc4) (fun _ _=>trivial) ?_
   rintro _ _ ⟨rfl,rfl⟩
   refine W.k fun b_=>?_
   (refine SW.l [] [0,1] ?_;refine dZ 2 rfl (aNY (l:=4*n) rfl rfl rfl oQ) ?_;refine dZ 3 rfl (yJ rfl rfl) ?_;refine bA 4 ?_)
   rw [fX,Nat.mul_one]
   refine W.cy (mm:=4) (ys:=cbs (Aes.mixW ((x.drop (4*n)).take 4))) (fun w2 hs=>eU.block hs.at (by rw [bR,aK (by rw [hwl];exact Nat.le_refl _)]) (by rw [hwl])) ?_
   rw [hput]
   (refine bC [] ?_;refine SS.dn ?_)
   refine W.k ?_
   rw [show ((4*n:Nat):Int)+4=((4*(n+1):Nat):Int) by omega]
   refine aQ.mk (n+1) ?_
   omega
  ·have:n=4:=oQ
   subst this
   rw [show Aes.mixN x 4=Aes.mixX x from rfl]
   refine W.k ?_
   refine bT.mk () ?_
   trivial
 rintro _ -
 refine W.k ?_
 exact F.cH [(b,gU)] _ ⟨rfl,rfl⟩
theorem aOw(b:Nat)(x:List UInt8)(hx:x.length=16):Tri prog 251 [stV x b] [(b,gU)] (fun _=>True) (fun v H=>v=stV (Aes.mixX x) b∧H=[(b,gU)]):=by
 refine Tri.mk func251 rfl ntmps251 rfl fun w hw=>?_
 have hl0:=kD b hx
 have hL:(stL (Aes.mixX x) b).length=17:=kD b (Aes.mixN_len hx (Nat.le_refl _))
 refine W.k fun _ b_=>?_
 refine W.cw (aNp b x hx) ?_
 exact F.cH [(b,gU)] _ ⟨rfl,rfl⟩
def sH:List Value:=[.func (.func 249) #[] #[],.func (.func 250) #[] #[],.func (.func 251) #[] #[]]
theorem aME(b sb:Nat)(n:Nat)(hn:n=2∨n=3)(x:List UInt8)(hx:x.length=16):Tri prog 248 [stV x b,.slice (some ⟨sb,0,none⟩) n n] [(sb,cl (sH.take n) 360),(b,gU)] (fun _=>True)
  (fun v H=>v=stV (Aes.stps x n) b∧H=[(sb,cl (sH.take n) 360),(b,gU)]):=by
 refine Tri.mk func248 rfl ntmps248 rfl fun w hw=>?_
 have hl0:=kD b hx
 have hl:=fun k=>kD b (Aes.stps_len hx k)
 have h0:=hl 0
 have h1:=hl 1
 have h2:=hl 2
 have h3:=hl 3
 have hL:=hl n
 clear hl
 refine W.j fun _ b_=>?_
 rename_i b1
 rw [show stL x b=stL (Aes.stps x 0) b from rfl]
 refine bQ [2,4] [(sb,cl (sH.take n) 360),(b1,cl (stL (Aes.stps x 0) b) 357),(b,gU)] (fun _:Unit=>[]) (fun _=>[(sb,cl (sH.take n) 360),(b1,cl (stL (Aes.stps x n) b) 357),(b,gU)]) (fun _=>True) ?_ ?_
 ·refine W.k ?_
  refine bF [2,4,7,8] (fun k:Nat=>[(9,.int .i64 (k:Int))]) (fun k=>[(sb,cl (sH.take n) 360),(b1,cl (stL (Aes.stps x k) b) 357),(b,gU)]) (fun k=>n-k) (fun k=>k≤n) 0 (Nat.zero_le _) ?_
  intro k hk
  by_cases h:k<n
  ·rcases (by omega:k=0∨k=1∨k=2) with rfl|rfl|rfl
   ·have hv:(sH.take n)[0]?=some (.func (.func 249) #[] #[]):=by rcases hn with rfl|rfl <;> rfl
    refine W.k ?_
    refine dV [(b,gU)] rfl rfl rfl rfl rfl rfl (aOy b (Aes.stps x 0) hx) (fun _ _=>trivial) ?_
    rintro _ _ ⟨rfl,rfl⟩
    rw [show Aes.subX (Aes.stps x 0)=Aes.stps x 1 from rfl]
    refine W.k ?_
    refine aQ.mk 1 ?_
    omega
   ·have hv:(sH.take n)[1]?=some (.func (.func 250) #[] #[]):=by rcases hn with rfl|rfl <;> rfl
    refine W.k ?_
    refine dV [(b,gU)] rfl rfl rfl rfl rfl rfl (aKP b (Aes.stps x 1) (Aes.stps_len hx 1)) (fun _ _=>trivial) ?_
    rintro _ _ ⟨rfl,rfl⟩
    rw [show Aes.shiftX (Aes.stps x 1)=Aes.stps x 2 from rfl]
    refine W.k ?_
    refine aQ.mk 2 ?_
    omega
   ·have hv:(sH.take n)[2]?=some (.func (.func 251) #[] #[]):=by rcases hn with rfl|rfl <;> first|omega|rfl
    refine W.k ?_
    refine dV [(b,gU)] rfl rfl rfl rfl rfl rfl (aOw b (Aes.stps x 2) (Aes.stps_len hx 2)) (fun _ _=>trivial) ?_
    rintro _ _ ⟨rfl,rfl⟩
    rw [show Aes.mixX (Aes.stps x 2)=Aes.stps x 3 from rfl]
    refine W.k ?_
    refine aQ.mk 3 ?_
    omega
  ·have:k=n:=oQ
   subst this
   refine W.k ?_
   refine bT.mk () ?_
   trivial
 rintro _ -
 refine W.k ?_
 exact F.cH [(sb,cl (sH.take n) 360),(b,gU)] _ ⟨rfl,rfl⟩
theorem aOv{c b n:Nat}{ws:List (List UInt8)}{Hc:Hp}(hC:aDO c b n ws Hc)(hw4:∀ y∈ws,y.length=4)(hws:ws.length≤1000)(x:List UInt8)(hx:x.length=16)(r:Nat)(hr:4*r+4≤ws.length):Tri prog 247 [ptv c,stV x b,.int .i64 (r:Int)] Hc (fun _=>True)
  (fun v H=>v=stV (Aes.keyX ws r x) b∧H=Hc):=by
 obtain⟨wv,Hs,hS,rfl⟩:=hC
 have hfl:=dI hw4
 refine Tri.mk func247 rfl ntmps247 rfl fun w hw=>?_
 have hl0:=kD b hx
 have hL:(stL (Aes.keyX ws r x) b).length=17:=kD b (Aes.keyX_len ..)
 rcases hS with ⟨-,hz,-⟩|⟨bw,len,cap,junk,rfl,hxl,hj,hlc,rfl⟩
 ·have:=congrArg List.length hz
  rw [aI,hfl] at this
  simp at this;omega
 rw [aI,hfl] at hxl
 have hlen:ws.length=len:=oQ
 subst hlen
 refine W.j fun _ b_=>?_
 rename_i b1
 rw [show stL x b=stL (rF (Aes.keyF ws r x) x 0) b by rw [aBi]]
 refine SW.cut [4,6] [b1] (fun _:Unit=>[]) (fun _=>[(b1,cl (stL (Aes.keyX ws r x) b) 357)]) (fun _=>True) ?_ ?_
 ·refine W.k ?_
  refine cK [0,2,4,6] [b1] (fun n:Nat=>[(8,.int .i64 (n:Int))]) (fun n=>[(b1,cl (stL (rF (Aes.keyF ws r x) x n) b) 357)]) (fun n=>16-n) (fun n=>n≤16) 0 (Nat.zero_le _) ?_
  intro k hk
  by_cases h:k<16
  ·have hul:=uK (Aes.keyF ws r x) (x:=x) (k:=k) oQ
   have hv:=aHW (Aes.keyF ws r x) (x:=x) (k:=k) oQ [ptv b]
   have hv2:=zX (x:=ws.flatten) (k:=(4*r+k/4)*4+k%4) (by rw [hfl];omega) junk
   have hs:=aAI (Aes.keyF ws r x) (x:=x) (k:=k) oQ [ptv b]
   have hlt:k<(stL (rF (Aes.keyF ws r x) x k) b).length:=by rw [kD b (hul.trans hx)];omega
   refine W.k ?_
   (refine SW.l [21] [0,1,2,3,4,5,6,7,8,9,10,11,12,13,14,15,16,17,18,19,20] ?_;refine bO 21 ?_;refine W.i ?_;refine SS.dn ?_)
   rw [show x.getD k 0 ^^^ ws.flatten.getD ((4*r+k/4)*4+k%4) 0=Aes.keyF ws r x k from rfl,hs]
   refine W.k ?_
   refine aQ.mk (k+1) ?_
   omega
  ·have:k=16:=oQ
   subst this
   rw [aAH _ hx,show (List.range 16).map (Aes.keyF ws r x)=Aes.keyX ws r x from rfl]
   refine W.k ?_
   refine bT.mk () ?_
   trivial
 rintro _ -
 refine W.k ?_
 exact F.cH ((c,qC b (.slice (some ⟨bw,0,none⟩) ws.length cap) (.int .i64 (n:Int)))::[(bw,cl (cbs ws.flatten++junk) 193)]) _ ⟨rfl,rfl⟩
theorem aIN(ws:List (List UInt8))(x:List UInt8)(k:Nat):(Aes.rnds ws x k).length=16:=Aes.rnds_len ws x k
theorem aH0{c b n:Nat}{ws:List (List UInt8)}{Hc:Hp}(hC:aDO c b n ws Hc)(hw4:∀ y∈ws,y.length=4)(hws:ws.length≤1000)(h1:1≤n)(hn:4*n+4≤ws.length)(x:List UInt8)(hx:x.length=16):Tri prog 209 [ptv c,.agg (cbs x).toArray] (Hc++[(b,gU)]) (fun _=>True)
  (fun v H=>v=.agg (cbs (Aes.enc ws n x)).toArray∧H=Hc++[(b,gU)]):=by
 have hk:=fun x hx r hr=>aOv hC hw4 hws x hx r hr
 obtain⟨wv,Hs,hS,rfl⟩:=hC
 have hl16:(cbs x).length=16:=by rw [aI,hx]
 have hfx:bX (fun i=>[(0,16),(16,1)][i]?) (List.replicate 16 (.int .u8 0)++[.pointer none]) [(0,.agg (cbs x).toArray),(1,ptv b)]=some (stL x b):=
  uO (off:=0) (n:=16) (cbs x++[.pointer none]) rfl (by simp [vl,hx]) (by simp) (by simp [vl]) (uO (off:=16) (n:=1) (stL x b) rfl rfl (by simp [hx]) (by simp [vl,hx]) rfl)
 refine Tri.mk func209 rfl ntmps209 rfl fun w hw=>?_
 have hbs3:bX (fun i=>some (i*1,1)) (zs [.nilFunc] 3) [(0,.func (.func 249) #[] #[]),(1,.func (.func 250) #[] #[]),(2,.func (.func 251) #[] #[])]=some (sH.take 3):=rfl
 have hbs2:bX (fun i=>some (i*1,1)) (zs [.nilFunc] 2) [(0,.func (.func 249) #[] #[]),(1,.func (.func 250) #[] #[])]=some (sH.take 2):=rfl
 have hO2:=fun k=>kD b (aIN ws x k)
 refine W.j fun _ b_=>?_
 rename_i b3
 (refine SW.l [] [0,1,2,3,4,5,6] ?_;skip )
 have hk0:=hk x hx 0 oQ
 have hC2:aDO c b n ws ((c,qC b wv (.int .i64 (n:Int)))::Hs):=⟨wv,Hs,hS,rfl⟩
 have h17:=kD b (Aes.keyX_len ws 0 x)
 refine jA 7 8 ?a ?b rfl rfl
 case' a=>
  refine W.cq hk0 ?_
  refine eB ?_
  refine bA 8 ?_
  refine W.al fun b5=>?_
 case' b=>
  refine W.al fun b5=>?_
  refine eB ?_
  refine bA 7 ?_
  refine W.cq hk0 ?_
 all_goals
  refine eB ?_
  refine bA 9 ?_
  refine W.i ?_
  refine SS.dn ?_
  refine W.j ?_
  refine SW.cut [0,4,5] [b5] (fun _:Unit=>[]) (fun _=>[(b5,cl (stL (Aes.rnds ws x (n-1)) b) 357)]) (fun _=>True) ?_ ?_
  ·refine W.k ?_
   refine cK [0,4,5] [b5] (fun k:Nat=>[(6,.int .i64 ((k+1:Nat):Int))]) (fun k=>[(b5,cl (stL (Aes.rnds ws x k) b) 357)]) (fun k=>n-k) (fun k=>k+1≤n) 0 h1 ?_
   intro k hkn
   have hlk:=hO2 k
   have hlk1:=hO2 (k+1)
   by_cases h:k+1<n
   ·refine W.k fun b_=>?_
    rename_i b8
    refine W.cw (aME b b_ 3 (.inr rfl) (Aes.rnds ws x k) (Aes.rnds_len ..)) ?_
    refine W.cq (hk _ (Aes.stps_len (Aes.rnds_len ..) 3) (k+1) oQ) ?_
    rw [show Aes.keyX ws (k+1) (Aes.stps (Aes.rnds ws x k) 3)=Aes.rnds ws x (k+1) from rfl]
    refine W.k ?_
    refine aQ.mk (k+1) ?_
    omega
   ·have:k=n-1:=oQ
    subst this
    refine W.k ?_
    refine bT.mk () ?_
    trivial
  rintro _ -
  have hlN:=hO2 (n-1)
  refine W.j ?_
  (refine SW.l [8,10] [0,1,4,5,6,7] ?_;refine bA 2 ?_)
  refine iS (fun sb=>?_) (hr:=hbs2)
  (refine bC [] ?_;refine bA 3 ?_)
  refine W.cq (aME b sb 2 (.inl rfl) (Aes.rnds ws x (n-1)) (Aes.rnds_len ..)) ?_
  (refine bC [] ?_;refine bO 8 ?_)
  refine W.cq (hk _ (Aes.stps_len (Aes.rnds_len ..) 2) n hn) ?_
  rw [show Aes.keyX ws n (Aes.stps (Aes.rnds ws x (n-1)) 2)=Aes.enc ws n x from rfl]
  have he:=Aes.enc_len ws n x
  have hfd:((stL (Aes.enc ws n x) b).drop 0).take 16=cbs (Aes.enc ws n x):=by rw [bR,bW (by rw [aI,he];exact Nat.le_refl _),aK (by rw [aI,he];exact Nat.le_refl _)]
  have hfl:(cbs (Aes.enc ws n x)).length=16:=by rw [aI,he]
  (refine SL.l [9] ?_;refine bO 10 ?_;refine W.i ?_;refine SS.dn ?_)
  refine W.k ?_
  exact F.cH ((c,qC b wv (.int .i64 (n:Int)))::Hs++[(b,gU)]) _ ⟨rfl,rfl⟩
def qD(e:UInt64)(k l:Nat):List UInt8:=Sha.beN 8 e.toNat++Sha.beN 4 k++Sha.beN 2 l++[0,0]
theorem aCa(e:UInt64)(k l:Nat):(qD e k l).length=16:=by unfold qD;simp [Sha.beN_len]
def mF(E:List UInt8→List UInt8)(e:UInt64)(k n:Nat):List UInt8:=(List.range n).flatMap fun l=>E (qD e k l)
theorem rV{E:List UInt8→List UInt8}(hE:∀ x,(E x).length=16)(e:UInt64)(k n:Nat):(mF E e k n).length=16*n:=by
 unfold mF
 induction n with
 | zero=>rfl
 | succ n ih=>rw [bV,cU,aB,ih];simp [hE];omega
theorem aBp(E:List UInt8→List UInt8)(e:UInt64)(k n:Nat):mF E e k (n+1)=mF E e k n++E (qD e k n):=by unfold mF;rw [bV,cU];simp
def dM(E:List UInt8→List UInt8)(e:UInt64)(k:Nat)(b:List UInt8):List UInt8:=aBA b ((mF E e k ((b.length+15)/16)).take b.length)
theorem mQ{E:List UInt8→List UInt8}(hE:∀ x,(E x).length=16)(e:UInt64)(k:Nat)(b:List UInt8):(dM E e k b).length=b.length:=by
 unfold dM
 rw [aF7,aG,rV hE];omega
theorem aCb{E:List UInt8→List UInt8}(hE:∀ x,(E x).length=16)(e:UInt64)(k:Nat)(b:List UInt8):dM E e k (dM E e k b)=b:=by
 have hl:=mQ hE e k b
 have hs:((mF E e k ((b.length+15)/16)).take b.length).length=b.length:=by rw [aG,rV hE];omega
 have e1:dM E e k (dM E e k b)=aBA (dM E e k b) ((mF E e k ((b.length+15)/16)).take b.length):=by
  conv=>lhs;unfold dM
  rw [show (aBA b (List.take b.length (mF E e k ((b.length+15)/16)))).length=b.length from hl]
  rfl
 rw [e1]
 unfold dM aBA
 generalize (mF E e k ((b.length+15)/16)).take b.length=s at hs
 clear e1 hl
 induction b generalizing s with
 | nil=>simp
 | cons x r ih=>
  cases s with
  | nil=>simp at hs
  | cons y t=>
   simp only [List.zipWith_cons_cons]
   rw [ih t (by simpa using hs)]
   rw [iQ,UInt8.xor_self,UInt8.xor_zero]
theorem aHZ(e:UInt64)(k l:Nat)(hk:k<4294967296)(hl:l<65536):Tri prog 210 [eG e,.int .u32 (k:Int),.int .u16 (l:Int)] [] (fun _=>True) (fun v H=>v=.agg (cbs (qD e k l)).toArray∧H=[]):=by
 refine Tri.mk func210 rfl ntmps210 rfl fun w hw=>?_
 have hc:=aCa e k l
 have hkU:(UInt64.ofNat k).toNat=k:=by rw [aW];omega
 have hlU:(UInt64.ofNat l).toNat=l:=by rw [aW];omega
 have h1:=aCl 8 e oQ oQ
 have h2:=aCl 4 (UInt64.ofNat k) oQ oQ
 have h3:=aCl 2 (UInt64.ofNat l) oQ oQ
 rw [hkU] at h2
 rw [hlU] at h3
 refine W.k fun b_=>?_
 refine aF h1 ?_
 rintro _ _ ⟨b1,rfl,rfl⟩
 have hb2:bX (fun i=>some (i*1,1)) (zs [.int .u8 0] 2) [(0,.int .u8 0),(1,.int .u8 0)]=some (cbs [0,0]):=rfl
 refine W.k ?_
 refine eJ h2 rfl ?_
 rintro _ _ ⟨b2,rfl,rfl⟩
 refine W.k ?_
 refine eJ h3 rfl ?_
 rintro _ _ ⟨b3,rfl,rfl⟩
 refine iS (fun b4=>?_) (hr:=hb2)
 refine iS (fun b5=>?_) (hr:=bs4 ..)
 have hfl:[Sha.beN 8 e.toNat,Sha.beN 4 k,Sha.beN 2 l,[0,0]].flatten=qD e k l:=by unfold qD;simp
 refine aF (vY _ [Sha.beN 8 e.toNat,Sha.beN 4 k,Sha.beN 2 l,[0,0]] (by rw [hfl,hc];decide) (by simp only [aX,List.length_nil];omega)) ?_ (hpre:=fun w2 hs=>RdS.at (T:=23) (fz:=(0,0)) (Hc:=[]) hs rfl (Nat.le_refl _) rfl (xE rfl (Rd.my (Hc:=[]) (T:=5) b1 _ hs (Sha.beN_len ..)) (Rd.my (Hc:=[]) (T:=5) b2 _ hs (Sha.beN_len ..)) (Rd.my (Hc:=[]) (T:=5) b3 _ hs (Sha.beN_len ..)) (Rd.my (Hc:=[]) (T:=5) b4 _ hs rfl)))
 rw [hfl]
 intro v6 H6 h6
 have h61:=h6.isOne
 have hc16:(cbs (qD e k l)).length=16:=by rw [aI,hc]
 rcases h6 with ⟨-,hz,-⟩|⟨b6,len6,cap6,junk,rfl,hxl,hj,hlc,rfl⟩
 ·have:=congrArg List.length hz
  rw [aI,hc] at this
  simp at this
 rw [hc16] at hxl
 have hl6:len6=16:=oQ
 subst hl6
 have hld:((cbs (qD e k l)++junk).drop 0).take 16=cbs (qD e k l):=by rw [bR,bW oQ,aK oQ]
 refine W.k ?_
 refine aMD ?_
 refine W.k ?_
 exact F.cH [] _ ⟨rfl,rfl⟩
theorem aJh{c b n:Nat}{ws:List (List UInt8)}{Hc:Hp}(hC:aDO c b n ws Hc)(hw4:∀ y∈ws,y.length=4)(hws:ws.length≤1000)(h1:1≤n)(hn:4*n+4≤ws.length)(e:UInt64)(k m:Nat)(hk:k<4294967296)(hm1:1≤m)(hm:m≤65536) :
  Tri prog 148 [ptv c,eG e,.int .u32 (k:Int),.int .i64 (m:Int)] (Hc++[(b,gU)]) (fun _=>True)
  (fun v H=>∃ Hs,RdH Hs v ((mF (Aes.enc ws n) e k ((m+15)/16)).take m)∧H=Hs++(Hc++[(b,gU)])):=by
 have hE:=fun x (hx:x.length=16)=>aH0 hC hw4 hws h1 hn x hx
 refine Tri.mk func148 rfl ntmps148 rfl fun w hw=>?_
 have hlb:=fun j=>rV (E:=Aes.enc ws n) (fun x=>Aes.enc_len ..) e k j
 refine W.j ?_
 refine bQ [3] [] (fun x:Value×Hp=>[(10,x.1)]) (fun x=>x.2) (fun x=>Sl 5 1 x.1 (cbs (mF (Aes.enc ws n) e k ((m+15)/16))) x.2) ?_ ?_
 ·refine W.k ?_
  refine bF [1,2,3,9] (fun x:Nat×Value×Hp=>[(10,x.2.1),(11,.int .i64 (x.1:Int))]) (fun x=>x.2.2++(Hc++[(b,gU)])) (fun x=>(m+15)/16-x.1) (fun x=>x.1≤(m+15)/16∧Sl 5 1 x.2.1 (cbs (mF (Aes.enc ws n) e k x.1)) x.2.2) (0,.slice none 0 0,[]) ⟨Nat.zero_le _,Sl.nil _ _⟩ ?_
  rintro⟨j,v2,H2⟩ ⟨hj,h2⟩
  dsimp only at hj h2 ⊢
  have h21:=h2.isOne
  obtain⟨a2,l2,c2,rfl,hl2⟩:=h2.form
  rw [aI,hlb,Nat.mul_one] at hl2
  subst hl2
  by_cases h:16*j<m
  ·haveI i1:Cv .u16 (j:Int) (j:Int):=⟨by show (j:Int)%65536=(j:Int);omega⟩
   refine W.k ?_
   refine W.cw (aHZ e k j hk oQ) ?_
   refine dV (Hc++[(b,gU)]) rfl rfl rfl rfl rfl rfl (hE _ (aCa e k j)) (fun _ _=>trivial) ?_
   rintro _ _ ⟨rfl,rfl⟩
   have hel:(Aes.enc ws n (qD e k j)).length=16:=Aes.enc_len ..
   have hec:(cbs (Aes.enc ws n (qD e k j))).length=16:=by rw [aI,hel]
   have hls:=aBp (Aes.enc ws n) e k j
   refine W.k fun b_=>?_
   refine W.ap h2 (ys:=cbs (Aes.enc ws n (qD e k j))) (mm:=16) (fun w2 hs=>(Sl.own 32 1 b_ (len:=16) (xs:=cbs (Aes.enc ws n (qD e k j))) oQ).srcAt hs inferInstance) (fun v3 H3 h3=>?_) (hys:=by omega) (hbytes:=by rw [aI,hlb,hec];omega)
   have h31:=h3.isOne
   rw [← jB,← hls] at h3
   refine W.k ?_
   refine aQ.mk (j+1,v3,H3) ?_
   exact⟨by omega,h3⟩
  ·have:j=(m+15)/16:=oQ
   subst this
   refine W.k ?_
   refine bT.mk (_,H2) ?_
   exact h2
 rintro⟨v2,H2⟩ h2
 dsimp only at h2 ⊢
 have h22:=h2
 rcases h2 with ⟨-,hz,-⟩|⟨b6,len6,cap6,junk,rfl,hxl,hj,hlc,rfl⟩
 ·have:=congrArg List.length hz
  rw [aI,hlb] at this
  simp at this;omega
 rw [aI,hlb] at hxl
 refine W.k ?_
 refine W.s3 ?_
 rw [show lR (some ⟨b6,0,none⟩) m 0 1=some ⟨b6,0,none⟩ by unfold lR;split <;> simp [Addr.add]]
 refine W.k ?_
 refine Fin.to ([(b6,cl (cbs (mF (Aes.enc ws n) e k ((m+15)/16))++junk) 5)]++(Hc++[(b,gU)])) ?_
 have hcut:=(RdH.of h22).cut m 0 m m (Nat.zero_le _) oQ oQ oQ
 rw [bR,iZ,show lR (some ⟨b6,0,none⟩) m 0 1=some ⟨b6,0,none⟩ by unfold lR;split <;> simp [Addr.add]] at hcut
 exact F.f1 ⟨_,hcut,rfl⟩
theorem aG1{c b n:Nat}{ws:List (List UInt8)}{Hc:Hp}(hC:aDO c b n ws Hc)(hw4:∀ y∈ws,y.length=4)(hws:ws.length≤1000)(h1:1≤n)(hn:4*n+4≤ws.length)(e:UInt64)(k:Nat)(hk:k<4294967296)(v:Value)(x:List UInt8)(hm1:1≤x.length)(hm:x.length≤65536) :
  Tri prog 89 [ptv c,eG e,.int .u32 (k:Int),v] (Hc++[(b,gU)]) (fun w=>Rd ((Hc++[(b,gU)]).map Prod.fst) w 1 v (cbs x))
  (fun r H=>∃ q,r=.slice (some ⟨q,0,none⟩) x.length x.length∧H=(q,cl (cbs (dM (Aes.enc ws n) e k x)) 5)::(Hc++[(b,gU)])):=by
 have hS:=aJh hC hw4 hws h1 hn e k x.length hk hm1 hm
 have hsl:((mF (Aes.enc ws n) e k ((x.length+15)/16)).take x.length).length=x.length:=by rw [aG,rV (fun x=>Aes.enc_len ..)];omega
 have hX:=fun u=>aOY v u x ((mF (Aes.enc ws n) e k ((x.length+15)/16)).take x.length) oQ
 rw [hsl,iN,show aBA x ((mF (Aes.enc ws n) e k ((x.length+15)/16)).take x.length)=dM (Aes.enc ws n) e k x from rfl] at hX
 refine Tri.mk func89 rfl ntmps89 rfl fun w hw=>?_
 obtain⟨a,la,ca,rfl,hl1,hc1,hr1⟩:=hw.get
 rw [aI,Nat.mul_one] at hl1
 subst hl1
 refine W.k ?_
 refine aF hS ?_
 rintro u _ ⟨Hs,hu,rfl⟩
 have hu1:=hu.one
 refine W.k ?_
 refine aF (hX u) ?_ (hpre:=fun w2 hs=>⟨hw.ro (Hc:=[]) hs,hu.rd (Hc:=[]) hs⟩)
 rintro _ _ ⟨q,rfl,rfl⟩
 refine W.k ?_
 refine Fin.to ((q,cl (cbs (dM (Aes.enc ws n) e k x)) 5)::(Hc++[(b,gU)])) ?_
 exact F.f1 ⟨q,rfl,rfl⟩
theorem aPy{p:Nat}{σ:Dv}{H:Hp}(hD:fD p σ H)(x:Int)(v:Value)(bs:List UInt8)(hbs:bs.length≤1048576)(hx : -9223372036854775808≤x∧x≤9223372036854775807):Tri prog 27 [.pointer (some ⟨p,0,none⟩),.int .i64 x,v] H (fun w=>Rd (H.map Prod.fst) w 1 v (bs.map bv))
  (fun v' H'=>v'=.bool (σ.tamB x bs.length)∧fD p (σ.tam x bs) H'):=by
 have hl:=aCm hD
 refine Tri.mk func27 rfl ntmps27 rfl fun w hw=>?_
 obtain⟨aa,len,cap,rfl,hlen,hcap,hrd⟩:=hw.get
 rw [aD,Nat.mul_one] at hlen
 subst hlen
 have hlen:σ.len=8*σ.ws.length:=rfl
 have hN:=hD.1.n
 by_cases h0:x<0
 ·have ht:σ.tamB x bs.length=false:=by unfold Dv.tamB;exact decide_eq_false oQ
  have hts:σ.tam x bs=σ:=by unfold Dv.tam;rw [ht];rfl
  rw [ht,hts]
  refine W.k ?_
  refine F.f1 ?_
  exact⟨rfl,hD⟩
 by_cases h1:(σ.len:Int)<bs.length
 ·have ht:σ.tamB x bs.length=false:=by unfold Dv.tamB;exact decide_eq_false oQ
  have hts:σ.tam x bs=σ:=by unfold Dv.tam;rw [ht];rfl
  rw [ht,hts]
  refine W.k ?_
  refine W.cw hl ?_
  refine F.f1 ?_
  refine⟨rfl,?_⟩
  simp only [aH];exact hD
 by_cases h2:(σ.len:Int)-bs.length<x
 ·have ht:σ.tamB x bs.length=false:=by unfold Dv.tamB;exact decide_eq_false oQ
  have hts:σ.tam x bs=σ:=by unfold Dv.tam;rw [ht];rfl
  rw [ht,hts]
  refine W.k ?_
  refine W.cw hl ?_
  refine W.cw hl ?_
  refine F.f1 ?_
  refine⟨rfl,?_⟩
  simp only [aH];exact hD
 have ht:σ.tamB x bs.length=true:=by unfold Dv.tamB;exact decide_eq_true oQ
 have hts:σ.tam x bs=σ.setWs (fZ Wd.tam σ.ws x.toNat bs):=by unfold Dv.tam;rw [ht];rfl
 rw [ht,hts]
 obtain⟨i,rfl⟩:∃ i:Nat,x=i:=⟨x.toNat,by omega⟩
 rw [aP]
 refine W.k ?_
 refine W.cw hl ?_
 refine W.cq hl ?_
 obtain⟨hO,bw,vp,va,Hq,Ha,h4,h3,rfl⟩:=hD
 refine W.k ?_
 refine cK [0,1,2,32,33] [bw] (fun k:Nat=>[(34,.int .i64 k)]) (fun k=>[(bw,cl ((fZ Wd.tam σ.ws i (bs.take k)).flatMap wc) 147)]) (fun k=>bs.length-k) (fun k=>k≤bs.length) 0 (Nat.zero_le _) ?_
 intro k hk
 have hok:=sU (fun j c w=>Wd.tam_ok j c) (bs.take k) σ.ws i hO.ok
 have hml:=jN Wd.tam (bs.take k) σ.ws i
 by_cases hkl:k<bs.length
 ·obtain⟨b,o,l,T,fz,rfl,hb,hbk,hys⟩:=hrd oQ
  obtain⟨c,hc⟩:∃ c,bs[k]?=some c:=⟨_,aA hkl⟩
  have hlc:l[o+k]?=some (bv c):=aAG hys (by simp [hc])
  have hm:(i+k)/8<(fZ Wd.tam σ.ws i (bs.take k)).length:=oQ
  obtain⟨u,hu⟩:∃ u,(fZ Wd.tam σ.ws i (bs.take k))[(i+k)/8]?=some u:=⟨_,aA hm⟩
  have hj:(i+k)%8<8:=Nat.mod_lt _ dQ
  have huO:=hok u (aT hu)
  have hset:=aG0 hok (v:=bv c) hu (j:=8+(i+k)%8) oQ (aEH huO.1 hj c).1
  have hok2:∀ w∈(fZ Wd.tam σ.ws i (bs.take k)).set ((i+k)/8) (u.put ((i+k)%8) c),w.Ok:=by
   rw [← pP (Wd.put ((i+k)%8) c) hu];exact xK (fun w=>Wd.put_ok _ _) _ hok
  have hset2:=aG0 hok2 (v:=bv c) (m:=(i+k)/8) (u:=u.put ((i+k)%8) c) (j:=(i+k)%8) (by rw [jP hm]) oQ (aEH (Wd.put_ok _ c huO).1 hj c).2
  have hlt:(i+k)/8*18+8+(i+k)%8<((fZ Wd.tam σ.ws i (bs.take k)).flatMap wc).length:=by rw [aGZ hok];omega
  have hlt2:(i+k)/8*18+(i+k)%8<(((fZ Wd.tam σ.ws i (bs.take k)).flatMap wc).set ((i+k)/8*18+8+(i+k)%8) (bv c)).length:=by rw [bS,aGZ hok];omega
  refine W.k ?_
  (refine SW.l [] [0,1,2,3,4,5,6,7,8,9,10,11,12,13,14,16,17] ?_;refine bA 15 ?_;refine W.i ?_;refine SG.l [18] ?_;refine bA 19 ?_;refine W.i ?_;refine SS.dn ?_)
  rw [← mA] at hset
  rw [hset,hset2]
  have hsn:((fZ Wd.tam σ.ws i (bs.take k)).set ((i+k)/8) (u.put ((i+k)%8) c)).set ((i+k)/8) { u.put ((i+k)%8) c with lasts:=(u.put ((i+k)%8) c).lasts.set ((i+k)%8) c }=fZ Wd.tam σ.ws i (bs.take (k+1)):=by
   rw [List.set_set,aZ,hc,dJ,rI,aG,cR hk]
   unfold nW
   rw [pP _ hu];rfl
  rw [hsn]
  refine W.k ?_
  refine aQ.mk (k+1) ?_
  omega
 ·have:k=bs.length:=oQ
  subst this
  rw [bN]
  refine W.k ?_
  refine Fin.perm (List.Perm.swap _ _ _) (F.f1 ?_)
  refine⟨rfl,Dv.setWs_ok hO (jN _ _ _ _) (sU (fun j c w=>Wd.tam_ok j c) bs σ.ws i hO.ok),bw,vp,va,Hq,Ha,h4,h3,?_⟩
  simp [Dv.setWs,jN]
def aBr(ws:List Wd):Nat:=(ws.filter Wd.pend).length
theorem aCy{ws:List Wd}{k:Nat}{u:Wd}(hu:ws[k]?=some u):aBr (ws.take (k+1))=aBr (ws.take k)+if u.pend=true then 1 else 0:=by
 unfold aBr
 rw [aZ,hu,dJ,List.filter_append,aB]
 cases h:u.pend <;> simp [h]
theorem aFO(ws:List Wd):aBr ws≤ws.length:=List.length_filter_le _ _
theorem aN4{p:Nat}{σ:Dv}{H:Hp}(hD:fD p σ H):Tri prog 132 [.pointer (some ⟨p,0,none⟩)] H (fun _=>True) (fun v H'=>v=.int .i64 (aBr σ.ws)∧H'=H):=by
 have hN:=hD.1.n
 obtain⟨hO,bw,vp,va,Hq,Ha,h2,h3,rfl⟩:=hD
 refine Tri.mk func132 rfl ntmps132 rfl fun w hw=>?_
 refine W.k ?_
 refine cK [12,13] [] (fun k:Nat=>[(14,.int .i64 k),(3,.int .i64 (aBr (σ.ws.take k)))]) (fun k=>[]) (fun k=>σ.ws.length-k) (fun k=>k≤σ.ws.length) 0 (Nat.zero_le _) ?_
 intro k hk
 by_cases hkl:k<σ.ws.length
 ·obtain⟨u,hu⟩:∃ u,σ.ws[k]?=some u:=⟨_,aA hkl⟩
  have hul:=(hO.ok u (aT hu)).1
  have hrow:((σ.ws.flatMap wc).drop (k*18)).take 18=wc u:=by
   have hA:((σ.ws.take k).flatMap wc).length=k*18:=by
    rw [mE wc 18 _ (fun w hw=>kH (hO.ok w (dU hw)).1),aG];congr 1;omega
   rw [qE wc σ.ws k u hu,eW hA,cW (kH hul)]
  have hwl:=kH hul
  have hp16:(wc u)[16]?=some (.bool u.pend):=by have:=(aEG [] [] hul).1;simpa using this
  have hstep:=aCy hu
  have hle:=aFO (σ.ws.take k)
  rw [aG] at hle
  cases hpe:u.pend
  ·rw [hpe] at hstep hp16
   refine W.k fun b_=>?_
   refine aQ.mk (k+1) ?_ (hr:=?_)
   ·omega
   ·refine⟨rfl,?_,rfl,rfl,trivial⟩
    rw [hstep];rfl
  ·rw [hpe] at hstep hp16
   refine W.k fun b_=>?_
   refine aQ.mk (k+1) ?_ (hr:=?_)
   ·omega
   ·refine⟨rfl,?_,rfl,rfl,trivial⟩
    rw [hstep];rfl
 ·have:k=σ.ws.length:=oQ
  subst this
  refine W.k ?_
  refine F.f1 ?_
  rw [bN]
  refine⟨rfl,?_⟩
  simp
theorem aLH{p:Nat}{σ:Dv}{H:Hp}(hD:fD p σ H):Tri prog 26 [.pointer (some ⟨p,0,none⟩)] H (fun _=>True) (fun v H'=>∃ Hs,Sl 5 1 v ((lE σ.ws).map bv) Hs∧H'=Hs++H):=by
 have hl:=aCm hD
 have hN:=hD.1.n
 have hlen:σ.len=8*σ.ws.length:=rfl
 obtain⟨hO,bw,vp,va,Hq,Ha,h2,h3,rfl⟩:=hD
 refine Tri.mk func26 rfl ntmps26 rfl fun w hw=>?_
 refine W.k ?_
 refine W.cw hl ?_;intro b_
 refine cK [14,15] [b_] (fun x:Nat×Value×Hp=>[(3,x.2.1),(16,.int .i64 x.1)]) (fun x=>x.2.2) (fun x=>σ.ws.length-x.1) (fun x=>x.1≤σ.ws.length∧Sl 5 1 x.2.1 ((lE (σ.ws.take x.1)).map bv) x.2.2)
  (0,_,[(b_,cl (zs [.int .u8 0] σ.len) 5)]) ⟨Nat.zero_le _,.inr ⟨b_,0,σ.len,zs [.int .u8 0] σ.len,rfl,rfl,by simp [lH],Nat.zero_le _,by simp [lE]⟩⟩ ?_
 rintro⟨k,v,Hs⟩ ⟨hk,hv⟩
 dsimp only at hk hv ⊢
 have hov:=hv.one
 by_cases hkl:k<σ.ws.length
 ·obtain⟨u,hu⟩:∃ u,σ.ws[k]?=some u:=⟨_,aA hkl⟩
  have hul:=(hO.ok u (aT hu)).1
  have hrow:((σ.ws.flatMap wc).drop (k*18)).take 18=wc u:=by
   have hA:((σ.ws.take k).flatMap wc).length=k*18:=by
    rw [mE wc 18 _ (fun w hw=>kH (hO.ok w (dU hw)).1),aG];congr 1;omega
   rw [qE wc σ.ws k u hu,eW hA,cW (kH hul)]
  have hwl:=kH hul
  have h8:((wc u).drop 0).take (8*1)=u.lasts.map bv:=by unfold wc;rw [bR,cW (by simpa using hul.1)]
  refine W.k fun b_=>?_
  have hll:(u.lasts.map bv).length=8*1:=by simpa using hul.1
  have hlb:((lE (σ.ws.take k)).map bv).length≤65536:=by
   rw [aD,aAX (fun w hw=>hO.ok w (dU hw)),aG];omega
  refine W.ap hv (fun w2 hs=>eU.own hs h8 hll) (fun v2 Hs2 hv2=>?_)
  have hov2:=hv2.one
  have e:lE (σ.ws.take (k+1))=lE (σ.ws.take k)++u.lasts:=by unfold lE;rw [aZ,hu,dJ,cU];simp
  refine W.k ?_
  refine aQ.mk (k+1,v2,Hs2) ?_
  refine⟨by omega,?_⟩
  dsimp only
  rw [e,aV];exact hv2
 ·have:k=σ.ws.length:=oQ
  subst this
  rw [bN] at hv
  refine W.k ?_
  refine F.f1 ?_
  refine⟨Hs,hv,?_⟩
  simp
end
end Go.Proofs.YtnhnpjokpelkbaaGreat
