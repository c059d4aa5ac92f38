/- The program's AES: a block is encrypted. -/
import Derived.Test.YtmceanmblcadcaaGreatPn14
import Derived.Test.YtmceanmblcadcaaGreatPn12
set_option linter.unusedVariables false
set_option linter.unusedSimpArgs false
set_option linter.unusedSectionVars false
set_option maxHeartbeats 1000000
namespace Go.Proofs.YtmceanmblcadcaaGreat
open Go Go.Proofs.Tryz
section
attribute [local irreducible] SW SL SQ SH SA SS Pu Fin bU aP
def oG(f:Nat→UInt8)(x:List UInt8)(k:Nat):List UInt8:=(List.range k).map f++x.drop k
theorem qZ(f:Nat→UInt8){x:List UInt8}{k:Nat}(h:k≤x.length):(oG f x k).length=x.length:=by unfold oG;simp;omega
theorem xX(f:Nat→UInt8)(x:List UInt8):oG f x 0=x:=by simp [oG]
theorem wS(f:Nat→UInt8){x:List UInt8}{n:Nat}(h:x.length=n):oG f x n=(List.range n).map f:=by unfold oG;rw [fL oQ,aE]
theorem aEq(f:Nat→UInt8){x:List UInt8}{k:Nat}(h:k<x.length)(r:List Value):(cbs (oG f x k)++r)[k]?=some (.int .u8 ((x.getD k 0).toNat:Int)):=by
 rw [aK (by rw [aF,qZ f oQ];exact h)]
 unfold oG cbs
 rw [bC,aO (by simp),aJ,aJ,dS,cZ,aL,bA,jD,aA h,aC,aA h]
 rfl
theorem wT(f:Nat→UInt8){x:List UInt8}{k:Nat}(h:k<x.length)(r:List Value):(cbs (oG f x k)++r).set k (.int .u8 ((f k).toNat:Int))=cbs (oG f x (k+1))++r:=by
 have e:(cbs (oG f x k)).set k (.int .u8 ((f k).toNat:Int))=cbs (oG f x (k+1)):=by
  unfold oG cbs
  rw [bC,bL _ _ (by simp),aJ,aJ,dS,cZ,bS h,dZ,fH,bJ]
  simp
 rw [fG _ _ (by rw [aF,qZ f oQ];exact h),e]
theorem vV{x:List UInt8}{k:Nat}(h:k<x.length)(r:List Value):(cbs x++r)[k]?=some (.int .u8 ((x.getD k 0).toNat:Int)):=by
 rw [aK (by rw [aF];exact h)]
 unfold cbs
 rw [aL,aC,aA h]
 rfl
namespace Aes
def keyF(ws:List (List UInt8))(r:Nat)(x:List UInt8)(k:Nat):UInt8:=x.getD k 0 ^^^ ws.flatten.getD ((4*r+k/4)*4+k%4) 0
def keyX(ws:List (List UInt8))(r:Nat)(x:List UInt8):List UInt8:=(List.range 16).map (keyF ws r x)
def subF(x:List UInt8)(k:Nat):UInt8:=S (x.getD k 0)
def subX(x:List UInt8):List UInt8:=(List.range 16).map (subF x)
def shiftF(x:List UInt8)(k:Nat):UInt8:=x.getD ((k+4*(k%4))%16) 0
def shiftX(x:List UInt8):List UInt8:=(List.range 16).map (shiftF x)
def mixK(c:List UInt8)(k:Nat):UInt8:=c.getD 0 0 ^^^ c.getD 1 0 ^^^ c.getD 2 0 ^^^ c.getD 3 0 ^^^ c.getD k 0 ^^^ Gf.twice (c.getD k 0 ^^^ c.getD ((k+1)%4) 0)
def mixW(c:List UInt8):List UInt8:=(List.range 4).map (mixK c)
def mixN(x:List UInt8)(j:Nat):List UInt8:=((List.range j).flatMap fun j=>mixW ((x.drop (4*j)).take 4))++x.drop (4*j)
def mixX(x:List UInt8):List UInt8:=mixN x 4
def stp:Nat→List UInt8→List UInt8
 | 0=>subX
 | 1=>shiftX
 | _=>mixX
def stps(x:List UInt8):Nat→List UInt8
 | 0=>x
 | n+1=>stp n (stps x n)
def rnds(ws:List (List UInt8))(x:List UInt8):Nat→List UInt8
 | 0=>keyX ws 0 x
 | n+1=>keyX ws (n+1) (stps (rnds ws x n) 3)
def enc(ws:List (List UInt8))(n:Nat)(x:List UInt8):List UInt8:=keyX ws n (stps (rnds ws x (n-1)) 2)
theorem keyX_len(ws:List (List UInt8))(r:Nat)(x:List UInt8):(keyX ws r x).length=16:=by unfold keyX;simp
theorem mixN_len{x:List UInt8}(hx:x.length=16){j:Nat}(hj:j≤4):(mixN x j).length=16:=by
 have e:∀ j,((List.range j).flatMap fun j=>mixW ((x.drop (4*j)).take 4)).length=4*j:=fun j=>by
  induction j with
  | zero=>rfl
  | succ j ih=>rw [bJ,cO,aB,ih];simp [mixW];omega
 unfold mixN
 rw [aB,e,aW];omega
theorem stp_len{n:Nat}{x:List UInt8}(hx:x.length=16):(stp n x).length=16:=by
 unfold stp
 split
 ·unfold subX;simp
 ·unfold shiftX;simp
 ·exact mixN_len hx (Nat.le_refl _)
theorem stps_len{x:List UInt8}(hx:x.length=16)(n:Nat):(stps x n).length=16:=by
 induction n with
 | zero=>exact hx
 | succ n ih=>exact stp_len ih
theorem rnds_len(ws:List (List UInt8))(x:List UInt8)(n:Nat):(rnds ws x n).length=16:=by cases n <;> exact keyX_len ..
theorem enc_len(ws:List (List UInt8))(n:Nat)(x:List UInt8):(enc ws n x).length=16:=keyX_len ..
end Aes
abbrev stL(x:List UInt8)(b:Nat):List Value:=cbs x++[ptv b]
abbrev stV(x:List UInt8)(b:Nat):Value:=.agg (stL x b).toArray
theorem iQ{x:List UInt8}(b:Nat)(h:x.length=16):(stL x b).length=17:=by simp [h]
theorem aK8{x:List UInt8}(b:Nat)(h:x.length=16):(stL x b)[16]?=some (ptv b):=by
 rw [aO (by rw [aF,h];exact Nat.le_refl _),aF,h];rfl
theorem aKk(b:Nat)(x:List UInt8)(hx:x.length=16):Tri prog 252 [stV x b] [(b,fN)] (fun _=>True) (fun v H=>v=stV (Aes.subX x) b∧H=[(b,fN)]):=by
 refine Tri.mk func252 rfl ntmps252 rfl fun w hw=>?_
 have hl0:=iQ b hx
 have hL:(stL (Aes.subX x) b).length=17:=iQ b (by simp [Aes.subX])
 refine W.j fun _ b_=>?_
 rename_i b1
 rw [show stL x b=stL (oG (Aes.subF x) x 0) b by rw [xX]]
 refine SW.cut [1,2] [b1] (fun _:Unit=>[]) (fun _=>[(b1,cl (stL (Aes.subX x) b) 372)]) (fun _=>True) ?_ ?_
 ·refine W.k ?_
  refine bX [1,2] [b1] (fun n:Nat=>[(4,.int .i64 (n:Int))]) (fun n=>[(b1,cl (stL (oG (Aes.subF x) x n) b) 372)]) (fun n=>16-n) (fun n=>n≤16) 0 (Nat.zero_le _) ?_
  intro n hn
  by_cases h:n<16
  ·have hul:=qZ (Aes.subF x) (x:=x) (k:=n) oQ
   have hp:=aK8 b (hul.trans hx)
   have hv:=aEq (Aes.subF x) (x:=x) (k:=n) oQ [ptv b]
   have hs:=wT (Aes.subF x) (x:=x) (k:=n) oQ [ptv b]
   have hlt:n<(stL (oG (Aes.subF x) x n) b).length:=by rw [iQ b (hul.trans hx)];omega
   have hc:=aF8 (b:=b) (m:=Gf.backN 256) Gf.subL_len (x.getD n 0)
   rw [show u8v (Gf.subL.getD (x.getD n 0).toNat 0)=.int .u8 ((Aes.subF x n).toNat:Int) from rfl] at hc
   refine W.k ?_
   (refine SW.l [7,10] [0,1,2,3,4,5,6,8] ?_;refine cQ 7 ?_)
   refine W.cq hc ?_
   (refine SL.l [9] ?_;refine cQ 10 ?_;refine W.i ?_;refine eH ?_)
   rw [hs]
   refine W.k ?_
   refine aP.mk (n+1) ?_
   omega
  ·have:n=16:=oQ
   subst this
   rw [wS _ hx,show (List.range 16).map (Aes.subF x)=Aes.subX x from rfl]
   refine W.k ?_
   refine bU.mk () ?_
   trivial
 rintro _ -
 refine W.k ?_
 exact F.cH [(b,fN)] _ ⟨rfl,rfl⟩
theorem aGZ(b:Nat)(x:List UInt8)(hx:x.length=16):Tri prog 253 [stV x b] [(b,fN)] (fun _=>True) (fun v H=>v=stV (Aes.shiftX x) b∧H=[(b,fN)]):=by
 refine Tri.mk func253 rfl ntmps253 rfl fun w hw=>?_
 have hl0:=iQ b hx
 have hL:(stL (Aes.shiftX x) b).length=17:=iQ b (by simp [Aes.shiftX])
 have h16:(cbs x).length=16:=by rw [aF,hx]
 have hld:((stL x b).drop 0).take 16=cbs x:=by rw [bN,bM oQ,aG oQ]
 refine W.j fun _ _ b_=>?_
 rename_i b1 b2
 rw [show stL x b=stL (oG (Aes.shiftF x) x 0) b by rw [xX]]
 refine SW.cut [1,2] [b1] (fun _:Unit=>[]) (fun _=>[(b1,cl (stL (Aes.shiftX x) b) 372)]) (fun _=>True) ?_ ?_
 ·refine W.k ?_
  refine bX [1,2,3] [b1] (fun n:Nat=>[(7,.int .i64 (n:Int))]) (fun n=>[(b1,cl (stL (oG (Aes.shiftF x) x n) b) 372)]) (fun n=>16-n) (fun n=>n≤16) 0 (Nat.zero_le _) ?_
  intro n hn
  by_cases h:n<16
  ·have hul:=qZ (Aes.shiftF x) (x:=x) (k:=n) oQ
   have hv:=vV (x:=x) (k:=(n+4*(n%4))%16) oQ []
   rw [aE,show (x.getD ((n+4*(n%4))%16) 0)=Aes.shiftF x n from rfl] at hv
   have hs:=wT (Aes.shiftF x) (x:=x) (k:=n) oQ [ptv b]
   have hlt:n<(stL (oG (Aes.shiftF x) x n) b).length:=by rw [iQ b (hul.trans hx)];omega
   refine W.k ?_
   rw [hs]
   refine aP.mk (n+1) ?_
   omega
  ·have:n=16:=oQ
   subst this
   rw [wS _ hx,show (List.range 16).map (Aes.shiftF x)=Aes.shiftX x from rfl]
   refine W.k ?_
   refine bU.mk () ?_
   trivial
 rintro _ -
 refine W.k ?_
 exact F.cH [(b,fN)] _ ⟨rfl,rfl⟩
theorem aHR(c:List UInt8)(h4:c.length=4)(k:Nat)(hk:k<4):Tri prog 301 [.agg (cbs c).toArray,.int .i64 (k:Int)] [] (fun _=>True) (fun v H=>v=.int .u8 ((Aes.mixK c k).toNat:Int)∧H=[]):=by
 refine Tri.mk func301 rfl ntmps301 rfl fun w hw=>?_
 have e:=fun j (h:j<4)=>vV (x:=c) (k:=j) oQ []
 simp only [aE] at e
 have e0:=e 0 oQ
 have e1:=e 1 oQ
 have e2:=e 2 oQ
 have e3:=e 3 oQ
 have ek:=e k hk
 have el:=e ((k+1)%4) oQ
 clear e
 have ht:=aEp (c.getD k 0 ^^^ c.getD ((k+1)%4) 0)
 unfold Aes.mixK
 refine W.j fun b_=>?_
 (refine SW.l [] [0,1,2,3,4,5,6,7,8,9,10,11,12,13,14,15,16,17,18,19,20,21,22,23] ?_;refine aU 24 ?_)
 refine W.cq ht ?_
 (refine SL.l [25,26,27] ?_)
 refine W.k ?_
 exact F.n
theorem aHL(c:List UInt8)(h4:c.length=4):Tri prog 300 [.agg (cbs c).toArray,.func (.func 301) #[] #[]] [] (fun _=>True) (fun v H=>v=.agg (cbs (Aes.mixW c)).toArray∧H=[]):=by
 refine Tri.mk func300 rfl ntmps300 rfl fun w hw=>?_
 have hl0:(cbs c).length=4:=by rw [aF,h4]
 have hL:(cbs (Aes.mixW c)).length=4:=by rw [aF];simp [Aes.mixW]
 have hz4:(List.replicate 4 (0:UInt8)).length=4:=rfl
 refine W.j fun _ _ b_=>?_
 rename_i b1 b2
 refine SW.cut [4,5] [b_] (fun _:Unit=>[]) (fun _=>[(b_,cl (cbs (Aes.mixW c)) 192)]) (fun _=>True) ?_ ?_
 ·refine W.k ?_
  refine bX [1,2,4,5] [b_] (fun n:Nat=>[(7,.int .i64 (n:Int))]) (fun n=>[(b_,cl (cbs (oG (Aes.mixK c) (List.replicate 4 0) n)++[]) 192)]) (fun n=>4-n) (fun n=>n≤4) 0 (Nat.zero_le _) ?_
  intro n hn
  by_cases h:n<4
  ·have hul:=qZ (Aes.mixK c) (x:=List.replicate 4 0) (k:=n) (by rw [hz4];omega)
   have hs:=wT (Aes.mixK c) (x:=List.replicate 4 0) (k:=n) (by rw [hz4];omega) []
   have hlt:n<(cbs (oG (Aes.mixK c) (List.replicate 4 0) n)++[]).length:=by rw [aE,aF,hul,hz4];exact h
   refine W.k ?_
   refine dN [] rfl rfl rfl rfl rfl rfl (aHR c h4 n h) (fun _ _=>trivial) ?_
   rintro _ _ ⟨rfl,rfl⟩
   refine W.k ?_
   rw [hs]
   refine aP.mk (n+1) ?_
   omega
  ·have:n=4:=oQ
   subst this
   rw [wS _ hz4,aE,show (List.range 4).map (Aes.mixK c)=Aes.mixW c from rfl]
   refine W.k ?_
   refine bU.mk () ?_
   trivial
 rintro _ -
 refine W.k ?_
 exact F.cH [] _ ⟨rfl,rfl⟩
theorem aKu(c:List UInt8)(h4:c.length=4):Tri prog 282 [.agg (cbs c).toArray] [] (fun _=>True) (fun v H=>v=.agg (cbs (Aes.mixW c)).toArray∧H=[]):=by
 refine Tri.mk func282 rfl ntmps282 rfl fun w hw=>?_
 have hl0:(cbs c).length=4:=by rw [aF,h4]
 have hL:(cbs (Aes.mixW c)).length=4:=by rw [aF];simp [Aes.mixW]
 refine W.k fun _ b_=>?_
 refine W.cw (aHL c h4) ?_
 exact F.cH [] _ ⟨rfl,rfl⟩
section
variable {P:Program}{C:Ctx}{ρ:Fr}{H:Hp}{o:Oper}{t e n len l h b j:Nat}{x y z:Operand}{k kk:IntKind}{m q:Int}
theorem aJU [jJ P t len e n] [i0:dK m l] [i1:dK q h](ho:o.op=.slice t x (some y) (some z) none)(hx:ev ρ x=some (.pointer (some ⟨b,j,none⟩)))(hy:ev ρ y=some (.int k m))(hz:ev ρ z=some (.int kk q))(h1:l<h)(h2:h≤len):Pu P C ρ H o (.slice (some ⟨b,j+l*n,none⟩) (h-l) (len-l)):=by
 have:=pN (P:=P) (C:=C) (ρ:=ρ) (H:=H) (o:=o) (l:=l) (h:=h) ho hx (.inr ⟨y,k,m,rfl,hy,i0.ok⟩) (.inr ⟨z,kk,q,rfl,hz,i1.ok⟩) oQ h2
 rwa [if_neg oQ] at this
theorem aJT [jJ P t len e n] [i0:dK m l](ho:o.op=.slice t x (some y) none none)(hx:ev ρ x=some (.pointer (some ⟨b,j,none⟩)))(hy:ev ρ y=some (.int k m))(h1:l<len):Pu P C ρ H o (.slice (some ⟨b,j+l*n,none⟩) (len-l) (len-l)):=by
 have:=pN (P:=P) (C:=C) (ρ:=ρ) (H:=H) (o:=o) (l:=l) (h:=len) ho hx (.inr ⟨y,k,m,rfl,hy,i0.ok⟩) (.inl ⟨rfl,rfl⟩) oQ (Nat.le_refl _)
 rwa [if_neg oQ] at this
end
theorem aJi(b:Nat)(x:List UInt8)(hx:x.length=16):Tri prog 281 [stV x b,.func (.func 282) #[] #[]] [(b,fN)] (fun _=>True) (fun v H=>v=stV (Aes.mixX x) b∧H=[(b,fN)]):=by
 refine Tri.mk func281 rfl ntmps281 rfl fun w hw=>?_
 have hl0:=iQ b hx
 have hL:(stL (Aes.mixX x) b).length=17:=iQ b (Aes.mixN_len hx (Nat.le_refl _))
 refine W.j fun _ b_=>?_
 rename_i b1
 rw [show stL x b=stL (Aes.mixN x 0) b by simp [Aes.mixN]]
 refine SW.cut [1,2,4] [b1] (fun _:Unit=>[]) (fun _=>[(b1,cl (stL (Aes.mixX x) b) 372)]) (fun _=>True) ?_ ?_
 ·refine W.k ?_
  refine bX [1,2,4] [b1] (fun n:Nat=>[(5,.int .i64 ((4*n:Nat):Int))]) (fun n=>[(b1,cl (stL (Aes.mixN x n) b) 372)]) (fun n=>4-n) (fun n=>n≤4) 0 (Nat.zero_le _) ?_
  intro n hn
  have hml:=Aes.mixN_len hx hn
  by_cases h:n<4
  ·have hml2:=iQ b hml
   have hc4:((x.drop (4*n)).take 4).length=4:=by rw [aI,aW];omega
   have hdr:(Aes.mixN x n).drop (4*n)=x.drop (4*n):=by
    have e:∀ j,((List.range j).flatMap fun j=>Aes.mixW ((x.drop (4*j)).take 4)).length=4*j:=fun j=>by
     induction j with
     | zero=>rfl
     | succ j ih=>rw [bJ,cO,aB,ih];simp [Aes.mixW];omega
    unfold Aes.mixN
    rw [fK,e,cZ,bN,fL (by rw [e];exact Nat.le_refl _),List.nil_append]
   have hld:((stL (Aes.mixN x n) b).drop (4*n)).take 4=cbs ((x.drop (4*n)).take 4):=by
    rw [bW (by rw [aF,hml];omega),bM (by rw [aW,aF,hml];omega),← hdr]
    simp [cbs]
   have hcl:(cbs ((x.drop (4*n)).take 4)).length=4:=by rw [aF,hc4]
   have hwl:(cbs (Aes.mixW ((x.drop (4*n)).take 4))).length=4:=by rw [aF];simp [Aes.mixW]
   have hput:(stL (Aes.mixN x n) b).take (4*n)++cbs (Aes.mixW ((x.drop (4*n)).take 4))++(stL (Aes.mixN x n) b).drop (4*n+(cbs (Aes.mixW ((x.drop (4*n)).take 4))).length)=stL (Aes.mixN x (n+1)) b:=by
    have hd2:(Aes.mixN x n).drop (4*n+4)=x.drop (4*n+4):=by rw [← cG,hdr,cG]
    have ht2:(Aes.mixN x n).take (4*n)=(List.range n).flatMap fun j=>Aes.mixW ((x.drop (4*j)).take 4):=by
     have e:∀ j,((List.range j).flatMap fun j=>Aes.mixW ((x.drop (4*j)).take 4)).length=4*j:=fun j=>by
      induction j with
      | zero=>rfl
      | succ j ih=>rw [bJ,cO,aB,ih];simp [Aes.mixW];omega
     unfold Aes.mixN
     rw [gR,e,cZ,dF,aE,aG (by rw [e];exact Nat.le_refl _)]
    rw [hwl,bW (by rw [aF,hml];omega),bM (by rw [aF,hml];omega)]
    have e3:Aes.mixN x (n+1)=(Aes.mixN x n).take (4*n)++Aes.mixW ((x.drop (4*n)).take 4)++(Aes.mixN x n).drop (4*n+4):=by
     rw [ht2,hd2]
     unfold Aes.mixN
     rw [bJ,cO,show 4*(n+1)=4*n+4 by omega]
     simp
    rw [e3]
    show _=cbs _++[ptv b]
    simp only [cbs,bC,iG,jH,bF]
   haveI i1:dK (((4*n:Nat):Int)+4) (4*n+4):=⟨by omega⟩
   refine W.k ?_
   refine bD (aJU (l:=4*n) (h:=4*n+4) rfl rfl rfl rfl oQ oQ) rfl rfl ?_
   rw [show 4*n+4-4*n=4 by omega,eX,Nat.mul_one]
   refine aIB ?_
   refine W.la ?_
   refine dN [] rfl rfl rfl rfl rfl rfl (aKu _ hc4) (fun _ _=>trivial) ?_
   rintro _ _ ⟨rfl,rfl⟩
   refine W.k fun b_=>?_
   (refine SW.l [] [0,1] ?_;refine eW 2 rfl (aJT (l:=4*n) rfl rfl rfl oQ) ?_;refine eW 3 rfl (uM rfl rfl) ?_;refine aU 4 ?_)
   rw [eX,Nat.mul_one]
   refine W.cy (mm:=4) (ys:=cbs (Aes.mixW ((x.drop (4*n)).take 4))) (fun w2 hs=>eJ.block hs.at (by rw [bN,aG (by rw [hwl];exact Nat.le_refl _)]) (by rw [hwl])) ?_
   rw [hput]
   (refine bI [] ?_;refine eH ?_)
   refine W.k ?_
   rw [show ((4*n:Nat):Int)+4=((4*(n+1):Nat):Int) by omega]
   refine aP.mk (n+1) ?_
   omega
  ·have:n=4:=oQ
   subst this
   rw [show Aes.mixN x 4=Aes.mixX x from rfl]
   refine W.k ?_
   refine bU.mk () ?_
   trivial
 rintro _ -
 refine W.k ?_
 exact F.cH [(b,fN)] _ ⟨rfl,rfl⟩
theorem aKi(b:Nat)(x:List UInt8)(hx:x.length=16):Tri prog 254 [stV x b] [(b,fN)] (fun _=>True) (fun v H=>v=stV (Aes.mixX x) b∧H=[(b,fN)]):=by
 refine Tri.mk func254 rfl ntmps254 rfl fun w hw=>?_
 have hl0:=iQ b hx
 have hL:(stL (Aes.mixX x) b).length=17:=iQ b (Aes.mixN_len hx (Nat.le_refl _))
 refine W.k fun _ b_=>?_
 refine W.cw (aJi b x hx) ?_
 exact F.cH [(b,fN)] _ ⟨rfl,rfl⟩
def pD:List Value:=[.func (.func 252) #[] #[],.func (.func 253) #[] #[],.func (.func 254) #[] #[]]
theorem aIC(b sb:Nat)(n:Nat)(hn:n=2∨n=3)(x:List UInt8)(hx:x.length=16):Tri prog 251 [stV x b,.slice (some ⟨sb,0,none⟩) n n] [(sb,cl (pD.take n) 375),(b,fN)] (fun _=>True)
  (fun v H=>v=stV (Aes.stps x n) b∧H=[(sb,cl (pD.take n) 375),(b,fN)]):=by
 refine Tri.mk func251 rfl ntmps251 rfl fun w hw=>?_
 have hl0:=iQ b hx
 have hl:=fun k=>iQ b (Aes.stps_len hx k)
 have h0:=hl 0
 have h1:=hl 1
 have h2:=hl 2
 have h3:=hl 3
 have hL:=hl n
 clear hl
 refine W.j fun _ b_=>?_
 rename_i b1
 rw [show stL x b=stL (Aes.stps x 0) b from rfl]
 refine bZ [2,4] [(sb,cl (pD.take n) 375),(b1,cl (stL (Aes.stps x 0) b) 372),(b,fN)] (fun _:Unit=>[]) (fun _=>[(sb,cl (pD.take n) 375),(b1,cl (stL (Aes.stps x n) b) 372),(b,fN)]) (fun _=>True) ?_ ?_
 ·refine W.k ?_
  refine bH [2,4,7,8] (fun k:Nat=>[(9,.int .i64 (k:Int))]) (fun k=>[(sb,cl (pD.take n) 375),(b1,cl (stL (Aes.stps x k) b) 372),(b,fN)]) (fun k=>n-k) (fun k=>k≤n) 0 (Nat.zero_le _) ?_
  intro k hk
  by_cases h:k<n
  ·rcases (by omega:k=0∨k=1∨k=2) with rfl|rfl|rfl
   ·have hv:(pD.take n)[0]?=some (.func (.func 252) #[] #[]):=by rcases hn with rfl|rfl <;> rfl
    refine W.k ?_
    refine dN [(b,fN)] rfl rfl rfl rfl rfl rfl (aKk b (Aes.stps x 0) hx) (fun _ _=>trivial) ?_
    rintro _ _ ⟨rfl,rfl⟩
    rw [show Aes.subX (Aes.stps x 0)=Aes.stps x 1 from rfl]
    refine W.k ?_
    refine aP.mk 1 ?_
    omega
   ·have hv:(pD.take n)[1]?=some (.func (.func 253) #[] #[]):=by rcases hn with rfl|rfl <;> rfl
    refine W.k ?_
    refine dN [(b,fN)] rfl rfl rfl rfl rfl rfl (aGZ b (Aes.stps x 1) (Aes.stps_len hx 1)) (fun _ _=>trivial) ?_
    rintro _ _ ⟨rfl,rfl⟩
    rw [show Aes.shiftX (Aes.stps x 1)=Aes.stps x 2 from rfl]
    refine W.k ?_
    refine aP.mk 2 ?_
    omega
   ·have hv:(pD.take n)[2]?=some (.func (.func 254) #[] #[]):=by rcases hn with rfl|rfl <;> first|omega|rfl
    refine W.k ?_
    refine dN [(b,fN)] rfl rfl rfl rfl rfl rfl (aKi b (Aes.stps x 2) (Aes.stps_len hx 2)) (fun _ _=>trivial) ?_
    rintro _ _ ⟨rfl,rfl⟩
    rw [show Aes.mixX (Aes.stps x 2)=Aes.stps x 3 from rfl]
    refine W.k ?_
    refine aP.mk 3 ?_
    omega
  ·have:k=n:=oQ
   subst this
   refine W.k ?_
   refine bU.mk () ?_
   trivial
 rintro _ -
 refine W.k ?_
 exact F.cH [(sb,cl (pD.take n) 375),(b,fN)] _ ⟨rfl,rfl⟩
theorem aKh{c b n:Nat}{ws:List (List UInt8)}{Hc:Hp}(hC:aBj c b n ws Hc)(hw4:∀ y∈ws,y.length=4)(hws:ws.length≤1000)(x:List UInt8)(hx:x.length=16)(r:Nat)(hr:4*r+4≤ws.length):Tri prog 250 [ptv c,stV x b,.int .i64 (r:Int)] Hc (fun _=>True)
  (fun v H=>v=stV (Aes.keyX ws r x) b∧H=Hc):=by
 obtain⟨wv,Hs,hS,rfl⟩:=hC
 have hfl:=eI hw4
 refine Tri.mk func250 rfl ntmps250 rfl fun w hw=>?_
 have hl0:=iQ b hx
 have hL:(stL (Aes.keyX ws r x) b).length=17:=iQ b (Aes.keyX_len ..)
 rcases hS with ⟨-,hz,-⟩|⟨bw,len,cap,junk,rfl,hxl,hj,hlc,rfl⟩
 ·have:=congrArg List.length hz
  rw [aF,hfl] at this
  simp at this;omega
 rw [aF,hfl] at hxl
 have hlen:ws.length=len:=oQ
 subst hlen
 refine W.j fun _ b_=>?_
 rename_i b1
 rw [show stL x b=stL (oG (Aes.keyF ws r x) x 0) b by rw [xX]]
 refine SW.cut [4,6] [b1] (fun _:Unit=>[]) (fun _=>[(b1,cl (stL (Aes.keyX ws r x) b) 372)]) (fun _=>True) ?_ ?_
 ·refine W.k ?_
  refine bX [0,2,4,6] [b1] (fun n:Nat=>[(8,.int .i64 (n:Int))]) (fun n=>[(b1,cl (stL (oG (Aes.keyF ws r x) x n) b) 372)]) (fun n=>16-n) (fun n=>n≤16) 0 (Nat.zero_le _) ?_
  intro k hk
  by_cases h:k<16
  ·have hul:=qZ (Aes.keyF ws r x) (x:=x) (k:=k) oQ
   have hv:=aEq (Aes.keyF ws r x) (x:=x) (k:=k) oQ [ptv b]
   have hv2:=vV (x:=ws.flatten) (k:=(4*r+k/4)*4+k%4) (by rw [hfl];omega) junk
   have hs:=wT (Aes.keyF ws r x) (x:=x) (k:=k) oQ [ptv b]
   have hlt:k<(stL (oG (Aes.keyF ws r x) x k) b).length:=by rw [iQ b (hul.trans hx)];omega
   refine W.k ?_
   (refine SW.l [21] [0,1,2,3,4,5,6,7,8,9,10,11,12,13,14,15,16,17,18,19,20] ?_;refine cQ 21 ?_;refine W.i ?_;refine eH ?_)
   rw [show x.getD k 0 ^^^ ws.flatten.getD ((4*r+k/4)*4+k%4) 0=Aes.keyF ws r x k from rfl,hs]
   refine W.k ?_
   refine aP.mk (k+1) ?_
   omega
  ·have:k=16:=oQ
   subst this
   rw [wS _ hx,show (List.range 16).map (Aes.keyF ws r x)=Aes.keyX ws r x from rfl]
   refine W.k ?_
   refine bU.mk () ?_
   trivial
 rintro _ -
 refine W.k ?_
 exact F.cH ((c,nD b (.slice (some ⟨bw,0,none⟩) ws.length cap) (.int .i64 (n:Int)))::[(bw,cl (cbs ws.flatten++junk) 192)]) _ ⟨rfl,rfl⟩
theorem aFa(ws:List (List UInt8))(x:List UInt8)(k:Nat):(Aes.rnds ws x k).length=16:=Aes.rnds_len ws x k
theorem aEt{c b n:Nat}{ws:List (List UInt8)}{Hc:Hp}(hC:aBj c b n ws Hc)(hw4:∀ y∈ws,y.length=4)(hws:ws.length≤1000)(h1:1≤n)(hn:4*n+4≤ws.length)(x:List UInt8)(hx:x.length=16):Tri prog 195 [ptv c,.agg (cbs x).toArray] (Hc++[(b,fN)]) (fun _=>True)
  (fun v H=>v=.agg (cbs (Aes.enc ws n x)).toArray∧H=Hc++[(b,fN)]):=by
 have hk:=fun x hx r hr=>aKh hC hw4 hws x hx r hr
 obtain⟨wv,Hs,hS,rfl⟩:=hC
 have hl16:(cbs x).length=16:=by rw [aF,hx]
 have hfx:bP (fun i=>[(0,16),(16,1)][i]?) (List.replicate 16 (.int .u8 0)++[.pointer none]) [(0,.agg (cbs x).toArray),(1,ptv b)]=some (stL x b):=
  rF (off:=0) (n:=16) (cbs x++[.pointer none]) rfl (by simp [vl,hx]) (by simp) (by simp [vl]) (rF (off:=16) (n:=1) (stL x b) rfl rfl (by simp [hx]) (by simp [vl,hx]) rfl)
 refine Tri.mk func195 rfl ntmps195 rfl fun w hw=>?_
 have hbs3:bP (fun i=>some (i*1,1)) (zs [.nilFunc] 3) [(0,.func (.func 252) #[] #[]),(1,.func (.func 253) #[] #[]),(2,.func (.func 254) #[] #[])]=some (pD.take 3):=rfl
 have hbs2:bP (fun i=>some (i*1,1)) (zs [.nilFunc] 2) [(0,.func (.func 252) #[] #[]),(1,.func (.func 253) #[] #[])]=some (pD.take 2):=rfl
 have hO2:=fun k=>iQ b (aFa ws x k)
 refine W.j fun _ b_=>?_
 rename_i b3
 (refine SW.l [] [0,1,2,3,4,5,6] ?_;skip )
 have hk0:=hk x hx 0 oQ
 have hC2:aBj c b n ws ((c,nD b wv (.int .i64 (n:Int)))::Hs):=⟨wv,Hs,hS,rfl⟩
 have h17:=iQ b (Aes.keyX_len ws 0 x)
 refine gT 7 8 ?a ?b rfl rfl
 case' a=>
  refine W.cq hk0 ?_
  refine cW ?_
  refine aU 8 ?_
  refine W.al fun b5=>?_
 case' b=>
  refine W.al fun b5=>?_
  refine cW ?_
  refine aU 7 ?_
  refine W.cq hk0 ?_
 all_goals
  refine cW ?_
  refine aU 9 ?_
  refine W.i ?_
  refine eH ?_
  refine W.j ?_
  refine SW.cut [0,4,5] [b5] (fun _:Unit=>[]) (fun _=>[(b5,cl (stL (Aes.rnds ws x (n-1)) b) 372)]) (fun _=>True) ?_ ?_
  ·refine W.k ?_
   refine bX [0,4,5] [b5] (fun k:Nat=>[(6,.int .i64 ((k+1:Nat):Int))]) (fun k=>[(b5,cl (stL (Aes.rnds ws x k) b) 372)]) (fun k=>n-k) (fun k=>k+1≤n) 0 h1 ?_
   intro k hkn
   have hlk:=hO2 k
   have hlk1:=hO2 (k+1)
   by_cases h:k+1<n
   ·refine W.k fun b_=>?_
    rename_i b8
    refine W.cw (aIC b b_ 3 (.inr rfl) (Aes.rnds ws x k) (Aes.rnds_len ..)) ?_
    refine W.cq (hk _ (Aes.stps_len (Aes.rnds_len ..) 3) (k+1) oQ) ?_
    rw [show Aes.keyX ws (k+1) (Aes.stps (Aes.rnds ws x k) 3)=Aes.rnds ws x (k+1) from rfl]
    refine W.k ?_
    refine aP.mk (k+1) ?_
    omega
   ·have:k=n-1:=oQ
    subst this
    refine W.k ?_
    refine bU.mk () ?_
    trivial
  rintro _ -
  have hlN:=hO2 (n-1)
  refine W.j ?_
  (refine SW.l [8,10] [0,1,4,5,6,7] ?_;refine aU 2 ?_)
  refine iO (fun sb=>?_) (hr:=hbs2)
  (refine bI [] ?_;refine aU 3 ?_)
  refine W.cq (aIC b sb 2 (.inl rfl) (Aes.rnds ws x (n-1)) (Aes.rnds_len ..)) ?_
  (refine bI [] ?_;refine cQ 8 ?_)
  refine W.cq (hk _ (Aes.stps_len (Aes.rnds_len ..) 2) n hn) ?_
  rw [show Aes.keyX ws n (Aes.stps (Aes.rnds ws x (n-1)) 2)=Aes.enc ws n x from rfl]
  have he:=Aes.enc_len ws n x
  have hfd:((stL (Aes.enc ws n x) b).drop 0).take 16=cbs (Aes.enc ws n x):=by rw [bN,bM (by rw [aF,he];exact Nat.le_refl _),aG (by rw [aF,he];exact Nat.le_refl _)]
  have hfl:(cbs (Aes.enc ws n x)).length=16:=by rw [aF,he]
  (refine SL.l [9] ?_;refine cQ 10 ?_;refine W.i ?_;refine eH ?_)
  refine W.k ?_
  exact F.cH ((c,nD b wv (.int .i64 (n:Int)))::Hs++[(b,fN)]) _ ⟨rfl,rfl⟩
def nE(e:UInt64)(k l:Nat):List UInt8:=Sha.beN 8 e.toNat++Sha.beN 4 k++Sha.beN 2 l++[0,0]
theorem zT(e:UInt64)(k l:Nat):(nE e k l).length=16:=by unfold nE;simp [Sha.beN_len]
def kE(E:List UInt8→List UInt8)(e:UInt64)(k n:Nat):List UInt8:=(List.range n).flatMap fun l=>E (nE e k l)
theorem oT{E:List UInt8→List UInt8}(hE:∀ x,(E x).length=16)(e:UInt64)(k n:Nat):(kE E e k n).length=16*n:=by
 unfold kE
 induction n with
 | zero=>rfl
 | succ n ih=>rw [bJ,cO,aB,ih];simp [hE];omega
theorem yD(E:List UInt8→List UInt8)(e:UInt64)(k n:Nat):kE E e k (n+1)=kE E e k n++E (nE e k n):=by unfold kE;rw [bJ,cO];simp
def dH(E:List UInt8→List UInt8)(e:UInt64)(k:Nat)(b:List UInt8):List UInt8:=yP b ((kE E e k ((b.length+15)/16)).take b.length)
theorem qC{E:List UInt8→List UInt8}(hE:∀ x,(E x).length=16)(e:UInt64)(k:Nat)(b:List UInt8):(dH E e k b).length=b.length:=by
 unfold dH
 rw [aC0,aI,oT hE];omega
theorem aDi{E:List UInt8→List UInt8}(hE:∀ x,(E x).length=16)(e:UInt64)(k:Nat)(b:List UInt8):dH E e k (dH E e k b)=b:=by
 have hl:=qC hE e k b
 have hs:((kE E e k ((b.length+15)/16)).take b.length).length=b.length:=by rw [aI,oT hE];omega
 have e1:dH E e k (dH E e k b)=yP (dH E e k b) ((kE E e k ((b.length+15)/16)).take b.length):=by
  conv=>lhs;unfold dH
  rw [show (yP b (List.take b.length (kE E e k ((b.length+15)/16)))).length=b.length from hl]
  rfl
 rw [e1]
 unfold dH yP
 generalize (kE E e k ((b.length+15)/16)).take b.length=s at hs
 clear e1 hl
 induction b generalizing s with
 | nil=>simp
 | cons x r ih=>
  cases s with
  | nil=>simp at hs
  | cons y t=>
   simp only [List.zipWith_cons_cons]
   rw [ih t (by simpa using hs)]
   rw [gL,UInt8.xor_self,UInt8.xor_zero]
theorem aEs(e:UInt64)(k l:Nat)(hk:k<4294967296)(hl:l<65536):Tri prog 196 [dX e,.int .u32 (k:Int),.int .u16 (l:Int)] [] (fun _=>True) (fun v H=>v=.agg (cbs (nE e k l)).toArray∧H=[]):=by
 refine Tri.mk func196 rfl ntmps196 rfl fun w hw=>?_
 have hc:=zT e k l
 have hkU:(UInt64.ofNat k).toNat=k:=by rw [aV];omega
 have hlU:(UInt64.ofNat l).toNat=l:=by rw [aV];omega
 have h1:=aAc 8 e oQ oQ
 have h2:=aAc 4 (UInt64.ofNat k) oQ oQ
 have h3:=aAc 2 (UInt64.ofNat l) oQ oQ
 rw [hkU] at h2
 rw [hlU] at h3
 refine W.k fun b_=>?_
 refine aH h1 ?_
 rintro _ _ ⟨b1,rfl,rfl⟩
 have hb2:bP (fun i=>some (i*1,1)) (zs [.int .u8 0] 2) [(0,.int .u8 0),(1,.int .u8 0)]=some (cbs [0,0]):=rfl
 refine W.k ?_
 refine dL h2 rfl ?_
 rintro _ _ ⟨b2,rfl,rfl⟩
 refine W.k ?_
 refine dL h3 rfl ?_
 rintro _ _ ⟨b3,rfl,rfl⟩
 refine iO (fun b4=>?_) (hr:=hb2)
 refine iO (fun b5=>?_) (hr:=bs4 ..)
 have hfl:[Sha.beN 8 e.toNat,Sha.beN 4 k,Sha.beN 2 l,[0,0]].flatten=nE e k l:=by unfold nE;simp
 refine aH (sI _ [Sha.beN 8 e.toNat,Sha.beN 4 k,Sha.beN 2 l,[0,0]] (by rw [hfl,hc];decide) (by simp only [aY,cM];omega)) ?_ (hpre:=fun w2 hs=>RdS.at (T:=23) (fz:=(0,0)) (Hc:=[]) hs rfl (Nat.le_refl _) rfl (tQ rfl (Rd.my (Hc:=[]) (T:=5) b1 _ hs (Sha.beN_len ..)) (Rd.my (Hc:=[]) (T:=5) b2 _ hs (Sha.beN_len ..)) (Rd.my (Hc:=[]) (T:=5) b3 _ hs (Sha.beN_len ..)) (Rd.my (Hc:=[]) (T:=5) b4 _ hs rfl)))
 rw [hfl]
 intro v6 H6 h6
 have h61:=h6.isOne
 have hc16:(cbs (nE e k l)).length=16:=by rw [aF,hc]
 rcases h6 with ⟨-,hz,-⟩|⟨b6,len6,cap6,junk,rfl,hxl,hj,hlc,rfl⟩
 ·have:=congrArg List.length hz
  rw [aF,hc] at this
  simp at this
 rw [hc16] at hxl
 have hl6:len6=16:=oQ
 subst hl6
 have hld:((cbs (nE e k l)++junk).drop 0).take 16=cbs (nE e k l):=by rw [bN,bM oQ,aG oQ]
 refine W.k ?_
 refine aIB ?_
 refine W.k ?_
 exact F.cH [] _ ⟨rfl,rfl⟩
theorem aFx{c b n:Nat}{ws:List (List UInt8)}{Hc:Hp}(hC:aBj c b n ws Hc)(hw4:∀ y∈ws,y.length=4)(hws:ws.length≤1000)(h1:1≤n)(hn:4*n+4≤ws.length)(e:UInt64)(k m:Nat)(hk:k<4294967296)(hm1:1≤m)(hm:m≤65536) :
  Tri prog 139 [ptv c,dX e,.int .u32 (k:Int),.int .i64 (m:Int)] (Hc++[(b,fN)]) (fun _=>True)
  (fun v H=>∃ Hs,RdH Hs v ((kE (Aes.enc ws n) e k ((m+15)/16)).take m)∧H=Hs++(Hc++[(b,fN)])):=by
 have hE:=fun x (hx:x.length=16)=>aEt hC hw4 hws h1 hn x hx
 refine Tri.mk func139 rfl ntmps139 rfl fun w hw=>?_
 have hlb:=fun j=>oT (E:=Aes.enc ws n) (fun x=>Aes.enc_len ..) e k j
 refine W.j ?_
 refine bZ [3] [] (fun x:Value×Hp=>[(10,x.1)]) (fun x=>x.2) (fun x=>Sl 5 1 x.1 (cbs (kE (Aes.enc ws n) e k ((m+15)/16))) x.2) ?_ ?_
 ·refine W.k ?_
  refine bH [1,2,3,9] (fun x:Nat×Value×Hp=>[(10,x.2.1),(11,.int .i64 (x.1:Int))]) (fun x=>x.2.2++(Hc++[(b,fN)])) (fun x=>(m+15)/16-x.1) (fun x=>x.1≤(m+15)/16∧Sl 5 1 x.2.1 (cbs (kE (Aes.enc ws n) e k x.1)) x.2.2) (0,.slice none 0 0,[]) ⟨Nat.zero_le _,Sl.nil _ _⟩ ?_
  rintro⟨j,v2,H2⟩ ⟨hj,h2⟩
  dsimp only at hj h2 ⊢
  have h21:=h2.isOne
  obtain⟨a2,l2,c2,rfl,hl2⟩:=h2.form
  rw [aF,hlb,Nat.mul_one] at hl2
  subst hl2
  by_cases h:16*j<m
  ·haveI i1:Cv .u16 (j:Int) (j:Int):=⟨by show (j:Int)%65536=(j:Int);omega⟩
   refine W.k ?_
   refine W.cw (aEs e k j hk oQ) ?_
   refine dN (Hc++[(b,fN)]) rfl rfl rfl rfl rfl rfl (hE _ (zT e k j)) (fun _ _=>trivial) ?_
   rintro _ _ ⟨rfl,rfl⟩
   have hel:(Aes.enc ws n (nE e k j)).length=16:=Aes.enc_len ..
   have hec:(cbs (Aes.enc ws n (nE e k j))).length=16:=by rw [aF,hel]
   have hls:=yD (Aes.enc ws n) e k j
   refine W.k fun b_=>?_
   refine W.ap h2 (ys:=cbs (Aes.enc ws n (nE e k j))) (mm:=16) (fun w2 hs=>(Sl.own 32 1 b_ (len:=16) (xs:=cbs (Aes.enc ws n (nE e k j))) oQ).srcAt hs inferInstance) (fun v3 H3 h3=>?_) (hys:=by omega) (hbytes:=by rw [aF,hlb,hec];omega)
   have h31:=h3.isOne
   rw [← gU,← hls] at h3
   refine W.k ?_
   refine aP.mk (j+1,v3,H3) ?_
   exact⟨by omega,h3⟩
  ·have:j=(m+15)/16:=oQ
   subst this
   refine W.k ?_
   refine bU.mk (_,H2) ?_
   exact h2
 rintro⟨v2,H2⟩ h2
 dsimp only at h2 ⊢
 have h22:=h2
 rcases h2 with ⟨-,hz,-⟩|⟨b6,len6,cap6,junk,rfl,hxl,hj,hlc,rfl⟩
 ·have:=congrArg List.length hz
  rw [aF,hlb] at this
  simp at this;omega
 rw [aF,hlb] at hxl
 refine W.k ?_
 refine W.s3 ?_
 rw [show jX (some ⟨b6,0,none⟩) m 0 1=some ⟨b6,0,none⟩ by unfold jX;split <;> simp [Addr.add]]
 refine W.k ?_
 refine Fin.to ([(b6,cl (cbs (kE (Aes.enc ws n) e k ((m+15)/16))++junk) 5)]++(Hc++[(b,fN)])) ?_
 have hcut:=(RdH.of h22).cut m 0 m m (Nat.zero_le _) oQ oQ oQ
 rw [bN,jE,show jX (some ⟨b6,0,none⟩) m 0 1=some ⟨b6,0,none⟩ by unfold jX;split <;> simp [Addr.add]] at hcut
 exact F.f1 ⟨_,hcut,rfl⟩
theorem aDK{c b n:Nat}{ws:List (List UInt8)}{Hc:Hp}(hC:aBj c b n ws Hc)(hw4:∀ y∈ws,y.length=4)(hws:ws.length≤1000)(h1:1≤n)(hn:4*n+4≤ws.length)(e:UInt64)(k:Nat)(hk:k<4294967296)(v:Value)(x:List UInt8)(hm1:1≤x.length)(hm:x.length≤65536) :
  Tri prog 86 [ptv c,dX e,.int .u32 (k:Int),v] (Hc++[(b,fN)]) (fun w=>Rd ((Hc++[(b,fN)]).map Prod.fst) w 1 v (cbs x))
  (fun r H=>∃ q,r=.slice (some ⟨q,0,none⟩) x.length x.length∧H=(q,cl (cbs (dH (Aes.enc ws n) e k x)) 5)::(Hc++[(b,fN)])):=by
 have hS:=aFx hC hw4 hws h1 hn e k x.length hk hm1 hm
 have hsl:((kE (Aes.enc ws n) e k ((x.length+15)/16)).take x.length).length=x.length:=by rw [aI,oT (fun x=>Aes.enc_len ..)];omega
 have hX:=fun u=>aKJ v u x ((kE (Aes.enc ws n) e k ((x.length+15)/16)).take x.length) oQ
 rw [hsl,jV,show yP x ((kE (Aes.enc ws n) e k ((x.length+15)/16)).take x.length)=dH (Aes.enc ws n) e k x from rfl] at hX
 refine Tri.mk func86 rfl ntmps86 rfl fun w hw=>?_
 obtain⟨a,la,ca,rfl,hl1,hc1,hr1⟩:=hw.get
 rw [aF,Nat.mul_one] at hl1
 subst hl1
 refine W.k ?_
 refine aH hS ?_
 rintro u _ ⟨Hs,hu,rfl⟩
 have hu1:=hu.one
 refine W.k ?_
 refine aH (hX u) ?_ (hpre:=fun w2 hs=>⟨hw.ro (Hc:=[]) hs,hu.rd (Hc:=[]) hs⟩)
 rintro _ _ ⟨q,rfl,rfl⟩
 refine W.k ?_
 refine Fin.to ((q,cl (cbs (dH (Aes.enc ws n) e k x)) 5)::(Hc++[(b,fN)])) ?_
 exact F.f1 ⟨q,rfl,rfl⟩
end
end Go.Proofs.YtmceanmblcadcaaGreat
