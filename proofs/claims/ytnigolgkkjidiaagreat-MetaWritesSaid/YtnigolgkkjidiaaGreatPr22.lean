/- The program's AES: a block is encrypted. -/
import Derived.Test.YtnigolgkkjidiaaGreatPr8
import Derived.Test.YtnigolgkkjidiaaGreatPr15
set_option linter.unusedVariables false
set_option linter.unusedSimpArgs false
set_option linter.unusedSectionVars false
set_option maxHeartbeats 1000000
namespace Go.Proofs.YtnigolgkkjidiaaGreat
open Go Go.Proofs.Tryz
section
attribute [local irreducible] SW SL SQ SH SA SS Pu Fin bZ aT
def qO(f:Nat→UInt8)(x:List UInt8)(k:Nat):List UInt8:=(List.range k).map f++x.drop k
theorem tY(f:Nat→UInt8){x:List UInt8}{k:Nat}(h:k≤x.length):(qO f x k).length=x.length:=by unfold qO;simp;omega
theorem aAT(f:Nat→UInt8)(x:List UInt8):qO f x 0=x:=by simp [qO]
theorem aAk(f:Nat→UInt8){x:List UInt8}{n:Nat}(h:x.length=n):qO f x n=(List.range n).map f:=by unfold qO;rw [eB om,aJ]
theorem aHo(f:Nat→UInt8){x:List UInt8}{k:Nat}(h:k<x.length)(r:List Value):(cbs (qO f x k)++r)[k]?=some (.int .u8 ((x.getD k 0).toNat:Int)):=by
 rw [aN (by rw [aI,tY f om];exact h)]
 unfold qO cbs
 rw [bB,aS (by simp),aE,aE,cZ,dM,aH,bD,jP,aA h,aF,aA h]
 rfl
theorem aAl(f:Nat→UInt8){x:List UInt8}{k:Nat}(h:k<x.length)(r:List Value):(cbs (qO f x k)++r).set k (.int .u8 ((f k).toNat:Int))=cbs (qO f x (k+1))++r:=by
 have e:(cbs (qO f x k)).set k (.int .u8 ((f k).toNat:Int))=cbs (qO f x (k+1)):=by
  unfold qO cbs
  rw [bB,bX _ _ (by simp),aE,aE,cZ,dM,bM h,dO,dE,bS]
  simp
 rw [fN _ _ (by rw [aI,tY f om];exact h),e]
theorem zH{x:List UInt8}{k:Nat}(h:k<x.length)(r:List Value):(cbs x++r)[k]?=some (.int .u8 ((x.getD k 0).toNat:Int)):=by
 rw [aN (by rw [aI];exact h)]
 unfold cbs
 rw [aH,aF,aA h]
 rfl
namespace Aes
def keyF(ws:List (List UInt8))(r:Nat)(x:List UInt8)(k:Nat):UInt8:=x.getD k 0 ^^^ ws.flatten.getD ((4*r+k/4)*4+k%4) 0
def keyX(ws:List (List UInt8))(r:Nat)(x:List UInt8):List UInt8:=(List.range 16).map (keyF ws r x)
def subF(x:List UInt8)(k:Nat):UInt8:=S (x.getD k 0)
def subX(x:List UInt8):List UInt8:=(List.range 16).map (subF x)
def shiftF(x:List UInt8)(k:Nat):UInt8:=x.getD ((k+4*(k%4))%16) 0
def shiftX(x:List UInt8):List UInt8:=(List.range 16).map (shiftF x)
def mixK(c:List UInt8)(k:Nat):UInt8:=c.getD 0 0 ^^^ c.getD 1 0 ^^^ c.getD 2 0 ^^^ c.getD 3 0 ^^^ c.getD k 0 ^^^ Gf.twice (c.getD k 0 ^^^ c.getD ((k+1)%4) 0)
def mixW(c:List UInt8):List UInt8:=(List.range 4).map (mixK c)
def mixN(x:List UInt8)(j:Nat):List UInt8:=((List.range j).flatMap fun j=>mixW ((x.drop (4*j)).take 4))++x.drop (4*j)
def mixX(x:List UInt8):List UInt8:=mixN x 4
def stp:Nat→List UInt8→List UInt8
 | 0=>subX
 | 1=>shiftX
 | _=>mixX
def stps(x:List UInt8):Nat→List UInt8
 | 0=>x
 | n+1=>stp n (stps x n)
def rnds(ws:List (List UInt8))(x:List UInt8):Nat→List UInt8
 | 0=>keyX ws 0 x
 | n+1=>keyX ws (n+1) (stps (rnds ws x n) 3)
def enc(ws:List (List UInt8))(n:Nat)(x:List UInt8):List UInt8:=keyX ws n (stps (rnds ws x (n-1)) 2)
theorem keyX_len(ws:List (List UInt8))(r:Nat)(x:List UInt8):(keyX ws r x).length=16:=by unfold keyX;simp
theorem mixN_len{x:List UInt8}(hx:x.length=16){j:Nat}(hj:j≤4):(mixN x j).length=16:=by
 have e:∀ j,((List.range j).flatMap fun j=>mixW ((x.drop (4*j)).take 4)).length=4*j:=fun j=>by
  induction j with
  | zero=>rfl
  | succ j ih=>rw [bS,dJ,aC,ih];simp [mixW];omega
 unfold mixN
 rw [aC,e,aK];omega
theorem stp_len{n:Nat}{x:List UInt8}(hx:x.length=16):(stp n x).length=16:=by
 unfold stp
 split
 ·unfold subX;simp
 ·unfold shiftX;simp
 ·exact mixN_len hx (Nat.le_refl _)
theorem stps_len{x:List UInt8}(hx:x.length=16)(n:Nat):(stps x n).length=16:=by
 induction n with
 | zero=>exact hx
 | succ n ih=>exact stp_len ih
theorem rnds_len(ws:List (List UInt8))(x:List UInt8)(n:Nat):(rnds ws x n).length=16:=by cases n <;> exact keyX_len ..
theorem enc_len(ws:List (List UInt8))(n:Nat)(x:List UInt8):(enc ws n x).length=16:=keyX_len ..
end Aes
abbrev stL(x:List UInt8)(b:Nat):List Value:=cbs x++[ptv b]
abbrev stV(x:List UInt8)(b:Nat):Value:=.agg (stL x b).toArray
theorem kC{x:List UInt8}(b:Nat)(h:x.length=16):(stL x b).length=17:=by simp [h]
theorem aOV{x:List UInt8}(b:Nat)(h:x.length=16):(stL x b)[16]?=some (ptv b):=by
 rw [aS (by rw [aI,h];exact Nat.le_refl _),aI,h];rfl
theorem aN4(b:Nat)(x:List UInt8)(hx:x.length=16):Tri prog 286 [stV x b] [(b,gI)] (fun _=>True) (fun v H=>v=stV (Aes.subX x) b∧H=[(b,gI)]):=by
 refine Tri.mk func286 rfl ntmps286 rfl fun w hw=>?_
 have hl0:=kC b hx
 have hL:(stL (Aes.subX x) b).length=17:=kC b (by simp [Aes.subX])
 refine W.j fun _ b_=>?_
 rename_i b1
 rw [show stL x b=stL (qO (Aes.subF x) x 0) b by rw [aAT]]
 refine SW.cut [1,2] [b1] (fun _:Unit=>[]) (fun _=>[(b1,cl (stL (Aes.subX x) b) 410)]) (fun _=>True) ?_ ?_
 ·refine W.k ?_
  refine bV [1,2] [b1] (fun n:Nat=>[(4,.int .i64 (n:Int))]) (fun n=>[(b1,cl (stL (qO (Aes.subF x) x n) b) 410)]) (fun n=>16-n) (fun n=>n≤16) 0 (Nat.zero_le _) ?_
  intro n hn
  by_cases h:n<16
  ·have hul:=tY (Aes.subF x) (x:=x) (k:=n) om
   have hp:=aOV b (hul.trans hx)
   have hv:=aHo (Aes.subF x) (x:=x) (k:=n) om [ptv b]
   have hs:=aAl (Aes.subF x) (x:=x) (k:=n) om [ptv b]
   have hlt:n<(stL (qO (Aes.subF x) x n) b).length:=by rw [kC b (hul.trans hx)];omega
   have hc:=aI1 (b:=b) (m:=Gf.backN 256) Gf.subL_len (x.getD n 0)
   rw [show u8v (Gf.subL.getD (x.getD n 0).toNat 0)=.int .u8 ((Aes.subF x n).toNat:Int) from rfl] at hc
   refine W.k ?_
   (refine SW.l [7,10] [0,1,2,3,4,5,6,8] ?_;refine cB 7 ?_)
   refine W.cq hc ?_
   (refine SL.l [9] ?_;refine cB 10 ?_;refine W.i ?_;refine eI ?_)
   rw [hs]
   refine W.k ?_
   refine aT.mk (n+1) ?_
   omega
  ·have:n=16:=om
   subst this
   rw [aAk _ hx,show (List.range 16).map (Aes.subF x)=Aes.subX x from rfl]
   refine W.k ?_
   refine bZ.mk () ?_
   trivial
 rintro _ -
 refine W.k ?_
 exact F.cH [(b,gI)] _ ⟨rfl,rfl⟩
theorem aKh(b:Nat)(x:List UInt8)(hx:x.length=16):Tri prog 287 [stV x b] [(b,gI)] (fun _=>True) (fun v H=>v=stV (Aes.shiftX x) b∧H=[(b,gI)]):=by
 refine Tri.mk func287 rfl ntmps287 rfl fun w hw=>?_
 have hl0:=kC b hx
 have hL:(stL (Aes.shiftX x) b).length=17:=kC b (by simp [Aes.shiftX])
 have h16:(cbs x).length=16:=by rw [aI,hx]
 have hld:((stL x b).drop 0).take 16=cbs x:=by rw [bH,aQ om,aB om]
 refine W.j fun _ _ b_=>?_
 rename_i b1 b2
 rw [show stL x b=stL (qO (Aes.shiftF x) x 0) b by rw [aAT]]
 refine SW.cut [1,2] [b1] (fun _:Unit=>[]) (fun _=>[(b1,cl (stL (Aes.shiftX x) b) 410)]) (fun _=>True) ?_ ?_
 ·refine W.k ?_
  refine bV [1,2,3] [b1] (fun n:Nat=>[(7,.int .i64 (n:Int))]) (fun n=>[(b1,cl (stL (qO (Aes.shiftF x) x n) b) 410)]) (fun n=>16-n) (fun n=>n≤16) 0 (Nat.zero_le _) ?_
  intro n hn
  by_cases h:n<16
  ·have hul:=tY (Aes.shiftF x) (x:=x) (k:=n) om
   have hv:=zH (x:=x) (k:=(n+4*(n%4))%16) om []
   rw [aJ,show (x.getD ((n+4*(n%4))%16) 0)=Aes.shiftF x n from rfl] at hv
   have hs:=aAl (Aes.shiftF x) (x:=x) (k:=n) om [ptv b]
   have hlt:n<(stL (qO (Aes.shiftF x) x n) b).length:=by rw [kC b (hul.trans hx)];omega
   refine W.k ?_
   rw [hs]
   refine aT.mk (n+1) ?_
   omega
  ·have:n=16:=om
   subst this
   rw [aAk _ hx,show (List.range 16).map (Aes.shiftF x)=Aes.shiftX x from rfl]
   refine W.k ?_
   refine bZ.mk () ?_
   trivial
 rintro _ -
 refine W.k ?_
 exact F.cH [(b,gI)] _ ⟨rfl,rfl⟩
theorem aLh(c:List UInt8)(h4:c.length=4)(k:Nat)(hk:k<4):Tri prog 307 [.agg (cbs c).toArray,.int .i64 (k:Int)] [] (fun _=>True) (fun v H=>v=.int .u8 ((Aes.mixK c k).toNat:Int)∧H=[]):=by
 refine Tri.mk func307 rfl ntmps307 rfl fun w hw=>?_
 have e:=fun j (h:j<4)=>zH (x:=c) (k:=j) om []
 simp only [aJ] at e
 have e0:=e 0 om
 have e1:=e 1 om
 have e2:=e 2 om
 have e3:=e 3 om
 have ek:=e k hk
 have el:=e ((k+1)%4) om
 clear e
 have ht:=aHn (c.getD k 0 ^^^ c.getD ((k+1)%4) 0)
 unfold Aes.mixK
 refine W.j fun b_=>?_
 (refine SW.l [] [0,1,2,3,4,5,6,7,8,9,10,11,12,13,14,15,16,17,18,19,20,21,22,23] ?_;refine aX 24 ?_)
 refine W.cq ht ?_
 (refine SL.l [25,26,27] ?_)
 refine W.k ?_
 exact F.n
theorem aK8(c:List UInt8)(h4:c.length=4):Tri prog 306 [.agg (cbs c).toArray,.func (.func 307) #[] #[]] [] (fun _=>True) (fun v H=>v=.agg (cbs (Aes.mixW c)).toArray∧H=[]):=by
 refine Tri.mk func306 rfl ntmps306 rfl fun w hw=>?_
 have hl0:(cbs c).length=4:=by rw [aI,h4]
 have hL:(cbs (Aes.mixW c)).length=4:=by rw [aI];simp [Aes.mixW]
 have hz4:(List.replicate 4 (0:UInt8)).length=4:=rfl
 refine W.j fun _ _ b_=>?_
 rename_i b1 b2
 refine SW.cut [4,5] [b_] (fun _:Unit=>[]) (fun _=>[(b_,cl (cbs (Aes.mixW c)) 217)]) (fun _=>True) ?_ ?_
 ·refine W.k ?_
  refine bV [1,2,4,5] [b_] (fun n:Nat=>[(7,.int .i64 (n:Int))]) (fun n=>[(b_,cl (cbs (qO (Aes.mixK c) (List.replicate 4 0) n)++[]) 217)]) (fun n=>4-n) (fun n=>n≤4) 0 (Nat.zero_le _) ?_
  intro n hn
  by_cases h:n<4
  ·have hul:=tY (Aes.mixK c) (x:=List.replicate 4 0) (k:=n) (by rw [hz4];omega)
   have hs:=aAl (Aes.mixK c) (x:=List.replicate 4 0) (k:=n) (by rw [hz4];omega) []
   have hlt:n<(cbs (qO (Aes.mixK c) (List.replicate 4 0) n)++[]).length:=by rw [aJ,aI,hul,hz4];exact h
   refine W.k ?_
   refine dH [] rfl rfl rfl rfl rfl rfl (aLh c h4 n h) (fun _ _=>trivial) ?_
   rintro _ _ ⟨rfl,rfl⟩
   refine W.k ?_
   rw [hs]
   refine aT.mk (n+1) ?_
   omega
  ·have:n=4:=om
   subst this
   rw [aAk _ hz4,aJ,show (List.range 4).map (Aes.mixK c)=Aes.mixW c from rfl]
   refine W.k ?_
   refine bZ.mk () ?_
   trivial
 rintro _ -
 refine W.k ?_
 exact F.cH [] _ ⟨rfl,rfl⟩
theorem aOe(c:List UInt8)(h4:c.length=4):Tri prog 300 [.agg (cbs c).toArray] [] (fun _=>True) (fun v H=>v=.agg (cbs (Aes.mixW c)).toArray∧H=[]):=by
 refine Tri.mk func300 rfl ntmps300 rfl fun w hw=>?_
 have hl0:(cbs c).length=4:=by rw [aI,h4]
 have hL:(cbs (Aes.mixW c)).length=4:=by rw [aI];simp [Aes.mixW]
 refine W.k fun _ b_=>?_
 refine W.cw (aK8 c h4) ?_
 exact F.cH [] _ ⟨rfl,rfl⟩
section
variable {P:Program}{C:Ctx}{ρ:Fr}{H:Hp}{o:Oper}{t e n len l h b j:Nat}{x y z:Operand}{k kk:IntKind}{m q:Int}
theorem aNz [kD P t len e n] [i0:eG m l] [i1:eG q h](ho:o.op=.slice t x (some y) (some z) none)(hx:ev ρ x=some (.pointer (some ⟨b,j,none⟩)))(hy:ev ρ y=some (.int k m))(hz:ev ρ z=some (.int kk q))(h1:l<h)(h2:h≤len):Pu P C ρ H o (.slice (some ⟨b,j+l*n,none⟩) (h-l) (len-l)):=by
 have:=sC (P:=P) (C:=C) (ρ:=ρ) (H:=H) (o:=o) (l:=l) (h:=h) ho hx (.inr ⟨y,k,m,rfl,hy,i0.ok⟩) (.inr ⟨z,kk,q,rfl,hz,i1.ok⟩) om h2
 rwa [if_neg om] at this
theorem aNy [kD P t len e n] [i0:eG m l](ho:o.op=.slice t x (some y) none none)(hx:ev ρ x=some (.pointer (some ⟨b,j,none⟩)))(hy:ev ρ y=some (.int k m))(h1:l<len):Pu P C ρ H o (.slice (some ⟨b,j+l*n,none⟩) (len-l) (len-l)):=by
 have:=sC (P:=P) (C:=C) (ρ:=ρ) (H:=H) (o:=o) (l:=l) (h:=len) ho hx (.inr ⟨y,k,m,rfl,hy,i0.ok⟩) (.inl ⟨rfl,rfl⟩) om (Nat.le_refl _)
 rwa [if_neg om] at this
end
theorem aMS(b:Nat)(x:List UInt8)(hx:x.length=16):Tri prog 299 [stV x b,.func (.func 300) #[] #[]] [(b,gI)] (fun _=>True) (fun v H=>v=stV (Aes.mixX x) b∧H=[(b,gI)]):=by
 refine Tri.mk func299 rfl ntmps299 rfl fun w hw=>?_
 have hl0:=kC b hx
 have hL:(stL (Aes.mixX x) b).length=17:=kC b (Aes.mixN_len hx (Nat.le_refl _))
 refine W.j fun _ b_=>?_
 rename_i b1
 rw [show stL x b=stL (Aes.mixN x 0) b by simp [Aes.mixN]]
 refine SW.cut [1,2,4] [b1] (fun _:Unit=>[]) (fun _=>[(b1,cl (stL (Aes.mixX x) b) 410)]) (fun _=>True) ?_ ?_
 ·refine W.k ?_
  refine bV [1,2,4] [b1] (fun n:Nat=>[(5,.int .i64 ((4*n:Nat):Int))]) (fun n=>[(b1,cl (stL (Aes.mixN x n) b) 410)]) (fun n=>4-n) (fun n=>n≤4) 0 (Nat.zero_le _) ?_
  intro n hn
  have hml:=Aes.mixN_len hx hn
  by_cases h:n<4
  ·have hml2:=kC b hml
   have hc4:((x.drop (4*n)).take 4).length=4:=by rw [aD,aK];omega
   have hdr:(Aes.mixN x n).drop (4*n)=x.drop (4*n):=by
    have e:∀ j,((List.range j).flatMap fun j=>Aes.mixW ((x.drop (4*j)).take 4)).length=4*j:=fun j=>by
     induction j with
     | zero=>rfl
     | succ j ih=>rw [bS,dJ,aC,ih];simp [Aes.mixW];omega
    unfold Aes.mixN
    rw [eZ,e,dM,bH,eB (by rw [e];exact Nat.le_refl _),List.nil_append]
   have hld:((stL (Aes.mixN x n) b).drop (4*n)).take 4=cbs ((x.drop (4*n)).take 4):=by
    rw [bW (by rw [aI,hml];omega),aQ (by rw [aK,aI,hml];omega),← hdr]
    simp [cbs]
   have hcl:(cbs ((x.drop (4*n)).take 4)).length=4:=by rw [aI,hc4]
   have hwl:(cbs (Aes.mixW ((x.drop (4*n)).take 4))).length=4:=by rw [aI];simp [Aes.mixW]
   have hput:(stL (Aes.mixN x n) b).take (4*n)++cbs (Aes.mixW ((x.drop (4*n)).take 4))++(stL (Aes.mixN x n) b).drop (4*n+(cbs (Aes.mixW ((x.drop (4*n)).take 4))).length)=stL (Aes.mixN x (n+1)) b:=by
    have hd2:(Aes.mixN x n).drop (4*n+4)=x.drop (4*n+4):=by rw [← bR,hdr,bR]
    have ht2:(Aes.mixN x n).take (4*n)=(List.range n).flatMap fun j=>Aes.mixW ((x.drop (4*j)).take 4):=by
     have e:∀ j,((List.range j).flatMap fun j=>Aes.mixW ((x.drop (4*j)).take 4)).length=4*j:=fun j=>by
      induction j with
      | zero=>rfl
      | succ j ih=>rw [bS,dJ,aC,ih];simp [Aes.mixW];omega
     unfold Aes.mixN
     rw [jA,e,dM,cQ,aJ,aB (by rw [e];exact Nat.le_refl _)]
    rw [hwl,bW (by rw [aI,hml];omega),aQ (by rw [aI,hml];omega)]
    have e3:Aes.mixN x (n+1)=(Aes.mixN x n).take (4*n)++Aes.mixW ((x.drop (4*n)).take 4)++(Aes.mixN x n).drop (4*n+4):=by
     rw [ht2,hd2]
     unfold Aes.mixN
     rw [bS,dJ,show 4*(n+1)=4*n+4 by omega]
     simp
    rw [e3]
    show _=cbs _++[ptv b]
    simp only [cbs,bB,jR,jQ,bE]
   haveI i1:eG (((4*n:Nat):Int)+4) (4*n+4):=⟨by omega⟩
   refine W.k ?_
   refine bJ (aNz (l:=4*n) (h:=4*n+4) rfl rfl rfl rfl om om) rfl rfl ?_
   rw [show 4*n+4-4*n=4 by omega,fP,Nat.mul_one]
   refine aL8 ?_
   refine W.la ?_
   refine dH [] rfl rfl rfl rfl rfl rfl (aOe _ hc4) (fun _ _=>trivial) ?_
   rintro _ _ ⟨rfl,rfl⟩
   refine W.k fun b_=>?_
   (refine SW.l [] [0,1] ?_;refine dL 2 rfl (aNy (l:=4*n) rfl rfl rfl om) ?_;refine dL 3 rfl (xQ rfl rfl) ?_;refine aX 4 ?_)
   rw [fP,Nat.mul_one]
   refine W.cy (mm:=4) (ys:=cbs (Aes.mixW ((x.drop (4*n)).take 4))) (fun w2 hs=>eR.block hs.at (by rw [bH,aB (by rw [hwl];exact Nat.le_refl _)]) (by rw [hwl])) ?_
   rw [hput]
   (refine bO [] ?_;refine eI ?_)
   refine W.k ?_
   rw [show ((4*n:Nat):Int)+4=((4*(n+1):Nat):Int) by omega]
   refine aT.mk (n+1) ?_
   omega
  ·have:n=4:=om
   subst this
   rw [show Aes.mixN x 4=Aes.mixX x from rfl]
   refine W.k ?_
   refine bZ.mk () ?_
   trivial
 rintro _ -
 refine W.k ?_
 exact F.cH [(b,gI)] _ ⟨rfl,rfl⟩
theorem aN2(b:Nat)(x:List UInt8)(hx:x.length=16):Tri prog 288 [stV x b] [(b,gI)] (fun _=>True) (fun v H=>v=stV (Aes.mixX x) b∧H=[(b,gI)]):=by
 refine Tri.mk func288 rfl ntmps288 rfl fun w hw=>?_
 have hl0:=kC b hx
 have hL:(stL (Aes.mixX x) b).length=17:=kC b (Aes.mixN_len hx (Nat.le_refl _))
 refine W.k fun _ b_=>?_
 refine W.cw (aMS b x hx) ?_
 exact F.cH [(b,gI)] _ ⟨rfl,rfl⟩
def rQ:List Value:=[.func (.func 286) #[] #[],.func (.func 287) #[] #[],.func (.func 288) #[] #[]]
theorem aL9(b sb:Nat)(n:Nat)(hn:n=2∨n=3)(x:List UInt8)(hx:x.length=16):Tri prog 285 [stV x b,.slice (some ⟨sb,0,none⟩) n n] [(sb,cl (rQ.take n) 413),(b,gI)] (fun _=>True)
  (fun v H=>v=stV (Aes.stps x n) b∧H=[(sb,cl (rQ.take n) 413),(b,gI)]):=by
 refine Tri.mk func285 rfl ntmps285 rfl fun w hw=>?_
 have hl0:=kC b hx
 have hl:=fun k=>kC b (Aes.stps_len hx k)
 have h0:=hl 0
 have h1:=hl 1
 have h2:=hl 2
 have h3:=hl 3
 have hL:=hl n
 clear hl
 refine W.j fun _ b_=>?_
 rename_i b1
 rw [show stL x b=stL (Aes.stps x 0) b from rfl]
 refine cN [2,4] [(sb,cl (rQ.take n) 413),(b1,cl (stL (Aes.stps x 0) b) 410),(b,gI)] (fun _:Unit=>[]) (fun _=>[(sb,cl (rQ.take n) 413),(b1,cl (stL (Aes.stps x n) b) 410),(b,gI)]) (fun _=>True) ?_ ?_
 ·refine W.k ?_
  refine bN [2,4,7,8] (fun k:Nat=>[(9,.int .i64 (k:Int))]) (fun k=>[(sb,cl (rQ.take n) 413),(b1,cl (stL (Aes.stps x k) b) 410),(b,gI)]) (fun k=>n-k) (fun k=>k≤n) 0 (Nat.zero_le _) ?_
  intro k hk
  by_cases h:k<n
  ·rcases (by omega:k=0∨k=1∨k=2) with rfl|rfl|rfl
   ·have hv:(rQ.take n)[0]?=some (.func (.func 286) #[] #[]):=by rcases hn with rfl|rfl <;> rfl
    refine W.k ?_
    refine dH [(b,gI)] rfl rfl rfl rfl rfl rfl (aN4 b (Aes.stps x 0) hx) (fun _ _=>trivial) ?_
    rintro _ _ ⟨rfl,rfl⟩
    rw [show Aes.subX (Aes.stps x 0)=Aes.stps x 1 from rfl]
    refine W.k ?_
    refine aT.mk 1 ?_
    omega
   ·have hv:(rQ.take n)[1]?=some (.func (.func 287) #[] #[]):=by rcases hn with rfl|rfl <;> rfl
    refine W.k ?_
    refine dH [(b,gI)] rfl rfl rfl rfl rfl rfl (aKh b (Aes.stps x 1) (Aes.stps_len hx 1)) (fun _ _=>trivial) ?_
    rintro _ _ ⟨rfl,rfl⟩
    rw [show Aes.shiftX (Aes.stps x 1)=Aes.stps x 2 from rfl]
    refine W.k ?_
    refine aT.mk 2 ?_
    omega
   ·have hv:(rQ.take n)[2]?=some (.func (.func 288) #[] #[]):=by rcases hn with rfl|rfl <;> first|omega|rfl
    refine W.k ?_
    refine dH [(b,gI)] rfl rfl rfl rfl rfl rfl (aN2 b (Aes.stps x 2) (Aes.stps_len hx 2)) (fun _ _=>trivial) ?_
    rintro _ _ ⟨rfl,rfl⟩
    rw [show Aes.mixX (Aes.stps x 2)=Aes.stps x 3 from rfl]
    refine W.k ?_
    refine aT.mk 3 ?_
    omega
  ·have:k=n:=om
   subst this
   refine W.k ?_
   refine bZ.mk () ?_
   trivial
 rintro _ -
 refine W.k ?_
 exact F.cH [(sb,cl (rQ.take n) 413),(b,gI)] _ ⟨rfl,rfl⟩
theorem aN1{c b n:Nat}{ws:List (List UInt8)}{Hc:Hp}(hC:aDr c b n ws Hc)(hw4:∀ y∈ws,y.length=4)(hws:ws.length≤1000)(x:List UInt8)(hx:x.length=16)(r:Nat)(hr:4*r+4≤ws.length):Tri prog 284 [ptv c,stV x b,.int .i64 (r:Int)] Hc (fun _=>True)
  (fun v H=>v=stV (Aes.keyX ws r x) b∧H=Hc):=by
 obtain⟨wv,Hs,hS,rfl⟩:=hC
 have hfl:=eD hw4
 refine Tri.mk func284 rfl ntmps284 rfl fun w hw=>?_
 have hl0:=kC b hx
 have hL:(stL (Aes.keyX ws r x) b).length=17:=kC b (Aes.keyX_len ..)
 rcases hS with ⟨-,hz,-⟩|⟨bw,len,cap,junk,rfl,hxl,hj,hlc,rfl⟩
 ·have:=congrArg List.length hz
  rw [aI,hfl] at this
  simp at this;omega
 rw [aI,hfl] at hxl
 have hlen:ws.length=len:=om
 subst hlen
 refine W.j fun _ b_=>?_
 rename_i b1
 rw [show stL x b=stL (qO (Aes.keyF ws r x) x 0) b by rw [aAT]]
 refine SW.cut [4,6] [b1] (fun _:Unit=>[]) (fun _=>[(b1,cl (stL (Aes.keyX ws r x) b) 410)]) (fun _=>True) ?_ ?_
 ·refine W.k ?_
  refine bV [0,2,4,6] [b1] (fun n:Nat=>[(8,.int .i64 (n:Int))]) (fun n=>[(b1,cl (stL (qO (Aes.keyF ws r x) x n) b) 410)]) (fun n=>16-n) (fun n=>n≤16) 0 (Nat.zero_le _) ?_
  intro k hk
  by_cases h:k<16
  ·have hul:=tY (Aes.keyF ws r x) (x:=x) (k:=k) om
   have hv:=aHo (Aes.keyF ws r x) (x:=x) (k:=k) om [ptv b]
   have hv2:=zH (x:=ws.flatten) (k:=(4*r+k/4)*4+k%4) (by rw [hfl];omega) junk
   have hs:=aAl (Aes.keyF ws r x) (x:=x) (k:=k) om [ptv b]
   have hlt:k<(stL (qO (Aes.keyF ws r x) x k) b).length:=by rw [kC b (hul.trans hx)];omega
   refine W.k ?_
   (refine SW.l [21] [0,1,2,3,4,5,6,7,8,9,10,11,12,13,14,15,16,17,18,19,20] ?_;refine cB 21 ?_;refine W.i ?_;refine eI ?_)
   rw [show x.getD k 0 ^^^ ws.flatten.getD ((4*r+k/4)*4+k%4) 0=Aes.keyF ws r x k from rfl,hs]
   refine W.k ?_
   refine aT.mk (k+1) ?_
   omega
  ·have:k=16:=om
   subst this
   rw [aAk _ hx,show (List.range 16).map (Aes.keyF ws r x)=Aes.keyX ws r x from rfl]
   refine W.k ?_
   refine bZ.mk () ?_
   trivial
 rintro _ -
 refine W.k ?_
 exact F.cH ((c,pK b (.slice (some ⟨bw,0,none⟩) ws.length cap) (.int .i64 (n:Int)))::[(bw,cl (cbs ws.flatten++junk) 217)]) _ ⟨rfl,rfl⟩
theorem aH8(ws:List (List UInt8))(x:List UInt8)(k:Nat):(Aes.rnds ws x k).length=16:=Aes.rnds_len ws x k
theorem aHr{c b n:Nat}{ws:List (List UInt8)}{Hc:Hp}(hC:aDr c b n ws Hc)(hw4:∀ y∈ws,y.length=4)(hws:ws.length≤1000)(h1:1≤n)(hn:4*n+4≤ws.length)(x:List UInt8)(hx:x.length=16):Tri prog 260 [ptv c,.agg (cbs x).toArray] (Hc++[(b,gI)]) (fun _=>True)
  (fun v H=>v=.agg (cbs (Aes.enc ws n x)).toArray∧H=Hc++[(b,gI)]):=by
 have hk:=fun x hx r hr=>aN1 hC hw4 hws x hx r hr
 obtain⟨wv,Hs,hS,rfl⟩:=hC
 have hl16:(cbs x).length=16:=by rw [aI,hx]
 have hfx:bQ (fun i=>[(0,16),(16,1)][i]?) (List.replicate 16 (.int .u8 0)++[.pointer none]) [(0,.agg (cbs x).toArray),(1,ptv b)]=some (stL x b):=
  uE (off:=0) (n:=16) (cbs x++[.pointer none]) rfl (by simp [vl,hx]) (by simp) (by simp [vl]) (uE (off:=16) (n:=1) (stL x b) rfl rfl (by simp [hx]) (by simp [vl,hx]) rfl)
 refine Tri.mk func260 rfl ntmps260 rfl fun w hw=>?_
 have hbs3:bQ (fun i=>some (i*1,1)) (zs [.nilFunc] 3) [(0,.func (.func 286) #[] #[]),(1,.func (.func 287) #[] #[]),(2,.func (.func 288) #[] #[])]=some (rQ.take 3):=rfl
 have hbs2:bQ (fun i=>some (i*1,1)) (zs [.nilFunc] 2) [(0,.func (.func 286) #[] #[]),(1,.func (.func 287) #[] #[])]=some (rQ.take 2):=rfl
 have hO2:=fun k=>kC b (aH8 ws x k)
 refine W.j fun _ b_=>?_
 rename_i b3
 (refine SW.l [] [0,1,2,3,4,5,6] ?_;skip )
 have hk0:=hk x hx 0 om
 have hC2:aDr c b n ws ((c,pK b wv (.int .i64 (n:Int)))::Hs):=⟨wv,Hs,hS,rfl⟩
 have h17:=kC b (Aes.keyX_len ws 0 x)
 refine fX 7 8 ?a ?b rfl rfl
 case' a=>
  refine W.cq hk0 ?_
  refine cU ?_
  refine aX 8 ?_
  refine W.al fun b5=>?_
 case' b=>
  refine W.al fun b5=>?_
  refine cU ?_
  refine aX 7 ?_
  refine W.cq hk0 ?_
 all_goals
  refine cU ?_
  refine aX 9 ?_
  refine W.i ?_
  refine eI ?_
  refine W.j ?_
  refine SW.cut [0,4,5] [b5] (fun _:Unit=>[]) (fun _=>[(b5,cl (stL (Aes.rnds ws x (n-1)) b) 410)]) (fun _=>True) ?_ ?_
  ·refine W.k ?_
   refine bV [0,4,5] [b5] (fun k:Nat=>[(6,.int .i64 ((k+1:Nat):Int))]) (fun k=>[(b5,cl (stL (Aes.rnds ws x k) b) 410)]) (fun k=>n-k) (fun k=>k+1≤n) 0 h1 ?_
   intro k hkn
   have hlk:=hO2 k
   have hlk1:=hO2 (k+1)
   by_cases h:k+1<n
   ·refine W.k fun b_=>?_
    rename_i b8
    refine W.cw (aL9 b b_ 3 (.inr rfl) (Aes.rnds ws x k) (Aes.rnds_len ..)) ?_
    refine W.cq (hk _ (Aes.stps_len (Aes.rnds_len ..) 3) (k+1) om) ?_
    rw [show Aes.keyX ws (k+1) (Aes.stps (Aes.rnds ws x k) 3)=Aes.rnds ws x (k+1) from rfl]
    refine W.k ?_
    refine aT.mk (k+1) ?_
    omega
   ·have:k=n-1:=om
    subst this
    refine W.k ?_
    refine bZ.mk () ?_
    trivial
  rintro _ -
  have hlN:=hO2 (n-1)
  refine W.j ?_
  (refine SW.l [8,10] [0,1,4,5,6,7] ?_;refine aX 2 ?_)
  refine jO (fun sb=>?_) (hr:=hbs2)
  (refine bO [] ?_;refine aX 3 ?_)
  refine W.cq (aL9 b sb 2 (.inl rfl) (Aes.rnds ws x (n-1)) (Aes.rnds_len ..)) ?_
  (refine bO [] ?_;refine cB 8 ?_)
  refine W.cq (hk _ (Aes.stps_len (Aes.rnds_len ..) 2) n hn) ?_
  rw [show Aes.keyX ws n (Aes.stps (Aes.rnds ws x (n-1)) 2)=Aes.enc ws n x from rfl]
  have he:=Aes.enc_len ws n x
  have hfd:((stL (Aes.enc ws n x) b).drop 0).take 16=cbs (Aes.enc ws n x):=by rw [bH,aQ (by rw [aI,he];exact Nat.le_refl _),aB (by rw [aI,he];exact Nat.le_refl _)]
  have hfl:(cbs (Aes.enc ws n x)).length=16:=by rw [aI,he]
  (refine SL.l [9] ?_;refine cB 10 ?_;refine W.i ?_;refine eI ?_)
  refine W.k ?_
  exact F.cH ((c,pK b wv (.int .i64 (n:Int)))::Hs++[(b,gI)]) _ ⟨rfl,rfl⟩
def pL(e:UInt64)(k l:Nat):List UInt8:=Sha.beN 8 e.toNat++Sha.beN 4 k++Sha.beN 2 l++[0,0]
theorem aBF(e:UInt64)(k l:Nat):(pL e k l).length=16:=by unfold pL;simp [Sha.beN_len]
def mB(E:List UInt8→List UInt8)(e:UInt64)(k n:Nat):List UInt8:=(List.range n).flatMap fun l=>E (pL e k l)
theorem rE{E:List UInt8→List UInt8}(hE:∀ x,(E x).length=16)(e:UInt64)(k n:Nat):(mB E e k n).length=16*n:=by
 unfold mB
 induction n with
 | zero=>rfl
 | succ n ih=>rw [bS,dJ,aC,ih];simp [hE];omega
theorem aAY(E:List UInt8→List UInt8)(e:UInt64)(k n:Nat):mB E e k (n+1)=mB E e k n++E (pL e k n):=by unfold mB;rw [bS,dJ];simp
def eC(E:List UInt8→List UInt8)(e:UInt64)(k:Nat)(b:List UInt8):List UInt8:=aA7 b ((mB E e k ((b.length+15)/16)).take b.length)
theorem sZ{E:List UInt8→List UInt8}(hE:∀ x,(E x).length=16)(e:UInt64)(k:Nat)(b:List UInt8):(eC E e k b).length=b.length:=by
 unfold eC
 rw [aFz,aD,rE hE];omega
theorem aFQ{E:List UInt8→List UInt8}(hE:∀ x,(E x).length=16)(e:UInt64)(k:Nat)(b:List UInt8):eC E e k (eC E e k b)=b:=by
 have hl:=sZ hE e k b
 have hs:((mB E e k ((b.length+15)/16)).take b.length).length=b.length:=by rw [aD,rE hE];omega
 have e1:eC E e k (eC E e k b)=aA7 (eC E e k b) ((mB E e k ((b.length+15)/16)).take b.length):=by
  conv=>lhs;unfold eC
  rw [show (aA7 b (List.take b.length (mB E e k ((b.length+15)/16)))).length=b.length from hl]
  rfl
 rw [e1]
 unfold eC aA7
 generalize (mB E e k ((b.length+15)/16)).take b.length=s at hs
 clear e1 hl
 induction b generalizing s with
 | nil=>simp
 | cons x r ih=>
  cases s with
  | nil=>simp at hs
  | cons y t=>
   simp only [List.zipWith_cons_cons]
   rw [ih t (by simpa using hs)]
   rw [iP,UInt8.xor_self,UInt8.xor_zero]
theorem aHq(e:UInt64)(k l:Nat)(hk:k<4294967296)(hl:l<65536):Tri prog 261 [eK e,.int .u32 (k:Int),.int .u16 (l:Int)] [] (fun _=>True) (fun v H=>v=.agg (cbs (pL e k l)).toArray∧H=[]):=by
 refine Tri.mk func261 rfl ntmps261 rfl fun w hw=>?_
 have hc:=aBF e k l
 have hkU:(UInt64.ofNat k).toNat=k:=by rw [bC];omega
 have hlU:(UInt64.ofNat l).toNat=l:=by rw [bC];omega
 have h1:=aBS 8 e om om
 have h2:=aBS 4 (UInt64.ofNat k) om om
 have h3:=aBS 2 (UInt64.ofNat l) om om
 rw [hkU] at h2
 rw [hlU] at h3
 refine W.k fun b_=>?_
 refine aL h1 ?_
 rintro _ _ ⟨b1,rfl,rfl⟩
 have hb2:bQ (fun i=>some (i*1,1)) (zs [.int .u8 0] 2) [(0,.int .u8 0),(1,.int .u8 0)]=some (cbs [0,0]):=rfl
 refine W.k ?_
 refine dV h2 rfl ?_
 rintro _ _ ⟨b2,rfl,rfl⟩
 refine W.k ?_
 refine dV h3 rfl ?_
 rintro _ _ ⟨b3,rfl,rfl⟩
 refine jO (fun b4=>?_) (hr:=hb2)
 refine jO (fun b5=>?_) (hr:=bs4 ..)
 have hfl:[Sha.beN 8 e.toNat,Sha.beN 4 k,Sha.beN 2 l,[0,0]].flatten=pL e k l:=by unfold pL;simp
 refine aL (sU _ [Sha.beN 8 e.toNat,Sha.beN 4 k,Sha.beN 2 l,[0,0]] (by rw [hfl,hc];decide) (by simp only [aW,dA];omega)) ?_ (hpre:=fun w2 hs=>RdS.at (T:=50) (fz:=(0,0)) (Hc:=[]) hs rfl (Nat.le_refl _) rfl (uK rfl (Rd.my (Hc:=[]) (T:=5) b1 _ hs (Sha.beN_len ..)) (Rd.my (Hc:=[]) (T:=5) b2 _ hs (Sha.beN_len ..)) (Rd.my (Hc:=[]) (T:=5) b3 _ hs (Sha.beN_len ..)) (Rd.my (Hc:=[]) (T:=5) b4 _ hs rfl)))
 rw [hfl]
 intro v6 H6 h6
 have h61:=h6.isOne
 have hc16:(cbs (pL e k l)).length=16:=by rw [aI,hc]
 rcases h6 with ⟨-,hz,-⟩|⟨b6,len6,cap6,junk,rfl,hxl,hj,hlc,rfl⟩
 ·have:=congrArg List.length hz
  rw [aI,hc] at this
  simp at this
 rw [hc16] at hxl
 have hl6:len6=16:=om
 subst hl6
 have hld:((cbs (pL e k l)++junk).drop 0).take 16=cbs (pL e k l):=by rw [bH,aQ om,aB om]
 refine W.k ?_
 refine aL8 ?_
 refine W.k ?_
 exact F.cH [] _ ⟨rfl,rfl⟩
theorem aIy{c b n:Nat}{ws:List (List UInt8)}{Hc:Hp}(hC:aDr c b n ws Hc)(hw4:∀ y∈ws,y.length=4)(hws:ws.length≤1000)(h1:1≤n)(hn:4*n+4≤ws.length)(e:UInt64)(k m:Nat)(hk:k<4294967296)(hm1:1≤m)(hm:m≤65536) :
  Tri prog 211 [ptv c,eK e,.int .u32 (k:Int),.int .i64 (m:Int)] (Hc++[(b,gI)]) (fun _=>True)
  (fun v H=>∃ Hs,RdH Hs v ((mB (Aes.enc ws n) e k ((m+15)/16)).take m)∧H=Hs++(Hc++[(b,gI)])):=by
 have hE:=fun x (hx:x.length=16)=>aHr hC hw4 hws h1 hn x hx
 refine Tri.mk func211 rfl ntmps211 rfl fun w hw=>?_
 have hlb:=fun j=>rE (E:=Aes.enc ws n) (fun x=>Aes.enc_len ..) e k j
 refine W.j ?_
 refine cN [3] [] (fun x:Value×Hp=>[(10,x.1)]) (fun x=>x.2) (fun x=>Sl 5 1 x.1 (cbs (mB (Aes.enc ws n) e k ((m+15)/16))) x.2) ?_ ?_
 ·refine W.k ?_
  refine bN [1,2,3,9] (fun x:Nat×Value×Hp=>[(10,x.2.1),(11,.int .i64 (x.1:Int))]) (fun x=>x.2.2++(Hc++[(b,gI)])) (fun x=>(m+15)/16-x.1) (fun x=>x.1≤(m+15)/16∧Sl 5 1 x.2.1 (cbs (mB (Aes.enc ws n) e k x.1)) x.2.2) (0,.slice none 0 0,[]) ⟨Nat.zero_le _,Sl.nil _ _⟩ ?_
  rintro⟨j,v2,H2⟩ ⟨hj,h2⟩
  dsimp only at hj h2 ⊢
  have h21:=h2.isOne
  obtain⟨a2,l2,c2,rfl,hl2⟩:=h2.form
  rw [aI,hlb,Nat.mul_one] at hl2
  subst hl2
  by_cases h:16*j<m
  ·haveI i1:Cv .u16 (j:Int) (j:Int):=⟨by show (j:Int)%65536=(j:Int);omega⟩
   refine W.k ?_
   refine W.cw (aHq e k j hk om) ?_
   refine dH (Hc++[(b,gI)]) rfl rfl rfl rfl rfl rfl (hE _ (aBF e k j)) (fun _ _=>trivial) ?_
   rintro _ _ ⟨rfl,rfl⟩
   have hel:(Aes.enc ws n (pL e k j)).length=16:=Aes.enc_len ..
   have hec:(cbs (Aes.enc ws n (pL e k j))).length=16:=by rw [aI,hel]
   have hls:=aAY (Aes.enc ws n) e k j
   refine W.k fun b_=>?_
   refine W.ap h2 (ys:=cbs (Aes.enc ws n (pL e k j))) (mm:=16) (fun w2 hs=>(Sl.own 27 1 b_ (len:=16) (xs:=cbs (Aes.enc ws n (pL e k j))) om).srcAt hs inferInstance) (fun v3 H3 h3=>?_) (hys:=by omega) (hbytes:=by rw [aI,hlb,hec];omega)
   have h31:=h3.isOne
   rw [← gT,← hls] at h3
   refine W.k ?_
   refine aT.mk (j+1,v3,H3) ?_
   exact⟨by omega,h3⟩
  ·have:j=(m+15)/16:=om
   subst this
   refine W.k ?_
   refine bZ.mk (_,H2) ?_
   exact h2
 rintro⟨v2,H2⟩ h2
 dsimp only at h2 ⊢
 have h22:=h2
 rcases h2 with ⟨-,hz,-⟩|⟨b6,len6,cap6,junk,rfl,hxl,hj,hlc,rfl⟩
 ·have:=congrArg List.length hz
  rw [aI,hlb] at this
  simp at this;omega
 rw [aI,hlb] at hxl
 refine W.k ?_
 refine W.s3 ?_
 rw [show lJ (some ⟨b6,0,none⟩) m 0 1=some ⟨b6,0,none⟩ by unfold lJ;split <;> simp [Addr.add]]
 refine W.k ?_
 refine Fin.to ([(b6,cl (cbs (mB (Aes.enc ws n) e k ((m+15)/16))++junk) 5)]++(Hc++[(b,gI)])) ?_
 have hcut:=(RdH.of h22).cut m 0 m m (Nat.zero_le _) om om om
 rw [bH,lP,show lJ (some ⟨b6,0,none⟩) m 0 1=some ⟨b6,0,none⟩ by unfold lJ;split <;> simp [Addr.add]] at hcut
 exact F.f1 ⟨_,hcut,rfl⟩
theorem aGr{c b n:Nat}{ws:List (List UInt8)}{Hc:Hp}(hC:aDr c b n ws Hc)(hw4:∀ y∈ws,y.length=4)(hws:ws.length≤1000)(h1:1≤n)(hn:4*n+4≤ws.length)(e:UInt64)(k:Nat)(hk:k<4294967296)(v:Value)(x:List UInt8)(hm1:1≤x.length)(hm:x.length≤65536) :
  Tri prog 145 [ptv c,eK e,.int .u32 (k:Int),v] (Hc++[(b,gI)]) (fun w=>Rd ((Hc++[(b,gI)]).map Prod.fst) w 1 v (cbs x))
  (fun r H=>∃ q,r=.slice (some ⟨q,0,none⟩) x.length x.length∧H=(q,cl (cbs (eC (Aes.enc ws n) e k x)) 5)::(Hc++[(b,gI)])):=by
 have hS:=aIy hC hw4 hws h1 hn e k x.length hk hm1 hm
 have hsl:((mB (Aes.enc ws n) e k ((x.length+15)/16)).take x.length).length=x.length:=by rw [aD,rE (fun x=>Aes.enc_len ..)];omega
 have hX:=fun u=>aOq v u x ((mB (Aes.enc ws n) e k ((x.length+15)/16)).take x.length) om
 rw [hsl,lO,show aA7 x ((mB (Aes.enc ws n) e k ((x.length+15)/16)).take x.length)=eC (Aes.enc ws n) e k x from rfl] at hX
 refine Tri.mk func145 rfl ntmps145 rfl fun w hw=>?_
 obtain⟨a,la,ca,rfl,hl1,hc1,hr1⟩:=hw.get
 rw [aI,Nat.mul_one] at hl1
 subst hl1
 refine W.k ?_
 refine aL hS ?_
 rintro u _ ⟨Hs,hu,rfl⟩
 have hu1:=hu.one
 refine W.k ?_
 refine aL (hX u) ?_ (hpre:=fun w2 hs=>⟨hw.ro (Hc:=[]) hs,hu.rd (Hc:=[]) hs⟩)
 rintro _ _ ⟨q,rfl,rfl⟩
 refine W.k ?_
 refine Fin.to ((q,cl (cbs (eC (Aes.enc ws n) e k x)) 5)::(Hc++[(b,gI)])) ?_
 exact F.f1 ⟨q,rfl,rfl⟩
end
end Go.Proofs.YtnigolgkkjidiaaGreat
