/- The program's AES: a block is encrypted. -/
import Derived.Test.YtdfclocfackkmaaGreatPm15
import Derived.Test.YtdfclocfackkmaaGreatPm17
set_option linter.unusedVariables false
set_option linter.unusedSimpArgs false
set_option linter.unusedSectionVars false
set_option maxHeartbeats 2000000
namespace Go.Proofs.YtdfclocfackkmaaGreat
open Go Go.Proofs.Tryz
section
attribute [local irreducible] SW SL SQ SH SA SS Pu Fin bS aN
def rA(f:Nat->UInt8)(x:LB)(k:Nat):LB:=(List.range k).map f++x.drop k
theorem tY(f:Nat->UInt8){x:LB}{k:Nat}(h:k<=x.length):(rA f x k).length=x.length:=by unfold rA;simp;omega
theorem aBw(f:Nat->UInt8)(x:LB):rA f x 0=x:=by simp [rA]
theorem aAK(f:Nat->UInt8){x:LB}{n:Nat}(h:x.length=n):rA f x n=(List.range n).map f:=by unfold rA;rw [gN oQ,aG]
theorem aIu(f:Nat->UInt8){x:LB}{k:Nat}(h:k<x.length)(r:LV):(cbs (rA f x k)++r)[k]?=some (.int .u8 ((x.getD k 0).toNat:Int)):=by rw [aJ (by rw [aI,tY f oQ];exact h)];unfold rA cbs;rw [aZ,aV (by simp),aC,aC,dR,dO,aL,bH,jL,aA h,aE,aA h];rfl
theorem aAL(f:Nat->UInt8){x:LB}{k:Nat}(h:k<x.length)(r:LV):(cbs (rA f x k)++r).set k (.int .u8 ((f k).toNat:Int))=cbs (rA f x (k+1))++r:=by
 have e:(cbs (rA f x k)).set k (.int .u8 ((f k).toNat:Int))=cbs (rA f x (k+1)):=by unfold rA cbs;rw [aZ,bY _ _ (by simp),aC,aC,dR,dO,bK h,eE,fR,bT];simp
 rw [gI _ _ (by rw [aI,tY f oQ];exact h),e]
theorem aAa{x:LB}{k:Nat}(h:k<x.length)(r:LV):(cbs x++r)[k]?=some (.int .u8 ((x.getD k 0).toNat:Int)):=by rw [aJ (by rw [aI];exact h)];unfold cbs;rw [aL,aE,aA h];rfl
namespace Aes
def keyF(ws:LL)(r:Nat)(x:LB)(k:Nat):UInt8:=x.getD k 0 ^^^ ws.flatten.getD ((4*r+k/4)*4+k%4) 0
def keyX(ws:LL)(r:Nat)(x:LB):LB:=(List.range 16).map (keyF ws r x)
def subF(x:LB)(k:Nat):UInt8:=S (x.getD k 0)
def subX(x:LB):LB:=(List.range 16).map (subF x)
def shiftF(x:LB)(k:Nat):UInt8:=x.getD ((k+4*(k%4))%16) 0
def shiftX(x:LB):LB:=(List.range 16).map (shiftF x)
def mixK(c:LB)(k:Nat):UInt8:=c.getD 0 0 ^^^ c.getD 1 0 ^^^ c.getD 2 0 ^^^ c.getD 3 0 ^^^ c.getD k 0 ^^^ Gf.twice (c.getD k 0 ^^^ c.getD ((k+1)%4) 0)
def mixW(c:LB):LB:=(List.range 4).map (mixK c)
def mixN(x:LB)(j:Nat):LB:=((List.range j).flatMap fun j=>mixW ((x.drop (4*j)).take 4))++x.drop (4*j)
def mixX(x:LB):LB:=mixN x 4
def stp:Nat->LB->LB
 | 0=>subX
 | 1=>shiftX
 | _=>mixX
def stps(x:LB):Nat->LB
 | 0=>x
 | n+1=>stp n (stps x n)
def rnds(ws:LL)(x:LB):Nat->LB
 | 0=>keyX ws 0 x
 | n+1=>keyX ws (n+1) (stps (rnds ws x n) 3)
def enc(ws:LL)(n:Nat)(x:LB):LB:=keyX ws n (stps (rnds ws x (n-1)) 2)
theorem keyX_len(ws:LL)(r:Nat)(x:LB):(keyX ws r x).length=16:=by unfold keyX;simp
theorem mixN_len{x:LB}(hx:x.length=16){j:Nat}(hj:j<=4):(mixN x j).length=16:=by
 have e:∀ j,((List.range j).flatMap fun j=>mixW ((x.drop (4*j)).take 4)).length=4*j:=fun j=>by
  induction j with
  | zero=>rfl
  | succ j ih=>rw [bT,cP,aB,ih];simp [mixW];omega
 unfold mixN;rw [aB,e,bG];omega
theorem stp_len{n:Nat}{x:LB}(hx:x.length=16):(stp n x).length=16:=by
 unfold stp;split
 ·unfold subX;simp
 ·unfold shiftX;simp
 exact mixN_len hx (Nat.le_refl _)
theorem stps_len{x:LB}(hx:x.length=16)(n:Nat):(stps x n).length=16:=by
 induction n with
 | zero=>exact hx
 | succ n ih=>exact stp_len ih
theorem rnds_len(ws:LL)(x:LB)(n:Nat):(rnds ws x n).length=16:=by cases n <;> exact keyX_len ..
theorem enc_len(ws:LL)(n:Nat)(x:LB):(enc ws n x).length=16:=keyX_len ..
end Aes
abbrev stL(x:LB)(b:Nat):LV:=cbs x++[ptv b]
abbrev stV(x:LB)(b:Nat):Value:=.agg (stL x b).toArray
theorem jZ{x:LB}(b:Nat)(h:x.length=16):(stL x b).length=17:=by simp [h]
theorem aQi{x:LB}(b:Nat)(h:x.length=16):(stL x b)[16]?=some (ptv b):=by rw [aV (by rw [aI,h];exact Nat.le_refl _),aI,h];rfl
theorem aPh(b:Nat)(x:LB)(hx:x.length=16):Tri prog 283 [stV x b] [(b,gK)] NT (fun v H=>v=stV (Aes.subX x) b/\H=[(b,gK)]):=by
 refine Tri.mt func283 ntmps283 fun w hw=>?_;have hl0:=jZ b hx;have hL:(stL (Aes.subX x) b).length=17:=jZ b (by simp [Aes.subX]);refine W.j fun _ b_=>?_;rename_i b1;rw [show stL x b=stL (rA (Aes.subF x) x 0) b by rw [aBw]];refine SW.cut [1,2] [b1] (fun _:Unit=>[]) (fun _=>[(b1,cl (stL (Aes.subX x) b) 395)]) NT ?_ ?_
 ·refine W.k ?_;refine cI [1,2] [b1] (fun n:Nat=>[(4,.int .i64 (n:Int))]) (fun n=>[(b1,cl (stL (rA (Aes.subF x) x n) b) 395)]) (fun n=>16-n) (fun n=>n<=16) 0 (Nat.zero_le _) ?_;intro n hn;by_cases h:n<16
  ·have hul:=tY (Aes.subF x) (x:=x) (k:=n) oQ;have hp:=aQi b (hul.trans hx);have hv:=aIu (Aes.subF x) (x:=x) (k:=n) oQ [ptv b];have hs:=aAL (Aes.subF x) (x:=x) (k:=n) oQ [ptv b];have hlt:n<(stL (rA (Aes.subF x) x n) b).length:=by rw [jZ b (hul.trans hx)];omega
   have hc:=aKn (b:=b) (m:=Gf.backN 256) Gf.subL_len (x.getD n 0);rw [show u8v (Gf.subL.getD (x.getD n 0).toNat 0)=.int .u8 ((Aes.subF x n).toNat:Int) from rfl] at hc;refine W.k ?_;(refine SW.l [7,10] [0,1,2,3,4,5,6,8] ?_;refine bL 7 ?_);refine W.cq hc ?_;(refine SL.l [9] ?_;refine bL 10 ?_;refine W.i ?_;refine SS.dn ?_);rw [hs];refine W.k ?_;refine aN.mk (n+1) ?_;omega
  have:n=16:=oQ;subst this;rw [aAK _ hx,show (List.range 16).map (Aes.subF x)=Aes.subX x from rfl];refine W.k ?_;refine bS.mk () ?_;trivial
 rintro _ -;refine W.k ?_;exact F.cH [(b,gK)] _ ⟨rfl,rfl⟩
theorem aLr(b:Nat)(x:LB)(hx:x.length=16):Tri prog 284 [stV x b] [(b,gK)] NT (fun v H=>v=stV (Aes.shiftX x) b/\H=[(b,gK)]):=by
 refine Tri.mt func284 ntmps284 fun w hw=>?_;have hl0:=jZ b hx;have hL:(stL (Aes.shiftX x) b).length=17:=jZ b (by simp [Aes.shiftX]);have h16:(cbs x).length=16:=by rw [aI,hx]
 have hld:((stL x b).drop 0).take 16=cbs x:=by rw [bQ,bU oQ,aK oQ]
 refine W.j fun _ _ b_=>?_;rename_i b1 b2;rw [show stL x b=stL (rA (Aes.shiftF x) x 0) b by rw [aBw]];refine SW.cut [1,2] [b1] (fun _:Unit=>[]) (fun _=>[(b1,cl (stL (Aes.shiftX x) b) 395)]) NT ?_ ?_
 ·refine W.k ?_;refine cI [1,2,3] [b1] (fun n:Nat=>[(7,.int .i64 (n:Int))]) (fun n=>[(b1,cl (stL (rA (Aes.shiftF x) x n) b) 395)]) (fun n=>16-n) (fun n=>n<=16) 0 (Nat.zero_le _) ?_;intro n hn;by_cases h:n<16
  ·have hul:=tY (Aes.shiftF x) (x:=x) (k:=n) oQ;have hv:=aAa (x:=x) (k:=(n+4*(n%4))%16) oQ [];rw [aG,show (x.getD ((n+4*(n%4))%16) 0)=Aes.shiftF x n from rfl] at hv;have hs:=aAL (Aes.shiftF x) (x:=x) (k:=n) oQ [ptv b];have hlt:n<(stL (rA (Aes.shiftF x) x n) b).length:=by rw [jZ b (hul.trans hx)];omega
   refine W.k ?_;rw [hs];refine aN.mk (n+1) ?_;omega
  have:n=16:=oQ;subst this;rw [aAK _ hx,show (List.range 16).map (Aes.shiftF x)=Aes.shiftX x from rfl];refine W.k ?_;refine bS.mk () ?_;trivial
 rintro _ -;refine W.k ?_;exact F.cH [(b,gK)] _ ⟨rfl,rfl⟩
theorem aMt(c:LB)(h4:c.length=4)(k:Nat)(hk:k<4):Tri prog 291 [.agg (cbs c).toArray,.int .i64 (k:Int)] [] NT (fun v H=>v=.int .u8 ((Aes.mixK c k).toNat:Int)/\H=[]):=by refine Tri.mt func291 ntmps291 fun w hw=>?_;have e:=fun j (h:j<4)=>aAa (x:=c) (k:=j) oQ [];simp only [aG] at e;have e0:=e 0 oQ;have e1:=e 1 oQ;have e2:=e 2 oQ;have e3:=e 3 oQ;have ek:=e k hk;have el:=e ((k+1)%4) oQ;clear e;have ht:=aIt (c.getD k 0 ^^^ c.getD ((k+1)%4) 0);unfold Aes.mixK;refine W.j fun b_=>?_;(refine SW.l [] [0,1,2,3,4,5,6,7,8,9,10,11,12,13,14,15,16,17,18,19,20,21,22,23] ?_;refine aX 24 ?_);refine W.cq ht ?_;(refine SL.l [25,26,27] ?_);refine W.k ?_;exact F.n
theorem aMg(c:LB)(h4:c.length=4):Tri prog 290 [.agg (cbs c).toArray,.func (.func 291) #[] #[]] [] NT (fun v H=>v=.agg (cbs (Aes.mixW c)).toArray/\H=[]):=by
 refine Tri.mt func290 ntmps290 fun w hw=>?_;have hl0:(cbs c).length=4:=by rw [aI,h4]
 have hL:(cbs (Aes.mixW c)).length=4:=by rw [aI];simp [Aes.mixW]
 have hz4:(List.replicate 4 (0:UInt8)).length=4:=rfl;refine W.j fun _ _ b_=>?_;rename_i b1 b2;refine SW.cut [4,5] [b_] (fun _:Unit=>[]) (fun _=>[(b_,cl (cbs (Aes.mixW c)) 193)]) NT ?_ ?_
 ·refine W.k ?_;refine cI [1,2,4,5] [b_] (fun n:Nat=>[(7,.int .i64 (n:Int))]) (fun n=>[(b_,cl (cbs (rA (Aes.mixK c) (List.replicate 4 0) n)++[]) 193)]) (fun n=>4-n) (fun n=>n<=4) 0 (Nat.zero_le _) ?_;intro n hn;by_cases h:n<4
  ·have hul:=tY (Aes.mixK c) (x:=List.replicate 4 0) (k:=n) (by rw [hz4];omega);have hs:=aAL (Aes.mixK c) (x:=List.replicate 4 0) (k:=n) (by rw [hz4];omega) [];have hlt:n<(cbs (rA (Aes.mixK c) (List.replicate 4 0) n)++[]).length:=by rw [aG,aI,hul,hz4];exact h
   refine W.k ?_;refine dN [] rfl rfl rfl rfl rfl rfl (aMt c h4 n h) (fun _ _=>trivial) ?_;rintro _ _ ⟨rfl,rfl⟩;refine W.k ?_;rw [hs];refine aN.mk (n+1) ?_;omega
  have:n=4:=oQ;subst this;rw [aAK _ hz4,aG,show (List.range 4).map (Aes.mixK c)=Aes.mixW c from rfl];refine W.k ?_;refine bS.mk () ?_;trivial
 rintro _ -;refine W.k ?_;exact F.cH [] _ ⟨rfl,rfl⟩
theorem aPs(c:LB)(h4:c.length=4):Tri prog 289 [.agg (cbs c).toArray] [] NT (fun v H=>v=.agg (cbs (Aes.mixW c)).toArray/\H=[]):=by
 refine Tri.mt func289 ntmps289 fun w hw=>?_;have hl0:(cbs c).length=4:=by rw [aI,h4]
 have hL:(cbs (Aes.mixW c)).length=4:=by rw [aI];simp [Aes.mixW]
 refine W.k fun _ b_=>?_;refine W.cw (aMg c h4) ?_;exact F.cH [] _ ⟨rfl,rfl⟩
section
variable {P:Program}{C:Ctx}{A:Fr}{H:Hp}{o:Oper}{t e n len l h b j:Nat}{x y z:Operand}{k kk:IntKind}{m q:Int}
theorem aOJ [kP P t len e n] [i0:eB m l] [i1:eB q h](ho:o.op=.slice t x (some y) (some z) none)(hx:ev A x=some (.pointer (some ⟨b,j,none⟩)))(hy:ev A y=some (.int k m))(hz:ev A z=some (.int kk q))(h1:l<h)(h2:h<=len):Pu P C A H o (.slice (some ⟨b,j+l*n,none⟩) (h-l) (len-l)):=by have:=sI (P:=P) (C:=C) (A:=A) (H:=H) (o:=o) (l:=l) (h:=h) ho hx (.inr ⟨y,k,m,rfl,hy,i0.ok⟩) (.inr ⟨z,kk,q,rfl,hz,i1.ok⟩) oQ h2;rwa [if_neg oQ] at this
theorem aOI [kP P t len e n] [i0:eB m l](ho:o.op=.slice t x (some y) none none)(hx:ev A x=some (.pointer (some ⟨b,j,none⟩)))(hy:ev A y=some (.int k m))(h1:l<len):Pu P C A H o (.slice (some ⟨b,j+l*n,none⟩) (len-l) (len-l)):=by have:=sI (P:=P) (C:=C) (A:=A) (H:=H) (o:=o) (l:=l) (h:=len) ho hx (.inr ⟨y,k,m,rfl,hy,i0.ok⟩) (.inl ⟨rfl,rfl⟩) oQ (Nat.le_refl _);rwa [if_neg oQ] at this
end
theorem aN7(b:Nat)(x:LB)(hx:x.length=16):Tri prog 288 [stV x b,.func (.func 289) #[] #[]] [(b,gK)] NT (fun v H=>v=stV (Aes.mixX x) b/\H=[(b,gK)]):=by
 refine Tri.mt func288 ntmps288 fun w hw=>?_;have hl0:=jZ b hx;have hL:(stL (Aes.mixX x) b).length=17:=jZ b (Aes.mixN_len hx (Nat.le_refl _));refine W.j fun _ b_=>?_;rename_i b1;rw [show stL x b=stL (Aes.mixN x 0) b by simp [Aes.mixN]];refine SW.cut [1,2,4] [b1] (fun _:Unit=>[]) (fun _=>[(b1,cl (stL (Aes.mixX x) b) 395)]) NT ?_ ?_
 ·refine W.k ?_;refine cI [1,2,4] [b1] (fun n:Nat=>[(5,.int .i64 ((4*n:Nat):Int))]) (fun n=>[(b1,cl (stL (Aes.mixN x n) b) 395)]) (fun n=>4-n) (fun n=>n<=4) 0 (Nat.zero_le _) ?_;intro n hn;have hml:=Aes.mixN_len hx hn;by_cases h:n<4
  ·have hml2:=jZ b hml;have hc4:((x.drop (4*n)).take 4).length=4:=by rw [aH,bG];omega
   have hdr:(Aes.mixN x n).drop (4*n)=x.drop (4*n):=by
    have e:∀ j,((List.range j).flatMap fun j=>Aes.mixW ((x.drop (4*j)).take 4)).length=4*j:=fun j=>by
     induction j with
     | zero=>rfl
     | succ j ih=>rw [bT,cP,aB,ih];simp [Aes.mixW];omega
    unfold Aes.mixN;rw [gM,e,dO,bQ,gN (by rw [e];exact Nat.le_refl _),List.nil_append]
   have hld:((stL (Aes.mixN x n) b).drop (4*n)).take 4=cbs ((x.drop (4*n)).take 4):=by rw [cJ (by rw [aI,hml];omega),bU (by rw [bG,aI,hml];omega),<-hdr];simp [cbs]
   have hcl:(cbs ((x.drop (4*n)).take 4)).length=4:=by rw [aI,hc4]
   have hwl:(cbs (Aes.mixW ((x.drop (4*n)).take 4))).length=4:=by rw [aI];simp [Aes.mixW]
   have hput:(stL (Aes.mixN x n) b).take (4*n)++cbs (Aes.mixW ((x.drop (4*n)).take 4))++(stL (Aes.mixN x n) b).drop (4*n+(cbs (Aes.mixW ((x.drop (4*n)).take 4))).length)=stL (Aes.mixN x (n+1)) b:=by
    have hd2:(Aes.mixN x n).drop (4*n+4)=x.drop (4*n+4):=by rw [<-cG,hdr,cG]
    have ht2:(Aes.mixN x n).take (4*n)=(List.range n).flatMap fun j=>Aes.mixW ((x.drop (4*j)).take 4):=by
     have e:∀ j,((List.range j).flatMap fun j=>Aes.mixW ((x.drop (4*j)).take 4)).length=4*j:=fun j=>by
      induction j with
      | zero=>rfl
      | succ j ih=>rw [bT,cP,aB,ih];simp [Aes.mixW];omega
     unfold Aes.mixN;rw [iO,e,dO,cU,aG,aK (by rw [e];exact Nat.le_refl _)]
    rw [hwl,cJ (by rw [aI,hml];omega),bU (by rw [aI,hml];omega)];have e3:Aes.mixN x (n+1)=(Aes.mixN x n).take (4*n)++Aes.mixW ((x.drop (4*n)).take 4)++(Aes.mixN x n).drop (4*n+4):=by rw [ht2,hd2];unfold Aes.mixN;rw [bT,cP,show 4*(n+1)=4*n+4 by omega];simp
    rw [e3];show _=cbs _++[ptv b];simp only [cbs,aZ,gX,iD,aT]
   haveI i1:eB (((4*n:Nat):Int)+4) (4*n+4):=⟨oQ⟩;refine W.k ?_;refine bN (aOJ (l:=4*n) (h:=4*n+4) rfl rfl rfl rfl oQ oQ) rfl rfl ?_;rw [show 4*n+4-4*n=4 by omega,fT,Nat.mul_one];refine aNl ?_;refine W.la ?_;refine dN [] rfl rfl rfl rfl rfl rfl (aPs _ hc4) (fun _ _=>trivial) ?_;rintro _ _ ⟨rfl,rfl⟩;refine W.k fun b_=>?_;(refine SW.l [] [0,1] ?_;refine dS 2 rfl (aOI (l:=4*n) rfl rfl rfl oQ) ?_;refine dS 3 rfl (yI rfl rfl) ?_;refine aX 4 ?_);rw [fT,Nat.mul_one];refine W.cy (mm:=4) (ys:=cbs (Aes.mixW ((x.drop (4*n)).take 4))) (fun w2 hs=>eQ.block hs.at (by rw [bQ,aK (by rw [hwl];exact Nat.le_refl _)]) (by rw [hwl])) ?_;rw [hput];(refine bB [] ?_;refine SS.dn ?_);refine W.k ?_;rw [show ((4*n:Nat):Int)+4=((4*(n+1):Nat):Int) by omega];refine aN.mk (n+1) ?_;omega
  have:n=4:=oQ;subst this;rw [show Aes.mixN x 4=Aes.mixX x from rfl];refine W.k ?_;refine bS.mk () ?_;trivial
 rintro _ -;refine W.k ?_;exact F.cH [(b,gK)] _ ⟨rfl,rfl⟩
theorem aPf(b:Nat)(x:LB)(hx:x.length=16):Tri prog 285 [stV x b] [(b,gK)] NT (fun v H=>v=stV (Aes.mixX x) b/\H=[(b,gK)]):=by refine Tri.mt func285 ntmps285 fun w hw=>?_;have hl0:=jZ b hx;have hL:(stL (Aes.mixX x) b).length=17:=jZ b (Aes.mixN_len hx (Nat.le_refl _));refine W.k fun _ b_=>?_;refine W.cw (aN7 b x hx) ?_;exact F.cH [(b,gK)] _ ⟨rfl,rfl⟩
def rT:LV:=[.func (.func 283) #[] #[],.func (.func 284) #[] #[],.func (.func 285) #[] #[]]
theorem aNm(b sb:Nat)(n:Nat)(hn:n=2\/n=3)(x:LB)(hx:x.length=16):Tri prog 282 [stV x b,.slice (some ⟨sb,0,none⟩) n n] [(sb,cl (rT.take n) 398),(b,gK)] NT (fun v H=>v=stV (Aes.stps x n) b/\H=[(sb,cl (rT.take n) 398),(b,gK)]):=by
 refine Tri.mt func282 ntmps282 fun w hw=>?_;have hl0:=jZ b hx;have hl:=fun k=>jZ b (Aes.stps_len hx k);have h0:=hl 0;have h1:=hl 1;have h2:=hl 2;have h3:=hl 3;have hL:=hl n;clear hl;refine W.j fun _ b_=>?_;rename_i b1;rw [show stL x b=stL (Aes.stps x 0) b from rfl];refine bP [2,4] [(sb,cl (rT.take n) 398),(b1,cl (stL (Aes.stps x 0) b) 395),(b,gK)] (fun _:Unit=>[]) (fun _=>[(sb,cl (rT.take n) 398),(b1,cl (stL (Aes.stps x n) b) 395),(b,gK)]) NT ?_ ?_
 ·refine W.k ?_;refine bE [2,4,7,8] (fun k:Nat=>[(9,.int .i64 (k:Int))]) (fun k=>[(sb,cl (rT.take n) 398),(b1,cl (stL (Aes.stps x k) b) 395),(b,gK)]) (fun k=>n-k) (fun k=>k<=n) 0 (Nat.zero_le _) ?_;intro k hk;by_cases h:k<n
  ·rcases (by omega:k=0\/k=1\/k=2) with rfl|rfl|rfl
   ·have hv:(rT.take n)[0]?=some (.func (.func 283) #[] #[]):=by rcases hn with rfl|rfl <;> rfl
    refine W.k ?_;refine dN [(b,gK)] rfl rfl rfl rfl rfl rfl (aPh b (Aes.stps x 0) hx) (fun _ _=>trivial) ?_;rintro _ _ ⟨rfl,rfl⟩;rw [show Aes.subX (Aes.stps x 0)=Aes.stps x 1 from rfl];refine W.k ?_;refine aN.mk 1 ?_;omega
   ·have hv:(rT.take n)[1]?=some (.func (.func 284) #[] #[]):=by rcases hn with rfl|rfl <;> rfl
    refine W.k ?_;refine dN [(b,gK)] rfl rfl rfl rfl rfl rfl (aLr b (Aes.stps x 1) (Aes.stps_len hx 1)) (fun _ _=>trivial) ?_;rintro _ _ ⟨rfl,rfl⟩;rw [show Aes.shiftX (Aes.stps x 1)=Aes.stps x 2 from rfl];refine W.k ?_;refine aN.mk 2 ?_;omega
   have hv:(rT.take n)[2]?=some (.func (.func 285) #[] #[]):=by rcases hn with rfl|rfl <;> first|omega|rfl
   refine W.k ?_;refine dN [(b,gK)] rfl rfl rfl rfl rfl rfl (aPf b (Aes.stps x 2) (Aes.stps_len hx 2)) (fun _ _=>trivial) ?_;rintro _ _ ⟨rfl,rfl⟩;rw [show Aes.mixX (Aes.stps x 2)=Aes.stps x 3 from rfl];refine W.k ?_;refine aN.mk 3 ?_;omega
  have:k=n:=oQ;subst this;refine W.k ?_;refine bS.mk () ?_;trivial
 rintro _ -;refine W.k ?_;exact F.cH [(sb,cl (rT.take n) 398),(b,gK)] _ ⟨rfl,rfl⟩
theorem aPe{c b n:Nat}{ws:LL}{Hc:Hp}(hC:aD4 c b n ws Hc)(hw4:∀ y∈ws,y.length=4)(hws:ws.length<=1000)(x:LB)(hx:x.length=16)(r:Nat)(hr:4*r+4<=ws.length):Tri prog 281 [ptv c,stV x b,.int .i64 (r:Int)] Hc NT (fun v H=>v=stV (Aes.keyX ws r x) b/\H=Hc):=by
 obtain⟨wv,Hs,hS,rfl⟩:=hC;have hfl:=dH hw4;refine Tri.mt func281 ntmps281 fun w hw=>?_;have hl0:=jZ b hx;have hL:(stL (Aes.keyX ws r x) b).length=17:=jZ b (Aes.keyX_len ..);rcases hS with ⟨-,hz,-⟩|⟨bw,len,cap,junk,rfl,hxl,hj,hlc,rfl⟩
 ·have:=congrArg List.length hz;rw [aI,hfl] at this;simp at this;omega
 rw [aI,hfl] at hxl;have hlen:ws.length=len:=oQ;subst hlen;refine W.j fun _ b_=>?_;rename_i b1;rw [show stL x b=stL (rA (Aes.keyF ws r x) x 0) b by rw [aBw]];refine SW.cut [4,6] [b1] (fun _:Unit=>[]) (fun _=>[(b1,cl (stL (Aes.keyX ws r x) b) 395)]) NT ?_ ?_
 ·refine W.k ?_;refine cI [0,2,4,6] [b1] (fun n:Nat=>[(8,.int .i64 (n:Int))]) (fun n=>[(b1,cl (stL (rA (Aes.keyF ws r x) x n) b) 395)]) (fun n=>16-n) (fun n=>n<=16) 0 (Nat.zero_le _) ?_;intro k hk;by_cases h:k<16
  ·have hul:=tY (Aes.keyF ws r x) (x:=x) (k:=k) oQ;have hv:=aIu (Aes.keyF ws r x) (x:=x) (k:=k) oQ [ptv b];have hv2:=aAa (x:=ws.flatten) (k:=(4*r+k/4)*4+k%4) (by rw [hfl];omega) junk;have hs:=aAL (Aes.keyF ws r x) (x:=x) (k:=k) oQ [ptv b];have hlt:k<(stL (rA (Aes.keyF ws r x) x k) b).length:=by rw [jZ b (hul.trans hx)];omega
   refine W.k ?_;(refine SW.l [21] [0,1,2,3,4,5,6,7,8,9,10,11,12,13,14,15,16,17,18,19,20] ?_;refine bL 21 ?_;refine W.i ?_;refine SS.dn ?_);rw [show x.getD k 0 ^^^ ws.flatten.getD ((4*r+k/4)*4+k%4) 0=Aes.keyF ws r x k from rfl,hs];refine W.k ?_;refine aN.mk (k+1) ?_;omega
  have:k=16:=oQ;subst this;rw [aAK _ hx,show (List.range 16).map (Aes.keyF ws r x)=Aes.keyX ws r x from rfl];refine W.k ?_;refine bS.mk () ?_;trivial
 rintro _ -;refine W.k ?_;exact F.cH ((c,pY b (.slice (some ⟨bw,0,none⟩) ws.length cap) (.int .i64 (n:Int)))::[(bw,cl (cbs ws.flatten++junk) 193)]) _ ⟨rfl,rfl⟩
theorem aJn(ws:LL)(x:LB)(k:Nat):(Aes.rnds ws x k).length=16:=Aes.rnds_len ws x k
theorem aIy{c b n:Nat}{ws:LL}{Hc:Hp}(hC:aD4 c b n ws Hc)(hw4:∀ y∈ws,y.length=4)(hws:ws.length<=1000)(h1:1<=n)(hn:4*n+4<=ws.length)(x:LB)(hx:x.length=16):Tri prog 265 [ptv c,.agg (cbs x).toArray] (Hc++[(b,gK)]) NT (fun v H=>v=.agg (cbs (Aes.enc ws n x)).toArray/\H=Hc++[(b,gK)]):=by
 have hk:=fun x hx r hr=>aPe hC hw4 hws x hx r hr;obtain⟨wv,Hs,hS,rfl⟩:=hC;have hl16:(cbs x).length=16:=by rw [aI,hx]
 have hfx:bV (fun i=>[(0,16),(16,1)][i]?) (List.replicate 16 (.int .u8 0)++[.pointer none]) [(0,.agg (cbs x).toArray),(1,ptv b)]=some (stL x b):=
  uC (off:=0) (n:=16) (cbs x++[.pointer none]) rfl (by simp [vl,hx]) (by simp) (by simp [vl]) (uC (off:=16) (n:=1) (stL x b) rfl rfl (by simp [hx]) (by simp [vl,hx]) rfl)
 refine Tri.mt func265 ntmps265 fun w hw=>?_;have hbs3:bV (fun i=>some (i*1,1)) (zs [.nilFunc] 3) [(0,.func (.func 283) #[] #[]),(1,.func (.func 284) #[] #[]),(2,.func (.func 285) #[] #[])]=some (rT.take 3):=rfl;have hbs2:bV (fun i=>some (i*1,1)) (zs [.nilFunc] 2) [(0,.func (.func 283) #[] #[]),(1,.func (.func 284) #[] #[])]=some (rT.take 2):=rfl;have hO2:=fun k=>jZ b (aJn ws x k);refine W.j fun _ b_=>?_;rename_i b3;(refine SW.l [] [0,1,2,3,4,5,6] ?_;skip );have hk0:=hk x hx 0 oQ;have hC2:aD4 c b n ws ((c,pY b wv (.int .i64 (n:Int)))::Hs):=⟨wv,Hs,hS,rfl⟩;have h17:=jZ b (Aes.keyX_len ws 0 x);refine iV 7 8 ?a ?b rfl rfl;case' a=>
  refine W.cq hk0 ?_;refine dU ?_;refine aX 8 ?_;refine W.al fun b5=>?_
 case' b=>
  refine W.al fun b5=>?_;refine dU ?_;refine aX 7 ?_;refine W.cq hk0 ?_
 all_goals
  refine dU ?_;refine aX 9 ?_;refine W.i ?_;refine SS.dn ?_;refine W.j ?_;refine SW.cut [0,4,5] [b5] (fun _:Unit=>[]) (fun _=>[(b5,cl (stL (Aes.rnds ws x (n-1)) b) 395)]) NT ?_ ?_
  ·refine W.k ?_;refine cI [0,4,5] [b5] (fun k:Nat=>[(6,.int .i64 ((k+1:Nat):Int))]) (fun k=>[(b5,cl (stL (Aes.rnds ws x k) b) 395)]) (fun k=>n-k) (fun k=>k+1<=n) 0 h1 ?_;intro k hkn;have hlk:=hO2 k;have hlk1:=hO2 (k+1);by_cases h:k+1<n
   ·refine W.k fun b_=>?_;rename_i b8;refine W.cw (aNm b b_ 3 (.inr rfl) (Aes.rnds ws x k) (Aes.rnds_len ..)) ?_;refine W.cq (hk _ (Aes.stps_len (Aes.rnds_len ..) 3) (k+1) oQ) ?_;rw [show Aes.keyX ws (k+1) (Aes.stps (Aes.rnds ws x k) 3)=Aes.rnds ws x (k+1) from rfl];refine W.k ?_;refine aN.mk (k+1) ?_;omega
   have:k=n-1:=oQ;subst this;refine W.k ?_;refine bS.mk () ?_;trivial
  rintro _ -;have hlN:=hO2 (n-1);refine W.j ?_;(refine SW.l [8,10] [0,1,4,5,6,7] ?_;refine aX 2 ?_);refine iQ (fun sb=>?_) (hr:=hbs2);(refine bB [] ?_;refine aX 3 ?_);refine W.cq (aNm b sb 2 (.inl rfl) (Aes.rnds ws x (n-1)) (Aes.rnds_len ..)) ?_;(refine bB [] ?_;refine bL 8 ?_);refine W.cq (hk _ (Aes.stps_len (Aes.rnds_len ..) 2) n hn) ?_;rw [show Aes.keyX ws n (Aes.stps (Aes.rnds ws x (n-1)) 2)=Aes.enc ws n x from rfl];have he:=Aes.enc_len ws n x;have hfd:((stL (Aes.enc ws n x) b).drop 0).take 16=cbs (Aes.enc ws n x):=by rw [bQ,bU (by rw [aI,he];exact Nat.le_refl _),aK (by rw [aI,he];exact Nat.le_refl _)]
  have hfl:(cbs (Aes.enc ws n x)).length=16:=by rw [aI,he]
  (refine SL.l [9] ?_;refine bL 10 ?_;refine W.i ?_;refine SS.dn ?_);refine W.k ?_;exact F.cH ((c,pY b wv (.int .i64 (n:Int)))::Hs++[(b,gK)]) _ ⟨rfl,rfl⟩
def pZ(e:UInt64)(k l:Nat):LB:=Sha.beN 8 e.toNat++Sha.beN 4 k++Sha.beN 2 l++[0,0]
theorem aCp(e:UInt64)(k l:Nat):(pZ e k l).length=16:=by unfold pZ;simp [Sha.beN_len]
def oC(E:LB->LB)(e:UInt64)(k n:Nat):LB:=(List.range n).flatMap fun l=>E (pZ e k l)
theorem uM{E:LB->LB}(hE:∀ x,(E x).length=16)(e:UInt64)(k n:Nat):(oC E e k n).length=16*n:=by
 unfold oC;induction n with
 | zero=>rfl
 | succ n ih=>rw [bT,cP,aB,ih];simp [hE];omega
theorem aBD(E:LB->LB)(e:UInt64)(k n:Nat):oC E e k (n+1)=oC E e k n++E (pZ e k n):=by unfold oC;rw [bT,cP];simp
def dY(E:LB->LB)(e:UInt64)(k:Nat)(b:LB):LB:=aE8 b ((oC E e k ((b.length+15)/16)).take b.length)
theorem mJ{E:LB->LB}(hE:∀ x,(E x).length=16)(e:UInt64)(k:Nat)(b:LB):(dY E e k b).length=b.length:=by unfold dY;rw [aGA,aH,uM hE];omega
theorem aIx(e:UInt64)(k l:Nat)(hk:k<4294967296)(hl:l<65536):Tri prog 266 [dZ e,.int .u32 (k:Int),.int .u16 (l:Int)] [] NT (fun v H=>v=.agg (cbs (pZ e k l)).toArray/\H=[]):=by
 refine Tri.mt func266 ntmps266 fun w hw=>?_;have hc:=aCp e k l;have hkU:(UInt64.ofNat k).toNat=k:=by rw [aU];omega
 have hlU:(UInt64.ofNat l).toNat=l:=by rw [aU];omega
 have h1:=aCz 8 e oQ oQ;have h2:=aCz 4 (UInt64.ofNat k) oQ oQ;have h3:=aCz 2 (UInt64.ofNat l) oQ oQ;rw [hkU] at h2;rw [hlU] at h3;refine W.k fun b_=>?_;refine aF h1 ?_;rintro _ _ ⟨b1,rfl,rfl⟩;have hb2:bV (fun i=>some (i*1,1)) (zs [.int .u8 0] 2) [(0,.int .u8 0),(1,.int .u8 0)]=some (cbs [0,0]):=rfl;refine W.k ?_;refine eC h2 rfl ?_;rintro _ _ ⟨b2,rfl,rfl⟩;refine W.k ?_;refine eC h3 rfl ?_;rintro _ _ ⟨b3,rfl,rfl⟩;refine iQ (fun b4=>?_) (hr:=hb2);refine iQ (fun b5=>?_) (hr:=bs4 ..);have hfl:[Sha.beN 8 e.toNat,Sha.beN 4 k,Sha.beN 2 l,[0,0]].flatten=pZ e k l:=by unfold pZ;simp
 refine aF (vS _ [Sha.beN 8 e.toNat,Sha.beN 4 k,Sha.beN 2 l,[0,0]] (by rw [hfl,hc];decide) (by simp only [aW,List.length_nil];omega)) ?_ (hpre:=fun w2 hs=>RdS.at (T:=31) (fz:=(0,0)) (Hc:=[]) hs rfl (Nat.le_refl _) rfl (xC rfl (Rd.my (Hc:=[]) (T:=5) b1 _ hs (Sha.beN_len ..)) (Rd.my (Hc:=[]) (T:=5) b2 _ hs (Sha.beN_len ..)) (Rd.my (Hc:=[]) (T:=5) b3 _ hs (Sha.beN_len ..)) (Rd.my (Hc:=[]) (T:=5) b4 _ hs rfl)));rw [hfl];intro v6 H6 h6;have h61:=h6.isOne;have hc16:(cbs (pZ e k l)).length=16:=by rw [aI,hc]
 rcases h6 with ⟨-,hz,-⟩|⟨b6,len6,cap6,junk,rfl,hxl,hj,hlc,rfl⟩
 ·have:=congrArg List.length hz;rw [aI,hc] at this;simp at this
 rw [hc16] at hxl;have hl6:len6=16:=oQ;subst hl6;have hld:((cbs (pZ e k l)++junk).drop 0).take 16=cbs (pZ e k l):=by rw [bQ,bU oQ,aK oQ]
 refine W.k ?_;refine aNl ?_;refine W.k ?_;exact F.cH [] _ ⟨rfl,rfl⟩
theorem aJR{c b n:Nat}{ws:LL}{Hc:Hp}(hC:aD4 c b n ws Hc)(hw4:∀ y∈ws,y.length=4)(hws:ws.length<=1000)(h1:1<=n)(hn:4*n+4<=ws.length)(e:UInt64)(k m:Nat)(hk:k<4294967296)(hm1:1<=m)(hm:m<=65536):Tri prog 241 [ptv c,dZ e,.int .u32 (k:Int),.int .i64 (m:Int)] (Hc++[(b,gK)]) NT (fun v H=>∃ Hs,RdH Hs v ((oC (Aes.enc ws n) e k ((m+15)/16)).take m)/\H=Hs++(Hc++[(b,gK)])):=by
 have hE:=fun x (hx:x.length=16)=>aIy hC hw4 hws h1 hn x hx;refine Tri.mt func241 ntmps241 fun w hw=>?_;have hlb:=fun j=>uM (E:=Aes.enc ws n) (fun x=>Aes.enc_len ..) e k j;refine W.j ?_;refine bP [3] [] (fun x:Value×Hp=>[(10,x.1)]) (fun x=>x.2) (fun x=>Sl 5 1 x.1 (cbs (oC (Aes.enc ws n) e k ((m+15)/16))) x.2) ?_ ?_
 ·refine W.k ?_;refine bE [1,2,3,9] (fun x:Nat×Value×Hp=>[(10,x.2.1),(11,.int .i64 (x.1:Int))]) (fun x=>x.2.2++(Hc++[(b,gK)])) (fun x=>(m+15)/16-x.1) (fun x=>x.1<=(m+15)/16/\Sl 5 1 x.2.1 (cbs (oC (Aes.enc ws n) e k x.1)) x.2.2) (0,.slice none 0 0,[]) ⟨Nat.zero_le _,Sl.nil _ _⟩ ?_;rintro⟨j,v2,H2⟩ ⟨hj,h2⟩;dsimp only at hj h2 |-;have h21:=h2.isOne;obtain⟨a2,l2,c2,rfl,hl2⟩:=h2.form;rw [aI,hlb,Nat.mul_one] at hl2;subst hl2;by_cases h:16*j<m
  ·haveI i1:Cv .u16 (j:Int) (j:Int):=⟨by show (j:Int)%65536=(j:Int);omega⟩;refine W.k ?_;refine W.cw (aIx e k j hk oQ) ?_;refine dN (Hc++[(b,gK)]) rfl rfl rfl rfl rfl rfl (hE _ (aCp e k j)) (fun _ _=>trivial) ?_;rintro _ _ ⟨rfl,rfl⟩;have hel:(Aes.enc ws n (pZ e k j)).length=16:=Aes.enc_len ..;have hec:(cbs (Aes.enc ws n (pZ e k j))).length=16:=by rw [aI,hel]
   have hls:=aBD (Aes.enc ws n) e k j;refine W.k fun b_=>?_;refine W.ap h2 (ys:=cbs (Aes.enc ws n (pZ e k j))) (mm:=16) (fun w2 hs=>(Sl.own 22 1 b_ (len:=16) (xs:=cbs (Aes.enc ws n (pZ e k j))) oQ).srcAt hs inferInstance) (fun v3 H3 h3=>?_) (hys:=by omega) (hbytes:=by rw [aI,hlb,hec];omega);have h31:=h3.isOne;rw [<-iW,<-hls] at h3;refine W.k ?_;refine aN.mk (j+1,v3,H3) ?_;exact⟨oQ,h3⟩
  have:j=(m+15)/16:=oQ;subst this;refine W.k ?_;refine bS.mk (_,H2) ?_;exact h2
 rintro⟨v2,H2⟩ h2;dsimp only at h2 |-;have h22:=h2;rcases h2 with ⟨-,hz,-⟩|⟨b6,len6,cap6,junk,rfl,hxl,hj,hlc,rfl⟩
 ·have:=congrArg List.length hz;rw [aI,hlb] at this;simp at this;omega
 rw [aI,hlb] at hxl;refine W.k ?_;refine W.s3 ?_;rw [show lI (some ⟨b6,0,none⟩) m 0 1=some ⟨b6,0,none⟩ by unfold lI;split <;> simp [Addr.add]];refine W.k ?_;refine Fin.to ([(b6,cl (cbs (oC (Aes.enc ws n) e k ((m+15)/16))++junk) 5)]++(Hc++[(b,gK)])) ?_;have hcut:=(RdH.of h22).cut m 0 m m (Nat.zero_le _) oQ oQ oQ;rw [bQ,iU,show lI (some ⟨b6,0,none⟩) m 0 1=some ⟨b6,0,none⟩ by unfold lI;split <;> simp [Addr.add]] at hcut;exact F.f1 ⟨_,hcut,rfl⟩
theorem aHw{c b n:Nat}{ws:LL}{Hc:Hp}(hC:aD4 c b n ws Hc)(hw4:∀ y∈ws,y.length=4)(hws:ws.length<=1000)(h1:1<=n)(hn:4*n+4<=ws.length)(e:UInt64)(k:Nat)(hk:k<4294967296)(v:Value)(x:LB)(hm1:1<=x.length)(hm:x.length<=65536):Tri prog 187 [ptv c,dZ e,.int .u32 (k:Int),v] (Hc++[(b,gK)]) (fun w=>Rd ((Hc++[(b,gK)]).map Prod.fst) w 1 v (cbs x)) (fun r H=>∃ q,r=.slice (some ⟨q,0,none⟩) x.length x.length/\H=(q,cl (cbs (dY (Aes.enc ws n) e k x)) 5)::(Hc++[(b,gK)])):=by
 have hS:=aJR hC hw4 hws h1 hn e k x.length hk hm1 hm;have hsl:((oC (Aes.enc ws n) e k ((x.length+15)/16)).take x.length).length=x.length:=by rw [aH,uM (fun x=>Aes.enc_len ..)];omega
 have hX:=fun u=>aPL v u x ((oC (Aes.enc ws n) e k ((x.length+15)/16)).take x.length) oQ;rw [hsl,iS,show aE8 x ((oC (Aes.enc ws n) e k ((x.length+15)/16)).take x.length)=dY (Aes.enc ws n) e k x from rfl] at hX;refine Tri.mt func187 ntmps187 fun w hw=>?_;obtain⟨a,la,ca,rfl,hl1,hc1,hr1⟩:=hw.get;rw [aI,Nat.mul_one] at hl1;subst hl1;refine W.k ?_;refine aF hS ?_;rintro u _ ⟨Hs,hu,rfl⟩;have hu1:=hu.one;refine W.k ?_;refine aF (hX u) ?_ (hpre:=fun w2 hs=>⟨hw.ro (Hc:=[]) hs,hu.rd (Hc:=[]) hs⟩);rintro _ _ ⟨q,rfl,rfl⟩;refine W.k ?_;refine Fin.to ((q,cl (cbs (dY (Aes.enc ws n) e k x)) 5)::(Hc++[(b,gK)])) ?_;exact F.f1 ⟨q,rfl,rfl⟩
theorem aQk{p:Nat}{C:Dv}{H:Hp}(hD:eX p C H)(x:Int)(v:Value)(bs:LB)(hbs:bs.length<=1048576)(hx : -9223372036854775808<=x/\x<=9223372036854775807):Tri prog 22 [.pointer (some ⟨p,0,none⟩),.int .i64 x,v] H (fun w=>Rd (H.map Prod.fst) w 1 v (bs.map bv)) (fun v' H'=>v'=.bool (C.tamB x bs.length)/\eX p (C.tam x bs) H'):=by
 have hl:=aCA hD;refine Tri.mt func22 ntmps22 fun w hw=>?_;obtain⟨aa,len,cap,rfl,hlen,hcap,hrd⟩:=hw.get;rw [aC,Nat.mul_one] at hlen;subst hlen;have hlen:C.len=8*C.ws.length:=rfl;have hN:=hD.1.n;by_cases h0:x<0
 ·have ht:C.tamB x bs.length=false:=by unfold Dv.tamB;exact decide_eq_false oQ
  have hts:C.tam x bs=C:=by unfold Dv.tam;rw [ht];rfl
  rw [ht,hts];refine W.k ?_;refine F.f1 ?_;exact⟨rfl,hD⟩
 by_cases h1:(C.len:Int)<bs.length
 ·have ht:C.tamB x bs.length=false:=by unfold Dv.tamB;exact decide_eq_false oQ
  have hts:C.tam x bs=C:=by unfold Dv.tam;rw [ht];rfl
  rw [ht,hts];refine W.k ?_;refine W.cw hl ?_;refine F.f1 ?_;refine⟨rfl,?_⟩;simp only [aG];exact hD
 by_cases h2:(C.len:Int)-bs.length<x
 ·have ht:C.tamB x bs.length=false:=by unfold Dv.tamB;exact decide_eq_false oQ
  have hts:C.tam x bs=C:=by unfold Dv.tam;rw [ht];rfl
  rw [ht,hts];refine W.k ?_;refine W.cw hl ?_;refine W.cw hl ?_;refine F.f1 ?_;refine⟨rfl,?_⟩;simp only [aG];exact hD
 have ht:C.tamB x bs.length=true:=by unfold Dv.tamB;exact decide_eq_true oQ
 have hts:C.tam x bs=C.setWs (fW Wd.tam C.ws x.toNat bs):=by unfold Dv.tam;rw [ht];rfl
 rw [ht,hts];obtain⟨i,rfl⟩:∃ i:Nat,x=i:=⟨x.toNat,oQ⟩;rw [aS];refine W.k ?_;refine W.cw hl ?_;refine W.cq hl ?_;obtain⟨hO,bw,vp,va,Hq,Ha,h4,h3,rfl⟩:=hD;refine W.k ?_;refine cI [0,1,2,32,33] [bw] (fun k:Nat=>[(34,.int .i64 k)]) (fun k=>[(bw,cl ((fW Wd.tam C.ws i (bs.take k)).flatMap wc) 175)]) (fun k=>bs.length-k) (fun k=>k<=bs.length) 0 (Nat.zero_le _) ?_;intro k hk;have hok:=sD (fun j c w=>Wd.tam_ok j c) (bs.take k) C.ws i hO.ok;have hml:=jJ Wd.tam (bs.take k) C.ws i;by_cases hkl:k<bs.length
 ·obtain⟨b,o,l,T,fz,rfl,hb,hbk,hys⟩:=hrd oQ;obtain⟨c,hc⟩:∃ c,bs[k]?=some c:=⟨_,aA hkl⟩;have hlc:l[o+k]?=some (bv c):=aAJ hys (by simp [hc]);have hm:(i+k)/8<(fW Wd.tam C.ws i (bs.take k)).length:=oQ;obtain⟨u,hu⟩:∃ u,(fW Wd.tam C.ws i (bs.take k))[(i+k)/8]?=some u:=⟨_,aA hm⟩;have hj:(i+k)%8<8:=Nat.mod_lt _ dQ;have huO:=hok u (aP hu);have hset:=aHv hok (v:=bv c) hu (j:=8+(i+k)%8) oQ (aE7 huO.1 hj c).1;have hok2:∀ w∈(fW Wd.tam C.ws i (bs.take k)).set ((i+k)/8) (u.put ((i+k)%8) c),w.Ok:=by rw [<-pI (Wd.put ((i+k)%8) c) hu];exact xJ (fun w=>Wd.put_ok _ _) _ hok
  have hset2:=aHv hok2 (v:=bv c) (m:=(i+k)/8) (u:=u.put ((i+k)%8) c) (j:=(i+k)%8) (by rw [nU hm]) oQ (aE7 (Wd.put_ok _ c huO).1 hj c).2;have hlt:(i+k)/8*18+8+(i+k)%8<((fW Wd.tam C.ws i (bs.take k)).flatMap wc).length:=by rw [aHu hok];omega
  have hlt2:(i+k)/8*18+(i+k)%8<(((fW Wd.tam C.ws i (bs.take k)).flatMap wc).set ((i+k)/8*18+8+(i+k)%8) (bv c)).length:=by rw [cE,aHu hok];omega
  refine W.k ?_;(refine SW.l [] [0,1,2,3,4,5,6,7,8,9,10,11,12,13,14,16,17] ?_;refine aX 15 ?_;refine W.i ?_;refine SG.l [18] ?_;refine aX 19 ?_;refine W.i ?_;refine SS.dn ?_);rw [<-lQ] at hset;rw [hset,hset2];have hsn:((fW Wd.tam C.ws i (bs.take k)).set ((i+k)/8) (u.put ((i+k)%8) c)).set ((i+k)/8) { u.put ((i+k)%8) c with lasts:=(u.put ((i+k)%8) c).lasts.set ((i+k)%8) c }=fW Wd.tam C.ws i (bs.take (k+1)):=by rw [List.set_set,aY,hc,dI,rC,aH,cO hk];unfold nM;rw [pI _ hu];rfl
  rw [hsn];refine W.k ?_;refine aN.mk (k+1) ?_;omega
 have:k=bs.length:=oQ;subst this;rw [bO];refine W.k ?_;refine Fin.perm (List.Perm.swap _ _ _) (F.f1 ?_);refine⟨rfl,Dv.setWs_ok hO (jJ _ _ _ _) (sD (fun j c w=>Wd.tam_ok j c) bs C.ws i hO.ok),bw,vp,va,Hq,Ha,h4,h3,?_⟩;simp [Dv.setWs,jJ]
def aBE(ws:List Wd):Nat:=(ws.filter Wd.pend).length
theorem aCQ{ws:List Wd}{k:Nat}{u:Wd}(hu:ws[k]?=some u):aBE (ws.take (k+1))=aBE (ws.take k)+if u.pend=true then 1 else 0:=by unfold aBE;rw [aY,hu,dI,List.filter_append,aB];cases h:u.pend <;> simp [h]
theorem aGi(ws:List Wd):aBE ws<=ws.length:=List.length_filter_le _ _
theorem aOO{p:Nat}{C:Dv}{H:Hp}(hD:eX p C H):Tri prog 127 [.pointer (some ⟨p,0,none⟩)] H NT (fun v H'=>v=.int .i64 (aBE C.ws)/\H'=H):=by
 have hN:=hD.1.n;obtain⟨hO,bw,vp,va,Hq,Ha,h2,h3,rfl⟩:=hD;refine Tri.mt func127 ntmps127 fun w hw=>?_;refine W.k ?_;refine cI [12,13] [] (fun k:Nat=>[(14,.int .i64 k),(3,.int .i64 (aBE (C.ws.take k)))]) (fun k=>[]) (fun k=>C.ws.length-k) (fun k=>k<=C.ws.length) 0 (Nat.zero_le _) ?_;intro k hk;by_cases hkl:k<C.ws.length
 ·obtain⟨u,hu⟩:∃ u,C.ws[k]?=some u:=⟨_,aA hkl⟩;have hul:=(hO.ok u (aP hu)).1;have hrow:((C.ws.flatMap wc).drop (k*18)).take 18=wc u:=by
   have hA:((C.ws.take k).flatMap wc).length=k*18:=by rw [lX wc 18 _ (fun w hw=>kD (hO.ok w (dM hw)).1),aH];congr 1;omega
   rw [qA wc C.ws k u hu,eR hA,cT (kD hul)]
  have hwl:=kD hul;have hp16:(wc u)[16]?=some (.bool u.pend):=by have:=(aE6 [] [] hul).1;simpa using this
  have hstep:=aCQ hu;have hle:=aGi (C.ws.take k);rw [aH] at hle;cases hpe:u.pend
  ·rw [hpe] at hstep hp16;refine W.k fun b_=>?_;refine aN.mk (k+1) ?_ (hr:=?_)
   ·omega
   refine⟨rfl,?_,rfl,rfl,trivial⟩;rw [hstep];rfl
  rw [hpe] at hstep hp16;refine W.k fun b_=>?_;refine aN.mk (k+1) ?_ (hr:=?_)
  ·omega
  refine⟨rfl,?_,rfl,rfl,trivial⟩;rw [hstep];rfl
 have:k=C.ws.length:=oQ;subst this;refine W.k ?_;refine F.f1 ?_;rw [bO];refine⟨rfl,?_⟩;simp
theorem aMm{p:Nat}{C:Dv}{H:Hp}(hD:eX p C H):Tri prog 129 [.pointer (some ⟨p,0,none⟩)] H NT (fun v H'=>∃ Hs,Sl 5 1 v ((kZ C.ws).map bv) Hs/\H'=Hs++H):=by
 have hl:=aCA hD;have hN:=hD.1.n;have hlen:C.len=8*C.ws.length:=rfl;obtain⟨hO,bw,vp,va,Hq,Ha,h2,h3,rfl⟩:=hD;refine Tri.mt func129 ntmps129 fun w hw=>?_;refine W.k ?_;refine W.cw hl ?_;intro b_;refine cI [14,15] [b_] (fun x:Nat×Value×Hp=>[(3,x.2.1),(16,.int .i64 x.1)]) (fun x=>x.2.2) (fun x=>C.ws.length-x.1) (fun x=>x.1<=C.ws.length/\Sl 5 1 x.2.1 ((kZ (C.ws.take x.1)).map bv) x.2.2)
  (0,_,[(b_,cl (zs [.int .u8 0] C.len) 5)]) ⟨Nat.zero_le _,.inr ⟨b_,0,C.len,zs [.int .u8 0] C.len,rfl,rfl,by simp [lJ],Nat.zero_le _,by simp [kZ]⟩⟩ ?_
 rintro⟨k,v,Hs⟩ ⟨hk,hv⟩;dsimp only at hk hv |-;have hov:=hv.one;by_cases hkl:k<C.ws.length
 ·obtain⟨u,hu⟩:∃ u,C.ws[k]?=some u:=⟨_,aA hkl⟩;have hul:=(hO.ok u (aP hu)).1;have hrow:((C.ws.flatMap wc).drop (k*18)).take 18=wc u:=by
   have hA:((C.ws.take k).flatMap wc).length=k*18:=by rw [lX wc 18 _ (fun w hw=>kD (hO.ok w (dM hw)).1),aH];congr 1;omega
   rw [qA wc C.ws k u hu,eR hA,cT (kD hul)]
  have hwl:=kD hul;have h8:((wc u).drop 0).take (8*1)=u.lasts.map bv:=by unfold wc;rw [bQ,cT (by simpa using hul.1)]
  refine W.k fun b_=>?_;have hll:(u.lasts.map bv).length=8*1:=by simpa using hul.1
  have hlb:((kZ (C.ws.take k)).map bv).length<=65536:=by rw [aC,aA4 (fun w hw=>hO.ok w (dM hw)),aH];omega
  refine W.ap hv (fun w2 hs=>eQ.own hs h8 hll) (fun v2 Hs2 hv2=>?_);have hov2:=hv2.one;have e:kZ (C.ws.take (k+1))=kZ (C.ws.take k)++u.lasts:=by unfold kZ;rw [aY,hu,dI,cP];simp
  refine W.k ?_;refine aN.mk (k+1,v2,Hs2) ?_;refine⟨oQ,?_⟩;dsimp only;rw [e,aZ];exact hv2
 have:k=C.ws.length:=oQ;subst this;rw [bO] at hv;refine W.k ?_;refine F.f1 ?_;refine⟨Hs,hv,?_⟩;simp
end
end Go.Proofs.YtdfclocfackkmaaGreat
