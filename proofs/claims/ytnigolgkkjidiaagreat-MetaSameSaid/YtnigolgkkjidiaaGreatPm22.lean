/- The program's AES: a block is encrypted. -/
import Derived.Test.YtnigolgkkjidiaaGreatPm8
import Derived.Test.YtnigolgkkjidiaaGreatPm15
set_option linter.unusedVariables false
set_option linter.unusedSimpArgs false
set_option linter.unusedSectionVars false
set_option maxHeartbeats 1000000
namespace Go.Proofs.YtnigolgkkjidiaaGreat
open Go
attribute [local irreducible] SW SL SQ SH SA SS Pu Fin CutF HandF
def updN(f:Nat→UInt8)(x:List UInt8)(k:Nat):List UInt8:=(List.range k).map f++x.drop k
theorem updN_len(f:Nat→UInt8){x:List UInt8}{k:Nat}(h:k≤x.length):(updN f x k).length=x.length:=by unfold updN;simp;omega
theorem updN_zero(f:Nat→UInt8)(x:List UInt8):updN f x 0=x:=by simp [updN]
theorem updN_all(f:Nat→UInt8){x:List UInt8}{n:Nat}(h:x.length=n):updN f x n=(List.range n).map f:=by unfold updN;rw [List.drop_of_length_le (by omega),List.append_nil]
theorem updN_at(f:Nat→UInt8){x:List UInt8}{k:Nat}(h:k<x.length)(r:List Value):(cbs (updN f x k)++r)[k]?=some (.int .u8 ((x.getD k 0).toNat:Int)):=by
 rw [List.getElem?_append_left (by rw [cbs_len,updN_len f (by omega)];exact h)]
 unfold updN cbs
 rw [List.map_append,List.getElem?_append_right (by simp),List.length_map,List.length_map,List.length_range,Nat.sub_self,List.getElem?_map,List.getElem?_drop,Nat.add_zero,List.getElem?_eq_getElem h,List.getD_eq_getElem?_getD,List.getElem?_eq_getElem h]
 rfl
theorem updN_set(f:Nat→UInt8){x:List UInt8}{k:Nat}(h:k<x.length)(r:List Value):(cbs (updN f x k)++r).set k (.int .u8 ((f k).toNat:Int))=cbs (updN f x (k+1))++r:=by
 have e:(cbs (updN f x k)).set k (.int .u8 ((f k).toNat:Int))=cbs (updN f x (k+1)):=by
  unfold updN cbs
  rw [List.map_append,List.set_append_right _ _ (by simp),List.length_map,List.length_map,List.length_range,Nat.sub_self,List.drop_eq_getElem_cons h,List.map_cons,List.set_cons_zero,List.range_succ]
  simp
 rw [List.set_append_left _ _ (by rw [cbs_len,updN_len f (by omega)];exact h),e]
theorem cb_at{x:List UInt8}{k:Nat}(h:k<x.length)(r:List Value):(cbs x++r)[k]?=some (.int .u8 ((x.getD k 0).toNat:Int)):=by
 rw [List.getElem?_append_left (by rw [cbs_len];exact h)]
 unfold cbs
 rw [List.getElem?_map,List.getD_eq_getElem?_getD,List.getElem?_eq_getElem h]
 rfl
namespace Aes
def keyF(ws:List (List UInt8))(r:Nat)(x:List UInt8)(k:Nat):UInt8:=x.getD k 0 ^^^ ws.flatten.getD ((4*r+k/4)*4+k%4) 0
def keyX(ws:List (List UInt8))(r:Nat)(x:List UInt8):List UInt8:=(List.range 16).map (keyF ws r x)
def subF(x:List UInt8)(k:Nat):UInt8:=S (x.getD k 0)
def subX(x:List UInt8):List UInt8:=(List.range 16).map (subF x)
def shiftF(x:List UInt8)(k:Nat):UInt8:=x.getD ((k+4*(k%4))%16) 0
def shiftX(x:List UInt8):List UInt8:=(List.range 16).map (shiftF x)
def mixK(c:List UInt8)(k:Nat):UInt8:=c.getD 0 0 ^^^ c.getD 1 0 ^^^ c.getD 2 0 ^^^ c.getD 3 0 ^^^ c.getD k 0 ^^^ Gf.twice (c.getD k 0 ^^^ c.getD ((k+1)%4) 0)
def mixW(c:List UInt8):List UInt8:=(List.range 4).map (mixK c)
def mixN(x:List UInt8)(j:Nat):List UInt8:=((List.range j).flatMap fun j=>mixW ((x.drop (4*j)).take 4))++x.drop (4*j)
def mixX(x:List UInt8):List UInt8:=mixN x 4
def stp:Nat→List UInt8→List UInt8
 | 0=>subX
 | 1=>shiftX
 | _=>mixX
def stps(x:List UInt8):Nat→List UInt8
 | 0=>x
 | n+1=>stp n (stps x n)
def rnds(ws:List (List UInt8))(x:List UInt8):Nat→List UInt8
 | 0=>keyX ws 0 x
 | n+1=>keyX ws (n+1) (stps (rnds ws x n) 3)
def enc(ws:List (List UInt8))(n:Nat)(x:List UInt8):List UInt8:=keyX ws n (stps (rnds ws x (n-1)) 2)
theorem keyX_len(ws:List (List UInt8))(r:Nat)(x:List UInt8):(keyX ws r x).length=16:=by unfold keyX;simp
theorem mixN_len{x:List UInt8}(hx:x.length=16){j:Nat}(hj:j≤4):(mixN x j).length=16:=by
 have e:∀ j,((List.range j).flatMap fun j=>mixW ((x.drop (4*j)).take 4)).length=4*j:=fun j=>by
  induction j with
  | zero=>rfl
  | succ j ih=>rw [List.range_succ,List.flatMap_append,List.length_append,ih];simp [mixW];omega
 unfold mixN
 rw [List.length_append,e,List.length_drop];omega
theorem stp_len{n:Nat}{x:List UInt8}(hx:x.length=16):(stp n x).length=16:=by
 unfold stp
 split
 ·unfold subX;simp
 ·unfold shiftX;simp
 ·exact mixN_len hx (Nat.le_refl _)
theorem stps_len{x:List UInt8}(hx:x.length=16)(n:Nat):(stps x n).length=16:=by
 induction n with
 | zero=>exact hx
 | succ n ih=>exact stp_len ih
theorem rnds_len(ws:List (List UInt8))(x:List UInt8)(n:Nat):(rnds ws x n).length=16:=by cases n <;> exact keyX_len ..
theorem enc_len(ws:List (List UInt8))(n:Nat)(x:List UInt8):(enc ws n x).length=16:=keyX_len ..
end Aes
abbrev stL(x:List UInt8)(b:Nat):List Value:=cbs x++[ptv b]
abbrev stV(x:List UInt8)(b:Nat):Value:=.agg (stL x b).toArray
theorem stL_len{x:List UInt8}(b:Nat)(h:x.length=16):(stL x b).length=17:=by simp [h]
theorem stL_p{x:List UInt8}(b:Nat)(h:x.length=16):(stL x b)[16]?=some (ptv b):=by
 rw [List.getElem?_append_right (by rw [cbs_len,h];exact Nat.le_refl _),cbs_len,h];rfl
theorem ssub_p(b:Nat)(x:List UInt8)(hx:x.length=16):Tri Tryz.prog 286 [stV x b] [(b,boxO)] (fun _=>True) (fun v H=>v=stV (Aes.subX x) b∧H=[(b,boxO)]):=by
 refine Tri.mk Tryz.func286 rfl Tryz.ntmps286 rfl fun w hw=>?_
 have hl0:=stL_len b hx
 have hL:(stL (Aes.subX x) b).length=17:=stL_len b (by simp [Aes.subX])
 repeat' (first|(refine W.gb ?_;try intro b_)|fail)
 rename_i b1
 rw [show stL x b=stL (updN (Aes.subF x) x 0) b by rw [updN_zero]]
 refine SW.cut [1,2] [b1] (fun _:Unit=>[]) (fun _=>[(b1,cl (stL (Aes.subX x) b) 410)]) (fun _=>True) ?_ ?_
 ·repeat' (first|(refine W.go ?_;try intro b_)|fail)
  refine SW.loopG [1,2] [b1] (fun n:Nat=>[(4,.int .i64 (n:Int))]) (fun n=>[(b1,cl (stL (updN (Aes.subF x) x n) b) 410)]) (fun n=>16-n) (fun n=>n≤16) 0 (Nat.zero_le _) ?_
  intro n hn
  by_cases h:n<16
  ·have hul:=updN_len (Aes.subF x) (x:=x) (k:=n) (by omega)
   have hp:=stL_p b (hul.trans hx)
   have hv:=updN_at (Aes.subF x) (x:=x) (k:=n) (by omega) [ptv b]
   have hs:=updN_set (Aes.subF x) (x:=x) (k:=n) (by omega) [ptv b]
   have hlt:n<(stL (updN (Aes.subF x) x n) b).length:=by rw [stL_len b (hul.trans hx)];omega
   have hc:=gsub_p (b:=b) (m:=Gf.backN 256) Gf.subL_len (x.getD n 0)
   rw [show u8v (Gf.subL.getD (x.getD n 0).toNat 0)=.int .u8 ((Aes.subF x n).toNat:Int) from rfl] at hc
   repeat' (first|(refine W.go ?_;try intro b_)|fail)
   (refine SW.regionS [7,10] ?_ (by kernel_rfl);refine SS.T 0 rfl ?_;refine SS.T 1 rfl ?_;(first|refine SS.ls 2 [7,10] rfl ?_|refine SS.sR 2 rfl ?_);refine SS.T 3 rfl ?_;refine SS.T 4 rfl ?_;refine SS.T 5 rfl ?_;(first|refine SS.ls 6 [7,10] rfl ?_|refine SS.sR 6 rfl ?_);refine SS.T 8 rfl ?_;refine SS.effB 7 ?_ rfl (by kernel_rfl))
   refine W.call hc ?_
   rintro _ _ ⟨rfl,rfl⟩
   (refine SL.nilB ?_;refine SS.T 9 rfl ?_;refine SS.effB 10 ?_ rfl (by kernel_rfl);(repeat' (first|(refine W.g1 ?_;try intro b_)|fail));refine SS.done ?_ (by kernel_rfl))
   rw [hs]
   repeat' (first|(refine W.go ?_;try intro b_)|fail)
   refine HandF.mk (n+1) ?_
   omega
  ·have:n=16:=by omega
   subst this
   rw [updN_all _ hx,show (List.range 16).map (Aes.subF x)=Aes.subX x from rfl]
   repeat' (first|(refine W.go ?_;try intro b_)|fail)
   refine CutF.mk () ?_
   trivial
 rintro _ -
 repeat' (first|(refine W.go ?_;try intro b_)|fail)
 exact F.cH [(b,boxO)] _ ⟨rfl,rfl⟩
theorem sshift_p(b:Nat)(x:List UInt8)(hx:x.length=16):Tri Tryz.prog 287 [stV x b] [(b,boxO)] (fun _=>True) (fun v H=>v=stV (Aes.shiftX x) b∧H=[(b,boxO)]):=by
 refine Tri.mk Tryz.func287 rfl Tryz.ntmps287 rfl fun w hw=>?_
 have hl0:=stL_len b hx
 have hL:(stL (Aes.shiftX x) b).length=17:=stL_len b (by simp [Aes.shiftX])
 have h16:(cbs x).length=16:=by rw [cbs_len,hx]
 have hld:((stL x b).drop 0).take 16=cbs x:=by rw [List.drop_zero,List.take_append_of_le_length (by omega),List.take_of_length_le (by omega)]
 repeat' (first|(refine W.gb ?_;try intro b_)|fail)
 rename_i b1 b2
 rw [show stL x b=stL (updN (Aes.shiftF x) x 0) b by rw [updN_zero]]
 refine SW.cut [1,2] [b1] (fun _:Unit=>[]) (fun _=>[(b1,cl (stL (Aes.shiftX x) b) 410)]) (fun _=>True) ?_ ?_
 ·repeat' (first|(refine W.go ?_;try intro b_)|fail)
  refine SW.loopG [1,2,3] [b1] (fun n:Nat=>[(7,.int .i64 (n:Int))]) (fun n=>[(b1,cl (stL (updN (Aes.shiftF x) x n) b) 410)]) (fun n=>16-n) (fun n=>n≤16) 0 (Nat.zero_le _) ?_
  intro n hn
  by_cases h:n<16
  ·have hul:=updN_len (Aes.shiftF x) (x:=x) (k:=n) (by omega)
   have hv:=cb_at (x:=x) (k:=(n+4*(n%4))%16) (by omega) []
   rw [List.append_nil,show (x.getD ((n+4*(n%4))%16) 0)=Aes.shiftF x n from rfl] at hv
   have hs:=updN_set (Aes.shiftF x) (x:=x) (k:=n) (by omega) [ptv b]
   have hlt:n<(stL (updN (Aes.shiftF x) x n) b).length:=by rw [stL_len b (hul.trans hx)];omega
   repeat' (first|(refine W.go ?_;try intro b_)|fail)
   rw [hs]
   refine HandF.mk (n+1) ?_
   omega
  ·have:n=16:=by omega
   subst this
   rw [updN_all _ hx,show (List.range 16).map (Aes.shiftF x)=Aes.shiftX x from rfl]
   repeat' (first|(refine W.go ?_;try intro b_)|fail)
   refine CutF.mk () ?_
   trivial
 rintro _ -
 repeat' (first|(refine W.go ?_;try intro b_)|fail)
 exact F.cH [(b,boxO)] _ ⟨rfl,rfl⟩
theorem mixed_p(c:List UInt8)(h4:c.length=4)(k:Nat)(hk:k<4):Tri Tryz.prog 307 [.agg (cbs c).toArray,.int .i64 (k:Int)] [] (fun _=>True) (fun v H=>v=.int .u8 ((Aes.mixK c k).toNat:Int)∧H=[]):=by
 refine Tri.mk Tryz.func307 rfl Tryz.ntmps307 rfl fun w hw=>?_
 have e:=fun j (h:j<4)=>cb_at (x:=c) (k:=j) (by omega) []
 simp only [List.append_nil] at e
 have e0:=e 0 (by omega)
 have e1:=e 1 (by omega)
 have e2:=e 2 (by omega)
 have e3:=e 3 (by omega)
 have ek:=e k hk
 have el:=e ((k+1)%4) (by omega)
 clear e
 have ht:=twice_p (c.getD k 0 ^^^ c.getD ((k+1)%4) 0)
 unfold Aes.mixK
 repeat' (first|(refine W.gb ?_;try intro b_)|fail)
 (refine SW.regionS [] ?_ (by kernel_rfl);refine SS.T 0 rfl ?_;(first|refine SS.ls 1 [] rfl ?_|refine SS.sR 1 rfl ?_);refine SS.T 2 rfl ?_;(first|refine SS.ls 3 [] rfl ?_|refine SS.sR 3 rfl ?_);refine SS.T 4 rfl ?_;refine SS.T 5 rfl ?_;(first|refine SS.ls 6 [] rfl ?_|refine SS.sR 6 rfl ?_);refine SS.T 7 rfl ?_;refine SS.T 8 rfl ?_;(first|refine SS.ls 9 [] rfl ?_|refine SS.sR 9 rfl ?_);refine SS.T 10 rfl ?_;refine SS.T 11 rfl ?_;refine SS.T 12 rfl ?_;(first|refine SS.ls 13 [] rfl ?_|refine SS.sR 13 rfl ?_);refine SS.T 14 rfl ?_;refine SS.T 15 rfl ?_;refine SS.T 16 rfl ?_;(first|refine SS.ls 17 [] rfl ?_|refine SS.sR 17 rfl ?_);refine SS.T 18 rfl ?_;refine SS.T 19 rfl ?_;refine SS.T 20 rfl ?_;refine SS.T 21 rfl ?_;(first|refine SS.ls 22 [] rfl ?_|refine SS.sR 22 rfl ?_);refine SS.T 23 rfl ?_;refine SS.effK 24 ?_ rfl (by kernel_rfl))
 refine W.call ht ?_
 rintro _ _ ⟨rfl,rfl⟩
 (refine SL.nilB ?_;refine SS.T 25 rfl ?_;refine SS.T 26 rfl ?_;refine SS.done ?_ (by kernel_rfl))
 repeat' (first|(refine W.go ?_;try intro b_)|fail)
 refine Fin.to [] ?_
 exact F.f1 ⟨rfl,rfl⟩
theorem each4_p(c:List UInt8)(h4:c.length=4):Tri Tryz.prog 306 [.agg (cbs c).toArray,.func (.func 307) #[] #[]] [] (fun _=>True) (fun v H=>v=.agg (cbs (Aes.mixW c)).toArray∧H=[]):=by
 refine Tri.mk Tryz.func306 rfl Tryz.ntmps306 rfl fun w hw=>?_
 have hl0:(cbs c).length=4:=by rw [cbs_len,h4]
 have hL:(cbs (Aes.mixW c)).length=4:=by rw [cbs_len];simp [Aes.mixW]
 have hz4:(List.replicate 4 (0:UInt8)).length=4:=rfl
 repeat' (first|(refine W.gb ?_;try intro b_)|fail)
 rename_i b1 b2
 refine SW.cut [4,5] [b_] (fun _:Unit=>[]) (fun _=>[(b_,cl (cbs (Aes.mixW c)) 217)]) (fun _=>True) ?_ ?_
 ·repeat' (first|(refine W.go ?_;try intro b_)|fail)
  refine SW.loopG [1,2,4,5] [b_] (fun n:Nat=>[(7,.int .i64 (n:Int))]) (fun n=>[(b_,cl (cbs (updN (Aes.mixK c) (List.replicate 4 0) n)++[]) 217)]) (fun n=>4-n) (fun n=>n≤4) 0 (Nat.zero_le _) ?_
  intro n hn
  by_cases h:n<4
  ·have hul:=updN_len (Aes.mixK c) (x:=List.replicate 4 0) (k:=n) (by rw [hz4];omega)
   have hs:=updN_set (Aes.mixK c) (x:=List.replicate 4 0) (k:=n) (by rw [hz4];omega) []
   have hlt:n<(cbs (updN (Aes.mixK c) (List.replicate 4 0) n)++[]).length:=by rw [List.append_nil,cbs_len,hul,hz4];exact h
   repeat' (first|(refine W.go ?_;try intro b_)|fail)
   refine SL.callv [] rfl rfl rfl rfl rfl rfl (mixed_p c h4 n h) (fun _ _=>trivial) ?_
   rintro _ _ ⟨rfl,rfl⟩
   repeat' (first|(refine W.go ?_;try intro b_)|fail)
   rw [hs]
   refine HandF.mk (n+1) ?_
   omega
  ·have:n=4:=by omega
   subst this
   rw [updN_all _ hz4,List.append_nil,show (List.range 4).map (Aes.mixK c)=Aes.mixW c from rfl]
   repeat' (first|(refine W.go ?_;try intro b_)|fail)
   refine CutF.mk () ?_
   trivial
 rintro _ -
 repeat' (first|(refine W.go ?_;try intro b_)|fail)
 exact F.cH [] _ ⟨rfl,rfl⟩
theorem Mix_p(c:List UInt8)(h4:c.length=4):Tri Tryz.prog 300 [.agg (cbs c).toArray] [] (fun _=>True) (fun v H=>v=.agg (cbs (Aes.mixW c)).toArray∧H=[]):=by
 refine Tri.mk Tryz.func300 rfl Tryz.ntmps300 rfl fun w hw=>?_
 have hl0:(cbs c).length=4:=by rw [cbs_len,h4]
 have hL:(cbs (Aes.mixW c)).length=4:=by rw [cbs_len];simp [Aes.mixW]
 repeat' (first|(refine W.go ?_;try intro b_)|fail)
 refine W.call (each4_p c h4) ?_
 rintro _ _ ⟨rfl,rfl⟩
 repeat' (first|(refine W.go ?_;try intro b_)|fail)
 exact F.cH [] _ ⟨rfl,rfl⟩
section
variable {P:Program}{C:Ctx}{ρ:Fr}{H:Hp}{o:Oper}{t e n len l h b j:Nat}{x y z:Operand}{k kk:IntKind}{m q:Int}
theorem p_sA11 [ArrTy P t len e n] [i0:NatI m l] [i1:NatI q h](ho:o.op=.slice t x (some y) (some z) none)(hx:ev ρ x=some (.pointer (some ⟨b,j,none⟩)))(hy:ev ρ y=some (.int k m))(hz:ev ρ z=some (.int kk q))(h1:l<h)(h2:h≤len):Pu P C ρ H o (.slice (some ⟨b,j+l*n,none⟩) (h-l) (len-l)):=by
 have:=p_slice_arr (P:=P) (C:=C) (ρ:=ρ) (H:=H) (o:=o) (l:=l) (h:=h) ho hx (.inr ⟨y,k,m,rfl,hy,i0.ok⟩) (.inr ⟨z,kk,q,rfl,hz,i1.ok⟩) (by omega) h2
 rwa [if_neg (by omega)] at this
theorem p_sA10 [ArrTy P t len e n] [i0:NatI m l](ho:o.op=.slice t x (some y) none none)(hx:ev ρ x=some (.pointer (some ⟨b,j,none⟩)))(hy:ev ρ y=some (.int k m))(h1:l<len):Pu P C ρ H o (.slice (some ⟨b,j+l*n,none⟩) (len-l) (len-l)):=by
 have:=p_slice_arr (P:=P) (C:=C) (ρ:=ρ) (H:=H) (o:=o) (l:=l) (h:=len) ho hx (.inr ⟨y,k,m,rfl,hy,i0.ok⟩) (.inl ⟨rfl,rfl⟩) (by omega) (Nat.le_refl _)
 rwa [if_neg (by omega)] at this
end
theorem cols_p(b:Nat)(x:List UInt8)(hx:x.length=16):Tri Tryz.prog 299 [stV x b,.func (.func 300) #[] #[]] [(b,boxO)] (fun _=>True) (fun v H=>v=stV (Aes.mixX x) b∧H=[(b,boxO)]):=by
 refine Tri.mk Tryz.func299 rfl Tryz.ntmps299 rfl fun w hw=>?_
 have hl0:=stL_len b hx
 have hL:(stL (Aes.mixX x) b).length=17:=stL_len b (Aes.mixN_len hx (Nat.le_refl _))
 repeat' (first|(refine W.gb ?_;try intro b_)|fail)
 rename_i b1
 rw [show stL x b=stL (Aes.mixN x 0) b by simp [Aes.mixN]]
 refine SW.cut [1,2,4] [b1] (fun _:Unit=>[]) (fun _=>[(b1,cl (stL (Aes.mixX x) b) 410)]) (fun _=>True) ?_ ?_
 ·repeat' (first|(refine W.go ?_;try intro b_)|fail)
  refine SW.loopG [1,2,4] [b1] (fun n:Nat=>[(5,.int .i64 ((4*n:Nat):Int))]) (fun n=>[(b1,cl (stL (Aes.mixN x n) b) 410)]) (fun n=>4-n) (fun n=>n≤4) 0 (Nat.zero_le _) ?_
  intro n hn
  have hml:=Aes.mixN_len hx hn
  by_cases h:n<4
  ·have hml2:=stL_len b hml
   have hc4:((x.drop (4*n)).take 4).length=4:=by rw [List.length_take,List.length_drop];omega
   have hdr:(Aes.mixN x n).drop (4*n)=x.drop (4*n):=by
    have e:∀ j,((List.range j).flatMap fun j=>Aes.mixW ((x.drop (4*j)).take 4)).length=4*j:=fun j=>by
     induction j with
     | zero=>rfl
     | succ j ih=>rw [List.range_succ,List.flatMap_append,List.length_append,ih];simp [Aes.mixW];omega
    unfold Aes.mixN
    rw [List.drop_append,e,Nat.sub_self,List.drop_zero,List.drop_of_length_le (by rw [e];exact Nat.le_refl _),List.nil_append]
   have hld:((stL (Aes.mixN x n) b).drop (4*n)).take 4=cbs ((x.drop (4*n)).take 4):=by
    rw [List.drop_append_of_le_length (by rw [cbs_len,hml];omega),List.take_append_of_le_length (by rw [List.length_drop,cbs_len,hml];omega),← hdr]
    simp [cbs]
   have hcl:(cbs ((x.drop (4*n)).take 4)).length=4:=by rw [cbs_len,hc4]
   have hwl:(cbs (Aes.mixW ((x.drop (4*n)).take 4))).length=4:=by rw [cbs_len];simp [Aes.mixW]
   have hput:(stL (Aes.mixN x n) b).take (4*n)++cbs (Aes.mixW ((x.drop (4*n)).take 4))++(stL (Aes.mixN x n) b).drop (4*n+(cbs (Aes.mixW ((x.drop (4*n)).take 4))).length)=stL (Aes.mixN x (n+1)) b:=by
    have hd2:(Aes.mixN x n).drop (4*n+4)=x.drop (4*n+4):=by rw [← List.drop_drop,hdr,List.drop_drop]
    have ht2:(Aes.mixN x n).take (4*n)=(List.range n).flatMap fun j=>Aes.mixW ((x.drop (4*j)).take 4):=by
     have e:∀ j,((List.range j).flatMap fun j=>Aes.mixW ((x.drop (4*j)).take 4)).length=4*j:=fun j=>by
      induction j with
      | zero=>rfl
      | succ j ih=>rw [List.range_succ,List.flatMap_append,List.length_append,ih];simp [Aes.mixW];omega
     unfold Aes.mixN
     rw [List.take_append,e,Nat.sub_self,List.take_zero,List.append_nil,List.take_of_length_le (by rw [e];exact Nat.le_refl _)]
    rw [hwl,List.drop_append_of_le_length (by rw [cbs_len,hml];omega),List.take_append_of_le_length (by rw [cbs_len,hml];omega)]
    have e3:Aes.mixN x (n+1)=(Aes.mixN x n).take (4*n)++Aes.mixW ((x.drop (4*n)).take 4)++(Aes.mixN x n).drop (4*n+4):=by
     rw [ht2,hd2]
     unfold Aes.mixN
     rw [List.range_succ,List.flatMap_append,show 4*(n+1)=4*n+4 by omega]
     simp
    rw [e3]
    show _=cbs _++[ptv b]
    simp only [cbs,List.map_append,List.map_take,List.map_drop,List.append_assoc]
   haveI i1:NatI (((4*n:Nat):Int)+4) (4*n+4):=⟨by omega⟩
   repeat' (first|(refine W.go ?_;try intro b_)|fail)
   refine SL.pu (p_sA11 (l:=4*n) (h:=4*n+4) rfl rfl rfl rfl (by omega) (by omega)) rfl rfl ?_
   rw [show 4*n+4-4*n=4 by omega,Nat.zero_add,Nat.mul_one]
   refine W.s2a ?_
   refine W.la ?_
   refine SL.callv [] rfl rfl rfl rfl rfl rfl (Mix_p _ hc4) (fun _ _=>trivial) ?_
   rintro _ _ ⟨rfl,rfl⟩
   repeat' (first|(refine W.go ?_;try intro b_)|fail)
   (refine SW.regionS [] ?_ (by kernel_rfl);refine SS.T 0 rfl ?_;refine SS.T 1 rfl ?_;refine SS.tw 2 rfl (p_sA10 (l:=4*n) rfl rfl rfl (by omega)) ?_;refine SS.tw 3 rfl (p_sar rfl rfl) ?_;refine SS.effK 4 ?_ rfl (by kernel_rfl))
   rw [Nat.zero_add,Nat.mul_one]
   refine W.cy (mm:=4) (ys:=cbs (Aes.mixW ((x.drop (4*n)).take 4))) (fun w2 hs=>SrcOf.block hs.at (by rw [List.drop_zero,List.take_of_length_le (by rw [hwl];exact Nat.le_refl _)]) (by rw [hwl])) ?_
   rw [hput]
   (refine SL.nilB ?_;refine SS.done ?_ (by kernel_rfl))
   repeat' (first|(refine W.go ?_;try intro b_)|fail)
   rw [show ((4*n:Nat):Int)+4=((4*(n+1):Nat):Int) by omega]
   refine HandF.mk (n+1) ?_
   omega
  ·have:n=4:=by omega
   subst this
   rw [show Aes.mixN x 4=Aes.mixX x from rfl]
   repeat' (first|(refine W.go ?_;try intro b_)|fail)
   refine CutF.mk () ?_
   trivial
 rintro _ -
 repeat' (first|(refine W.go ?_;try intro b_)|fail)
 exact F.cH [(b,boxO)] _ ⟨rfl,rfl⟩
theorem smix_p(b:Nat)(x:List UInt8)(hx:x.length=16):Tri Tryz.prog 288 [stV x b] [(b,boxO)] (fun _=>True) (fun v H=>v=stV (Aes.mixX x) b∧H=[(b,boxO)]):=by
 refine Tri.mk Tryz.func288 rfl Tryz.ntmps288 rfl fun w hw=>?_
 have hl0:=stL_len b hx
 have hL:(stL (Aes.mixX x) b).length=17:=stL_len b (Aes.mixN_len hx (Nat.le_refl _))
 repeat' (first|(refine W.go ?_;try intro b_)|fail)
 refine W.call (cols_p b x hx) ?_
 rintro _ _ ⟨rfl,rfl⟩
 repeat' (first|(refine W.go ?_;try intro b_)|fail)
 exact F.cH [(b,boxO)] _ ⟨rfl,rfl⟩
def stepsL:List Value:=[.func (.func 286) #[] #[],.func (.func 287) #[] #[],.func (.func 288) #[] #[]]
theorem all_p(b sb:Nat)(n:Nat)(hn:n=2∨n=3)(x:List UInt8)(hx:x.length=16):Tri Tryz.prog 285 [stV x b,.slice (some ⟨sb,0,none⟩) n n] [(sb,cl (stepsL.take n) 413),(b,boxO)] (fun _=>True)
  (fun v H=>v=stV (Aes.stps x n) b∧H=[(sb,cl (stepsL.take n) 413),(b,boxO)]):=by
 refine Tri.mk Tryz.func285 rfl Tryz.ntmps285 rfl fun w hw=>?_
 have hl0:=stL_len b hx
 have hl:=fun k=>stL_len b (Aes.stps_len hx k)
 have h0:=hl 0
 have h1:=hl 1
 have h2:=hl 2
 have h3:=hl 3
 have hL:=hl n
 clear hl
 repeat' (first|(refine W.gb ?_;try intro b_)|fail)
 rename_i b1
 rw [show stL x b=stL (Aes.stps x 0) b from rfl]
 refine SW.cutH [2,4] [(sb,cl (stepsL.take n) 413),(b1,cl (stL (Aes.stps x 0) b) 410),(b,boxO)] (fun _:Unit=>[]) (fun _=>[(sb,cl (stepsL.take n) 413),(b1,cl (stL (Aes.stps x n) b) 410),(b,boxO)]) (fun _=>True) ?_ ?_
 ·repeat' (first|(refine W.go ?_;try intro b_)|fail)
  refine SW.loopF [2,4,7,8] (fun k:Nat=>[(9,.int .i64 (k:Int))]) (fun k=>[(sb,cl (stepsL.take n) 413),(b1,cl (stL (Aes.stps x k) b) 410),(b,boxO)]) (fun k=>n-k) (fun k=>k≤n) 0 (Nat.zero_le _) ?_
  intro k hk
  by_cases h:k<n
  ·rcases (by omega:k=0∨k=1∨k=2) with rfl|rfl|rfl
   ·have hv:(stepsL.take n)[0]?=some (.func (.func 286) #[] #[]):=by rcases hn with rfl|rfl <;> rfl
    repeat' (first|(refine W.go ?_;try intro b_)|fail)
    refine SL.callv [(b,boxO)] rfl rfl rfl rfl rfl rfl (ssub_p b (Aes.stps x 0) hx) (fun _ _=>trivial) ?_
    rintro _ _ ⟨rfl,rfl⟩
    rw [show Aes.subX (Aes.stps x 0)=Aes.stps x 1 from rfl]
    repeat' (first|(refine W.go ?_;try intro b_)|fail)
    refine HandF.mk 1 ?_
    omega
   ·have hv:(stepsL.take n)[1]?=some (.func (.func 287) #[] #[]):=by rcases hn with rfl|rfl <;> rfl
    repeat' (first|(refine W.go ?_;try intro b_)|fail)
    refine SL.callv [(b,boxO)] rfl rfl rfl rfl rfl rfl (sshift_p b (Aes.stps x 1) (Aes.stps_len hx 1)) (fun _ _=>trivial) ?_
    rintro _ _ ⟨rfl,rfl⟩
    rw [show Aes.shiftX (Aes.stps x 1)=Aes.stps x 2 from rfl]
    repeat' (first|(refine W.go ?_;try intro b_)|fail)
    refine HandF.mk 2 ?_
    omega
   ·have hv:(stepsL.take n)[2]?=some (.func (.func 288) #[] #[]):=by rcases hn with rfl|rfl <;> first|omega|rfl
    repeat' (first|(refine W.go ?_;try intro b_)|fail)
    refine SL.callv [(b,boxO)] rfl rfl rfl rfl rfl rfl (smix_p b (Aes.stps x 2) (Aes.stps_len hx 2)) (fun _ _=>trivial) ?_
    rintro _ _ ⟨rfl,rfl⟩
    rw [show Aes.mixX (Aes.stps x 2)=Aes.stps x 3 from rfl]
    repeat' (first|(refine W.go ?_;try intro b_)|fail)
    refine HandF.mk 3 ?_
    omega
  ·have:k=n:=by omega
   subst this
   repeat' (first|(refine W.go ?_;try intro b_)|fail)
   refine CutF.mk () ?_
   trivial
 rintro _ -
 repeat' (first|(refine W.go ?_;try intro b_)|fail)
 exact F.cH [(sb,cl (stepsL.take n) 413),(b,boxO)] _ ⟨rfl,rfl⟩
theorem skey_p{c b n:Nat}{ws:List (List UInt8)}{Hc:Hp}(hC:CipP c b n ws Hc)(hw4:∀ y∈ws,y.length=4)(hws:ws.length≤1000)(x:List UInt8)(hx:x.length=16)(r:Nat)(hr:4*r+4≤ws.length):Tri Tryz.prog 284 [ptv c,stV x b,.int .i64 (r:Int)] Hc (fun _=>True)
  (fun v H=>v=stV (Aes.keyX ws r x) b∧H=Hc):=by
 obtain⟨wv,Hs,hS,rfl⟩:=hC
 have hfl:=flatN_len hw4
 refine Tri.mk Tryz.func284 rfl Tryz.ntmps284 rfl fun w hw=>?_
 have hl0:=stL_len b hx
 have hL:(stL (Aes.keyX ws r x) b).length=17:=stL_len b (Aes.keyX_len ..)
 rcases hS with ⟨-,hz,-⟩|⟨bw,len,cap,junk,rfl,hxl,hj,hlc,rfl⟩
 ·have:=congrArg List.length hz
  rw [cbs_len,hfl] at this
  simp at this;omega
 rw [cbs_len,hfl] at hxl
 have hlen:ws.length=len:=by omega
 subst hlen
 repeat' (first|(refine W.gb ?_;try intro b_)|fail)
 rename_i b1
 rw [show stL x b=stL (updN (Aes.keyF ws r x) x 0) b by rw [updN_zero]]
 refine SW.cut [4,6] [b1] (fun _:Unit=>[]) (fun _=>[(b1,cl (stL (Aes.keyX ws r x) b) 410)]) (fun _=>True) ?_ ?_
 ·repeat' (first|(refine W.go ?_;try intro b_)|fail)
  refine SW.loopG [0,2,4,6] [b1] (fun n:Nat=>[(8,.int .i64 (n:Int))]) (fun n=>[(b1,cl (stL (updN (Aes.keyF ws r x) x n) b) 410)]) (fun n=>16-n) (fun n=>n≤16) 0 (Nat.zero_le _) ?_
  intro k hk
  by_cases h:k<16
  ·have hul:=updN_len (Aes.keyF ws r x) (x:=x) (k:=k) (by omega)
   have hv:=updN_at (Aes.keyF ws r x) (x:=x) (k:=k) (by omega) [ptv b]
   have hv2:=cb_at (x:=ws.flatten) (k:=(4*r+k/4)*4+k%4) (by rw [hfl];omega) junk
   have hs:=updN_set (Aes.keyF ws r x) (x:=x) (k:=k) (by omega) [ptv b]
   have hlt:k<(stL (updN (Aes.keyF ws r x) x k) b).length:=by rw [stL_len b (hul.trans hx)];omega
   repeat' (first|(refine W.go ?_;try intro b_)|fail)
   (refine SW.regionS [21] ?_ (by kernel_rfl);refine SS.T 0 rfl ?_;refine SS.T 1 rfl ?_;refine SS.T 2 rfl ?_;(first|refine SS.ls 3 [21] rfl ?_|refine SS.sR 3 rfl ?_);refine SS.T 4 rfl ?_;refine SS.T 5 rfl ?_;refine SS.T 6 rfl ?_;(first|refine SS.ls 7 [21] rfl ?_|refine SS.sR 7 rfl ?_);refine SS.T 8 rfl ?_;refine SS.T 9 rfl ?_;refine SS.T 10 rfl ?_;refine SS.T 11 rfl ?_;refine SS.T 12 rfl ?_;refine SS.T 13 rfl ?_;refine SS.T 14 rfl ?_;refine SS.T 15 rfl ?_;refine SS.T 16 rfl ?_;(first|refine SS.ls 17 [21] rfl ?_|refine SS.sR 17 rfl ?_);refine SS.T 18 rfl ?_;refine SS.T 19 rfl ?_;refine SS.T 20 rfl ?_;refine SS.effB 21 ?_ rfl (by kernel_rfl);(repeat' (first|(refine W.g1 ?_;try intro b_)|fail));refine SS.done ?_ (by kernel_rfl))
   rw [show x.getD k 0 ^^^ ws.flatten.getD ((4*r+k/4)*4+k%4) 0=Aes.keyF ws r x k from rfl,hs]
   repeat' (first|(refine W.go ?_;try intro b_)|fail)
   refine HandF.mk (k+1) ?_
   omega
  ·have:k=16:=by omega
   subst this
   rw [updN_all _ hx,show (List.range 16).map (Aes.keyF ws r x)=Aes.keyX ws r x from rfl]
   repeat' (first|(refine W.go ?_;try intro b_)|fail)
   refine CutF.mk () ?_
   trivial
 rintro _ -
 repeat' (first|(refine W.go ?_;try intro b_)|fail)
 exact F.cH ((c,cipO b (.slice (some ⟨bw,0,none⟩) ws.length cap) (.int .i64 (n:Int)))::[(bw,cl (cbs ws.flatten++junk) 217)]) _ ⟨rfl,rfl⟩
theorem rnds_len'(ws:List (List UInt8))(x:List UInt8)(k:Nat):(Aes.rnds ws x k).length=16:=Aes.rnds_len ws x k
theorem Encrypt_p{c b n:Nat}{ws:List (List UInt8)}{Hc:Hp}(hC:CipP c b n ws Hc)(hw4:∀ y∈ws,y.length=4)(hws:ws.length≤1000)(h1:1≤n)(hn:4*n+4≤ws.length)(x:List UInt8)(hx:x.length=16):Tri Tryz.prog 260 [ptv c,.agg (cbs x).toArray] (Hc++[(b,boxO)]) (fun _=>True)
  (fun v H=>v=.agg (cbs (Aes.enc ws n x)).toArray∧H=Hc++[(b,boxO)]):=by
 have hk:=fun x hx r hr=>skey_p hC hw4 hws x hx r hr
 obtain⟨wv,Hs,hS,rfl⟩:=hC
 have hl16:(cbs x).length=16:=by rw [cbs_len,hx]
 have hfx:bfill (fun i=>[(0,16),(16,1)][i]?) (List.replicate 16 (.int .u8 0)++[.pointer none]) [(0,.agg (cbs x).toArray),(1,ptv b)]=some (stL x b):=
  bf_step (off:=0) (n:=16) (cbs x++[.pointer none]) rfl (by simp [vl,hx]) (by simp) (by simp [vl]) (bf_step (off:=16) (n:=1) (stL x b) rfl rfl (by simp [hx]) (by simp [vl,hx]) rfl)
 refine Tri.mk Tryz.func260 rfl Tryz.ntmps260 rfl fun w hw=>?_
 have hbs3:bfill (fun i=>some (i*1,1)) (zs [.nilFunc] 3) [(0,.func (.func 286) #[] #[]),(1,.func (.func 287) #[] #[]),(2,.func (.func 288) #[] #[])]=some (stepsL.take 3):=rfl
 have hbs2:bfill (fun i=>some (i*1,1)) (zs [.nilFunc] 2) [(0,.func (.func 286) #[] #[]),(1,.func (.func 287) #[] #[])]=some (stepsL.take 2):=rfl
 have hO2:=fun k=>stL_len b (rnds_len' ws x k)
 repeat' (first|(refine W.gb ?_;try intro b_)|fail)
 rename_i b3
 (refine SW.regionS [] ?_ (by kernel_rfl);refine SS.T 0 rfl ?_;(first|refine SS.lw 1 [] rfl ?_|refine SS.la 1 [] rfl ?_|refine SS.aR 1 rfl ?_);refine SS.T 2 rfl ?_;refine SS.T 3 rfl ?_;refine SS.T 4 rfl ?_;(first|refine SS.ls 5 [] rfl ?_|refine SS.sR 5 rfl ?_);refine SS.T 6 rfl ?_;skip )
 have hk0:=hk x hx 0 (by omega)
 have hC2:CipP c b n ws ((c,cipO b wv (.int .i64 (n:Int)))::Hs):=⟨wv,Hs,hS,rfl⟩
 have h17:=stL_len b (Aes.keyX_len ws 0 x)
 refine SS.twoK 7 8 ?a ?b rfl rfl
 case' a=>
  refine W.call hk0 ?_
  rintro _ _ ⟨rfl,rfl⟩
  refine SL.nilB ?_
  refine SS.effK 8 ?_ rfl (by kernel_rfl)
  refine W.al fun b5=>?_
 case' b=>
  refine W.al fun b5=>?_
  refine SL.nilB ?_
  refine SS.effK 7 ?_ rfl (by kernel_rfl)
  refine W.call hk0 ?_
  rintro _ _ ⟨rfl,rfl⟩
 all_goals
  refine SL.nilB ?_
  refine SS.effK 9 ?_ rfl (by kernel_rfl)
  repeat' (first|(refine W.g1 ?_;try intro b_)|fail)
  refine SS.done ?_ (by kernel_rfl)
  repeat' (first|(refine W.gb ?_;try intro b_)|fail)
  refine SW.cut [0,4,5] [b5] (fun _:Unit=>[]) (fun _=>[(b5,cl (stL (Aes.rnds ws x (n-1)) b) 410)]) (fun _=>True) ?_ ?_
  ·repeat' (first|(refine W.go ?_;try intro b_)|fail)
   refine SW.loopG [0,4,5] [b5] (fun k:Nat=>[(6,.int .i64 ((k+1:Nat):Int))]) (fun k=>[(b5,cl (stL (Aes.rnds ws x k) b) 410)]) (fun k=>n-k) (fun k=>k+1≤n) 0 h1 ?_
   intro k hkn
   have hlk:=hO2 k
   have hlk1:=hO2 (k+1)
   by_cases h:k+1<n
   ·repeat' (first|(refine W.go ?_;try intro b_)|fail)
    rename_i b8
    refine W.call (all_p b b_ 3 (.inr rfl) (Aes.rnds ws x k) (Aes.rnds_len ..)) ?_
    rintro _ _ ⟨rfl,rfl⟩
    repeat' (first|(refine W.go ?_;try intro b_)|fail)
    refine W.call (hk _ (Aes.stps_len (Aes.rnds_len ..) 3) (k+1) (by omega)) ?_
    rintro _ _ ⟨rfl,rfl⟩
    rw [show Aes.keyX ws (k+1) (Aes.stps (Aes.rnds ws x k) 3)=Aes.rnds ws x (k+1) from rfl]
    repeat' (first|(refine W.go ?_;try intro b_)|fail)
    refine HandF.mk (k+1) ?_
    omega
   ·have:k=n-1:=by omega
    subst this
    repeat' (first|(refine W.go ?_;try intro b_)|fail)
    refine CutF.mk () ?_
    trivial
  rintro _ -
  have hlN:=hO2 (n-1)
  repeat' (first|(refine W.gb ?_;try intro b_)|fail)
  (refine SW.regionS [8,10] ?_ (by kernel_rfl);refine SS.T 0 rfl ?_;(first|refine SS.lw 1 [3,8,10] rfl ?_|refine SS.la 1 [3,8,10] rfl ?_|refine SS.aR 1 rfl ?_);refine SS.T 4 rfl ?_;refine SS.T 5 rfl ?_;refine SS.T 6 rfl ?_;(first|refine SS.ls 7 [8,10] rfl ?_|refine SS.sR 7 rfl ?_);refine SS.effK 2 ?_ rfl (by kernel_rfl))
  refine W.bsl (fun sb=>?_) (hr:=hbs2)
  (refine SL.nilB ?_;refine SS.effK 3 ?_ rfl (by kernel_rfl))
  refine W.call (all_p b sb 2 (.inl rfl) (Aes.rnds ws x (n-1)) (Aes.rnds_len ..)) ?_
  rintro _ _ ⟨rfl,rfl⟩
  (refine SL.nilB ?_;refine SS.effB 8 ?_ rfl (by kernel_rfl))
  refine W.call (hk _ (Aes.stps_len (Aes.rnds_len ..) 2) n hn) ?_
  rintro _ _ ⟨rfl,rfl⟩
  rw [show Aes.keyX ws n (Aes.stps (Aes.rnds ws x (n-1)) 2)=Aes.enc ws n x from rfl]
  have he:=Aes.enc_len ws n x
  have hfd:((stL (Aes.enc ws n x) b).drop 0).take 16=cbs (Aes.enc ws n x):=by rw [List.drop_zero,List.take_append_of_le_length (by rw [cbs_len,he];exact Nat.le_refl _),List.take_of_length_le (by rw [cbs_len,he];exact Nat.le_refl _)]
  have hfl:(cbs (Aes.enc ws n x)).length=16:=by rw [cbs_len,he]
  (refine SL.nilB ?_;refine SS.T 9 rfl ?_;refine SS.effB 10 ?_ rfl (by kernel_rfl);(repeat' (first|(refine W.g1 ?_;try intro b_)|fail));refine SS.done ?_ (by kernel_rfl))
  repeat' (first|(refine W.go ?_;try intro b_)|fail)
  exact F.cH ((c,cipO b wv (.int .i64 (n:Int)))::Hs++[(b,boxO)]) _ ⟨rfl,rfl⟩
end Go.Proofs.YtnigolgkkjidiaaGreat
namespace Go.Proofs.YtnigolgkkjidiaaGreat
open Go
attribute [local irreducible] SW SL SQ SH SA SS Pu Fin CutF HandF
def ctrB(e:UInt64)(k l:Nat):List UInt8:=Sha.beN 8 e.toNat++Sha.beN 4 k++Sha.beN 2 l++[0,0]
theorem ctrB_len(e:UInt64)(k l:Nat):(ctrB e k l).length=16:=by unfold ctrB;simp [Sha.beN_len]
def lanesB(E:List UInt8→List UInt8)(e:UInt64)(k n:Nat):List UInt8:=(List.range n).flatMap fun l=>E (ctrB e k l)
theorem lanesB_len{E:List UInt8→List UInt8}(hE:∀ x,(E x).length=16)(e:UInt64)(k n:Nat):(lanesB E e k n).length=16*n:=by
 unfold lanesB
 induction n with
 | zero=>rfl
 | succ n ih=>rw [List.range_succ,List.flatMap_append,List.length_append,ih];simp [hE];omega
theorem lanesB_succ(E:List UInt8→List UInt8)(e:UInt64)(k n:Nat):lanesB E e k (n+1)=lanesB E e k n++E (ctrB e k n):=by unfold lanesB;rw [List.range_succ,List.flatMap_append];simp
def ctrX(E:List UInt8→List UInt8)(e:UInt64)(k:Nat)(b:List UInt8):List UInt8:=xorB b ((lanesB E e k ((b.length+15)/16)).take b.length)
theorem ctrX_len{E:List UInt8→List UInt8}(hE:∀ x,(E x).length=16)(e:UInt64)(k:Nat)(b:List UInt8):(ctrX E e k b).length=b.length:=by
 unfold ctrX
 rw [xorB_len,List.length_take,lanesB_len hE];omega
theorem ctrX_twice{E:List UInt8→List UInt8}(hE:∀ x,(E x).length=16)(e:UInt64)(k:Nat)(b:List UInt8):ctrX E e k (ctrX E e k b)=b:=by
 have hl:=ctrX_len hE e k b
 have hs:((lanesB E e k ((b.length+15)/16)).take b.length).length=b.length:=by rw [List.length_take,lanesB_len hE];omega
 have e1:ctrX E e k (ctrX E e k b)=xorB (ctrX E e k b) ((lanesB E e k ((b.length+15)/16)).take b.length):=by
  conv=>lhs;unfold ctrX
  rw [show (xorB b (List.take b.length (lanesB E e k ((b.length+15)/16)))).length=b.length from hl]
  rfl
 rw [e1]
 unfold ctrX xorB
 generalize (lanesB E e k ((b.length+15)/16)).take b.length=s at hs
 clear e1 hl
 induction b generalizing s with
 | nil=>simp
 | cons x r ih=>
  cases s with
  | nil=>simp at hs
  | cons y t=>
   simp only [List.zipWith_cons_cons]
   rw [ih t (by simpa using hs)]
   rw [UInt8.xor_assoc,UInt8.xor_self,UInt8.xor_zero]
theorem Counter_p(e:UInt64)(k l:Nat)(hk:k<4294967296)(hl:l<65536):Tri Tryz.prog 261 [u64v e,.int .u32 (k:Int),.int .u16 (l:Int)] [] (fun _=>True) (fun v H=>v=.agg (cbs (ctrB e k l)).toArray∧H=[]):=by
 refine Tri.mk Tryz.func261 rfl Tryz.ntmps261 rfl fun w hw=>?_
 have hc:=ctrB_len e k l
 have hkU:(UInt64.ofNat k).toNat=k:=by rw [UInt64.toNat_ofNat'];omega
 have hlU:(UInt64.ofNat l).toNat=l:=by rw [UInt64.toNat_ofNat'];omega
 have h1:=high_n 8 e (by omega) (by omega)
 have h2:=high_n 4 (UInt64.ofNat k) (by omega) (by omega)
 have h3:=high_n 2 (UInt64.ofNat l) (by omega) (by omega)
 rw [hkU] at h2
 rw [hlU] at h3
 repeat' (first|(refine W.go ?_;try intro b_)|fail)
 refine W.call h1 ?_
 rintro _ _ ⟨b1,rfl,rfl⟩
 have hb2:bfill (fun i=>some (i*1,1)) (zs [.int .u8 0] 2) [(0,.int .u8 0),(1,.int .u8 0)]=some (cbs [0,0]):=rfl
 repeat' (first|(refine W.go ?_;try intro b_)|fail)
 refine W.callE h2 rfl ?_
 rintro _ _ ⟨b2,rfl,rfl⟩
 repeat' (first|(refine W.go ?_;try intro b_)|fail)
 refine W.callE h3 rfl ?_
 rintro _ _ ⟨b3,rfl,rfl⟩
 refine W.bsl (fun b4=>?_) (hr:=hb2)
 refine W.bsl (fun b5=>?_) (hr:=bs4 ..)
 have hfl:[Sha.beN 8 e.toNat,Sha.beN 4 k,Sha.beN 2 l,[0,0]].flatten=ctrB e k l:=by unfold ctrB;simp
 refine W.call (Concat_p _ [Sha.beN 8 e.toNat,Sha.beN 4 k,Sha.beN 2 l,[0,0]] (by rw [hfl,hc];decide) (by simp only [List.length_cons,List.length_nil];omega)) ?_ (hpre:=fun w2 hs=>RdS.at (T:=50) (fz:=(0,0)) (Hc:=[]) hs rfl (Nat.le_refl _) rfl (four_at rfl (Rd.my (Hc:=[]) (T:=5) b1 _ hs (Sha.beN_len ..)) (Rd.my (Hc:=[]) (T:=5) b2 _ hs (Sha.beN_len ..)) (Rd.my (Hc:=[]) (T:=5) b3 _ hs (Sha.beN_len ..)) (Rd.my (Hc:=[]) (T:=5) b4 _ hs rfl)))
 rw [hfl]
 intro v6 H6 h6
 have h61:=h6.isOne
 have hc16:(cbs (ctrB e k l)).length=16:=by rw [cbs_len,hc]
 rcases h6 with ⟨-,hz,-⟩|⟨b6,len6,cap6,junk,rfl,hxl,hj,hlc,rfl⟩
 ·have:=congrArg List.length hz
  rw [cbs_len,hc] at this
  simp at this
 rw [hc16] at hxl
 have hl6:len6=16:=by omega
 subst hl6
 have hld:((cbs (ctrB e k l)++junk).drop 0).take 16=cbs (ctrB e k l):=by rw [List.drop_zero,List.take_append_of_le_length (by omega),List.take_of_length_le (by omega)]
 repeat' (first|(refine W.go ?_;try intro b_)|fail)
 refine W.s2a ?_
 repeat' (first|(refine W.go ?_;try intro b_)|fail)
 exact F.cH [] _ ⟨rfl,rfl⟩
theorem Stream_p{c b n:Nat}{ws:List (List UInt8)}{Hc:Hp}(hC:CipP c b n ws Hc)(hw4:∀ y∈ws,y.length=4)(hws:ws.length≤1000)(h1:1≤n)(hn:4*n+4≤ws.length)(e:UInt64)(k m:Nat)(hk:k<4294967296)(hm1:1≤m)(hm:m≤65536) :
  Tri Tryz.prog 211 [ptv c,u64v e,.int .u32 (k:Int),.int .i64 (m:Int)] (Hc++[(b,boxO)]) (fun _=>True)
  (fun v H=>∃ Hs,RdH Hs v ((lanesB (Aes.enc ws n) e k ((m+15)/16)).take m)∧H=Hs++(Hc++[(b,boxO)])):=by
 have hE:=fun x (hx:x.length=16)=>Encrypt_p hC hw4 hws h1 hn x hx
 refine Tri.mk Tryz.func211 rfl Tryz.ntmps211 rfl fun w hw=>?_
 have hlb:=fun j=>lanesB_len (E:=Aes.enc ws n) (fun x=>Aes.enc_len ..) e k j
 repeat' (first|(refine W.gb ?_;try intro b_)|fail)
 refine SW.cutH [3] [] (fun x:Value×Hp=>[(10,x.1)]) (fun x=>x.2) (fun x=>Sl 5 1 x.1 (cbs (lanesB (Aes.enc ws n) e k ((m+15)/16))) x.2) ?_ ?_
 ·repeat' (first|(refine W.go ?_;try intro b_)|fail)
  refine SW.loopF [1,2,3,9] (fun x:Nat×Value×Hp=>[(10,x.2.1),(11,.int .i64 (x.1:Int))]) (fun x=>x.2.2++(Hc++[(b,boxO)])) (fun x=>(m+15)/16-x.1) (fun x=>x.1≤(m+15)/16∧Sl 5 1 x.2.1 (cbs (lanesB (Aes.enc ws n) e k x.1)) x.2.2) (0,.slice none 0 0,[]) ⟨Nat.zero_le _,Sl.nil _ _⟩ ?_
  rintro⟨j,v2,H2⟩ ⟨hj,h2⟩
  dsimp only at hj h2 ⊢
  have h21:=h2.isOne
  obtain⟨a2,l2,c2,rfl,hl2⟩:=h2.form
  rw [cbs_len,hlb,Nat.mul_one] at hl2
  subst hl2
  by_cases h:16*j<m
  ·haveI i1:Cv .u16 (j:Int) (j:Int):=⟨by show (j:Int)%65536=(j:Int);omega⟩
   repeat' (first|(refine W.go ?_;try intro b_)|fail)
   refine W.call (Counter_p e k j hk (by omega)) ?_
   rintro _ _ ⟨rfl,rfl⟩
   repeat' (first|(refine W.go ?_;try intro b_)|fail)
   refine SL.callv (Hc++[(b,boxO)]) rfl rfl rfl rfl rfl rfl (hE _ (ctrB_len e k j)) (fun _ _=>trivial) ?_
   rintro _ _ ⟨rfl,rfl⟩
   have hel:(Aes.enc ws n (ctrB e k j)).length=16:=Aes.enc_len ..
   have hec:(cbs (Aes.enc ws n (ctrB e k j))).length=16:=by rw [cbs_len,hel]
   have hls:=lanesB_succ (Aes.enc ws n) e k j
   repeat' (first|(refine W.go ?_;try intro b_)|fail)
   refine W.ap h2 (ys:=cbs (Aes.enc ws n (ctrB e k j))) (mm:=16) (fun w2 hs=>(Sl.own 27 1 b_ (len:=16) (xs:=cbs (Aes.enc ws n (ctrB e k j))) (by omega)).srcAt hs inferInstance) (fun v3 H3 h3=>?_) (hys:=by omega) (hbytes:=by rw [cbs_len,hlb,hec];omega)
   have h31:=h3.isOne
   rw [← cbs_app,← hls] at h3
   repeat' (first|(refine W.go ?_;try intro b_)|fail)
   refine HandF.mk (j+1,v3,H3) ?_
   exact⟨by omega,h3⟩
  ·have:j=(m+15)/16:=by omega
   subst this
   repeat' (first|(refine W.go ?_;try intro b_)|fail)
   refine CutF.mk (_,H2) ?_
   exact h2
 rintro⟨v2,H2⟩ h2
 dsimp only at h2 ⊢
 have h22:=h2
 rcases h2 with ⟨-,hz,-⟩|⟨b6,len6,cap6,junk,rfl,hxl,hj,hlc,rfl⟩
 ·have:=congrArg List.length hz
  rw [cbs_len,hlb] at this
  simp at this;omega
 rw [cbs_len,hlb] at hxl
 repeat' (first|(refine W.go ?_;try intro b_)|fail)
 refine W.s3 ?_
 rw [show sadr (some ⟨b6,0,none⟩) m 0 1=some ⟨b6,0,none⟩ by unfold sadr;split <;> simp [Addr.add]]
 repeat' (first|(refine W.go ?_;try intro b_)|fail)
 refine Fin.to ([(b6,cl (cbs (lanesB (Aes.enc ws n) e k ((m+15)/16))++junk) 5)]++(Hc++[(b,boxO)])) ?_
 have hcut:=(RdH.of h22).cut m 0 m m (Nat.zero_le _) (by omega) (by omega) (by omega)
 rw [List.drop_zero,Nat.sub_zero,show sadr (some ⟨b6,0,none⟩) m 0 1=some ⟨b6,0,none⟩ by unfold sadr;split <;> simp [Addr.add]] at hcut
 exact F.f1 ⟨_,hcut,rfl⟩
theorem Apply_p{c b n:Nat}{ws:List (List UInt8)}{Hc:Hp}(hC:CipP c b n ws Hc)(hw4:∀ y∈ws,y.length=4)(hws:ws.length≤1000)(h1:1≤n)(hn:4*n+4≤ws.length)(e:UInt64)(k:Nat)(hk:k<4294967296)(v:Value)(x:List UInt8)(hm1:1≤x.length)(hm:x.length≤65536) :
  Tri Tryz.prog 145 [ptv c,u64v e,.int .u32 (k:Int),v] (Hc++[(b,boxO)]) (fun w=>Rd ((Hc++[(b,boxO)]).map Prod.fst) w 1 v (cbs x))
  (fun r H=>∃ q,r=.slice (some ⟨q,0,none⟩) x.length x.length∧H=(q,cl (cbs (ctrX (Aes.enc ws n) e k x)) 5)::(Hc++[(b,boxO)])):=by
 have hS:=Stream_p hC hw4 hws h1 hn e k x.length hk hm1 hm
 have hsl:((lanesB (Aes.enc ws n) e k ((x.length+15)/16)).take x.length).length=x.length:=by rw [List.length_take,lanesB_len (fun x=>Aes.enc_len ..)];omega
 have hX:=fun u=>Xor_p v u x ((lanesB (Aes.enc ws n) e k ((x.length+15)/16)).take x.length) (by omega)
 rw [hsl,Nat.min_self,show xorB x ((lanesB (Aes.enc ws n) e k ((x.length+15)/16)).take x.length)=ctrX (Aes.enc ws n) e k x from rfl] at hX
 refine Tri.mk Tryz.func145 rfl Tryz.ntmps145 rfl fun w hw=>?_
 obtain⟨a,la,ca,rfl,hl1,hc1,hr1⟩:=hw.get
 rw [cbs_len,Nat.mul_one] at hl1
 subst hl1
 repeat' (first|(refine W.go ?_;try intro b_)|fail)
 refine W.call hS ?_
 rintro u _ ⟨Hs,hu,rfl⟩
 have hu1:=hu.one
 repeat' (first|(refine W.go ?_;try intro b_)|fail)
 refine W.call (hX u) ?_ (hpre:=fun w2 hs=>⟨hw.ro (Hc:=[]) hs,hu.rd (Hc:=[]) hs⟩)
 rintro _ _ ⟨q,rfl,rfl⟩
 repeat' (first|(refine W.go ?_;try intro b_)|fail)
 refine Fin.to ((q,cl (cbs (ctrX (Aes.enc ws n) e k x)) 5)::(Hc++[(b,boxO)])) ?_
 exact F.f1 ⟨q,rfl,rfl⟩
end Go.Proofs.YtnigolgkkjidiaaGreat
