/- The program's AES: a key's words. -/
import Derived.Test.YtnigolgkkjidiaaGreatPm12
import Derived.Test.YtnigolgkkjidiaaGreatPm4
import Derived.Test.YtnigolgkkjidiaaGreatPm5
import Derived.Test.YtnigolgkkjidiaaGreatPm10
set_option linter.unusedVariables false
set_option linter.unusedSimpArgs false
set_option linter.unusedSectionVars false
set_option maxHeartbeats 1000000
namespace Go.Proofs.YtnigolgkkjidiaaGreat
open Go
attribute [local irreducible] SW SL SQ SH SA SS Pu Fin CutF HandF
namespace Aes
def S(x:UInt8):UInt8:=Gf.subL.getD x.toNat 0
def subW(w:List UInt8):List UInt8:=w.map S
def subN(w:List UInt8)(k:Nat):List UInt8:=subW (w.take k)++w.drop k
def xor4(a b:List UInt8):List UInt8:=List.zipWith (· ^^^ ·) a b
def xorN(a b:List UInt8)(k:Nat):List UInt8:=xor4 (a.take k) (b.take k)++a.drop k
theorem step_set{α:Type}(f:List α→List α)(w:List α)(v:α){k:Nat}{x:α}(hx:w[k]?=some x)(hl:(f (w.take k)).length=k)(hs:f (w.take (k+1))=f (w.take k)++[v]):(f (w.take k)++w.drop k).set k v=f (w.take (k+1))++w.drop (k+1):=by
 rw [List.set_append_right _ _ (by omega),hl,Nat.sub_self,hs]
 have:w.drop k=x::w.drop (k+1):=by
  obtain⟨hk,e⟩:=List.getElem?_eq_some_iff.1 hx
  rw [List.drop_eq_getElem_cons hk,e]
 rw [this]
 simp
theorem subN_set{w:List UInt8}{k:Nat}{x:UInt8}(hx:w[k]?=some x):(subN w k).set k (S x)=subN w (k+1):=by
 have hk:=(List.getElem?_eq_some_iff.1 hx).1
 refine step_set subW w (S x) hx (by unfold subW;simp;omega) ?_
 unfold subW
 rw [List.take_add_one,hx]
 simp
theorem subN_at{w:List UInt8}{k:Nat}{x:UInt8}(hx:w[k]?=some x):(subN w k)[k]?=some x:=by
 have hk:=(List.getElem?_eq_some_iff.1 hx).1
 have hl:(subW (w.take k)).length=k:=by unfold subW;simp;omega
 unfold subN
 rw [List.getElem?_append_right (by omega),hl,Nat.sub_self,List.getElem?_drop]
 simpa using hx
theorem subN_len(w:List UInt8)(k:Nat):(subN w k).length=w.length:=by unfold subN subW;simp;omega
theorem subW_len(w:List UInt8):(subW w).length=w.length:=by unfold subW;simp
theorem xor4_len{a b:List UInt8}(h:a.length=b.length):(xor4 a b).length=a.length:=by unfold xor4;simp;omega
theorem xorN_set{a b:List UInt8}{k:Nat}{x y:UInt8}(hl:a.length=b.length)(hx:a[k]?=some x)(hy:b[k]?=some y):(xorN a b k).set k (x ^^^ y)=xorN a b (k+1):=by
 have hk:=(List.getElem?_eq_some_iff.1 hx).1
 have h1:(xor4 (a.take k) (b.take k)).length=k:=by unfold xor4;simp;omega
 unfold xorN
 rw [List.set_append_right _ _ (by omega),h1,Nat.sub_self]
 have:a.drop k=x::a.drop (k+1):=by
  obtain⟨hk,e⟩:=List.getElem?_eq_some_iff.1 hx
  rw [List.drop_eq_getElem_cons hk,e]
 rw [this,List.take_add_one,List.take_add_one,hx,hy]
 unfold xor4
 rw [Option.toList_some,Option.toList_some,List.zipWith_append (by simp;omega)]
 simp
theorem xorN_at{a b:List UInt8}{k:Nat}{x:UInt8}(hl:a.length=b.length)(hx:a[k]?=some x):(xorN a b k)[k]?=some x:=by
 have hk:=(List.getElem?_eq_some_iff.1 hx).1
 have h1:(xor4 (a.take k) (b.take k)).length=k:=by unfold xor4;simp;omega
 unfold xorN
 rw [List.getElem?_append_right (by omega),h1,Nat.sub_self,List.getElem?_drop]
 simpa using hx
theorem xorN_len{a b:List UInt8}(hl:a.length=b.length)(k:Nat):(xorN a b k).length=a.length:=by unfold xorN xor4;simp;omega
end Aes
theorem cbs_at{xs:List UInt8}{i:Nat}{x:UInt8}(h:xs[i]?=some x):(cbs xs)[i]?=some (u8v x):=by unfold cbs;rw [List.getElem?_map,h];rfl
theorem cbs_st(xs:List UInt8)(i:Nat)(v:UInt8):(cbs xs).set i (u8v v)=cbs (xs.set i v):=by unfold cbs;rw [List.map_set]
theorem at_of{xs:List UInt8}{k n:Nat}(hl:xs.length=n)(h:k<n):∃ x,xs[k]?=some x:=⟨_,List.getElem?_eq_getElem (by omega)⟩
abbrev boxO:Obj:=cl (cbs Gf.subL++cbs (Gf.backN 256)) 222
theorem Gf.subL_len:Gf.subL.length=256:=by unfold Gf.subL;simp
abbrev cipO(b:Nat)(ws r:Value):Obj:=cl [.pointer (some ⟨b,0,none⟩),ws,r] 213
theorem asub_p{c b:Nat}{ws r:Value}(x:List UInt8)(hx4:x.length=4):Tri Tryz.prog 168 [.pointer (some ⟨c,0,none⟩),.agg (cbs x).toArray] [(c,cipO b ws r),(b,boxO)] (fun _=>True)
  (fun v H=>v=.agg (cbs (Aes.subW x)).toArray∧H=[(c,cipO b ws r),(b,boxO)]):=by
 refine Tri.mk Tryz.func168 rfl Tryz.ntmps168 rfl fun w hw=>?_
 have hw0:Aes.subN x 0=x:=by unfold Aes.subN Aes.subW;simp
 have hw5:Aes.subN x 4=Aes.subW x:=by unfold Aes.subN;rw [List.take_of_length_le (by omega),List.drop_of_length_le (by omega),List.append_nil]
 repeat' (refine W.gb ?_;try intro b_)
 rename_i b3
 refine SW.cutH [0,3,4] [(b3,cl (cbs x) 217),(c,cipO b ws r),(b,boxO)] (fun _:Unit=>[]) (fun _=>[(b3,cl (cbs (Aes.subW x)) 217),(c,cipO b ws r),(b,boxO)]) (fun _=>True) ?_ ?_
 ·repeat' (refine W.go ?_;try intro b_)
  rw [show cl (cbs x) 217=cl (cbs (Aes.subN x 0)) 217 by rw [hw0]]
  refine SW.loopF [0,3,4] (fun n:Nat=>[(6,.int .i64 (n:Int))]) (fun n=>[(b3,cl (cbs (Aes.subN x n)) 217),(c,cipO b ws r),(b,boxO)]) (fun n=>4-n) (fun n=>n≤4) 0 (Nat.zero_le _) ?_
  intro n hn
  by_cases h:n<4
  ·obtain⟨y,hy⟩:=at_of hx4 h
   have hv:=cbs_at (Aes.subN_at hy)
   have hs:=cbs_st (Aes.subN x n) n (Aes.S y)
   rw [Aes.subN_set hy] at hs
   have hlt:n<(cbs (Aes.subN x n)).length:=by unfold cbs;rw [List.length_map,Aes.subN_len];omega
   repeat' (refine W.go ?_;try intro b_)
   (refine SW.regionS [8,10] ?_ (by kernel_rfl);refine SS.T 0 rfl ?_;refine SS.T 1 rfl ?_;refine SS.T 2 rfl ?_;refine SS.T 3 rfl ?_;(first|refine SS.ls 4 [8,10] rfl ?_|refine SS.sR 4 rfl ?_);refine SS.T 5 rfl ?_;refine SS.T 6 rfl ?_;(first|refine SS.ls 7 [8,10] rfl ?_|refine SS.sR 7 rfl ?_);refine SS.effB 8 ?_ rfl (by kernel_rfl))
   refine W.call (gsub_p (m:=Gf.backN 256) Gf.subL_len y) ?_
   rintro _ _ ⟨rfl,rfl⟩
   (refine SL.nilB ?_;refine SS.T 9 rfl ?_;refine SS.effB 10 ?_ rfl (by kernel_rfl);(repeat' (refine W.g1 ?_;try intro b_));refine SS.done ?_ (by kernel_rfl))
   rw [show u8v (Gf.subL.getD y.toNat 0)=u8v (Aes.S y) from rfl,hs]
   repeat' (refine W.go ?_;try intro b_)
   refine HandF.mk (n+1) ?_
   omega
  ·have:n=4:=by omega
   subst this
   rw [hw5]
   repeat' (refine W.go ?_;try intro b_)
   refine CutF.mk () ?_
   trivial
 rintro _ -
 have hL:(cbs (Aes.subW x)).length=4:=by unfold cbs;rw [List.length_map,Aes.subW_len,hx4]
 repeat' (refine W.go ?_;try intro b_)
 exact F.cH [(c,cipO b ws r),(b,boxO)] _ ⟨rfl,rfl⟩
theorem axor_p(x z:List UInt8)(hx4:x.length=4)(hz4:z.length=4):Tri Tryz.prog 103 [.agg (cbs x).toArray,.agg (cbs z).toArray] [] (fun _=>True) (fun v H=>v=.agg (cbs (Aes.xor4 x z)).toArray∧H=[]):=by
 refine Tri.mk Tryz.func103 rfl Tryz.ntmps103 rfl fun w hw=>?_
 have hxz:x.length=z.length:=by omega
 have hw0:Aes.xorN x z 0=x:=by unfold Aes.xorN Aes.xor4;simp
 have hw5:Aes.xorN x z 4=Aes.xor4 x z:=by unfold Aes.xorN;rw [List.take_of_length_le (by omega),List.take_of_length_le (by omega),List.drop_of_length_le (by omega),List.append_nil]
 have hL:(cbs (Aes.xor4 x z)).length=4:=by unfold cbs;rw [List.length_map,Aes.xor4_len hxz,hx4]
 repeat' (refine W.gb ?_;try intro b_)
 rename_i b2 b3
 refine SW.cutH [2,3,4] [(b2,cl (cbs x) 217),(b3,cl (cbs z) 217)] (fun _:Unit=>[]) (fun _=>[(b2,cl (cbs (Aes.xor4 x z)) 217),(b3,cl (cbs z) 217)]) (fun _=>True) ?_ ?_
 ·repeat' (refine W.go ?_;try intro b_)
  rw [show cl (cbs x) 217=cl (cbs (Aes.xorN x z 0)) 217 by rw [hw0]]
  refine SW.loopF [2,3,4] (fun n:Nat=>[(6,.int .i64 (n:Int))]) (fun n=>[(b2,cl (cbs (Aes.xorN x z n)) 217),(b3,cl (cbs z) 217)]) (fun n=>4-n) (fun n=>n≤4) 0 (Nat.zero_le _) ?_
  intro n hn
  by_cases h:n<4
  ·obtain⟨y,hy⟩:=at_of hx4 h
   obtain⟨u,hu⟩:=at_of hz4 h
   have hv:=cbs_at (Aes.xorN_at hxz hy)
   have hv2:=cbs_at hu
   have hs:=cbs_st (Aes.xorN x z n) n (y ^^^ u)
   rw [Aes.xorN_set hxz hy hu] at hs
   have hlt:n<(cbs (Aes.xorN x z n)).length:=by unfold cbs;rw [List.length_map,Aes.xorN_len hxz];omega
   repeat' (refine W.go ?_;try intro b_)
   (refine SW.regionS [8] ?_ (by kernel_rfl);refine SS.T 0 rfl ?_;refine SS.T 1 rfl ?_;(first|refine SS.ls 2 [8] rfl ?_|refine SS.sR 2 rfl ?_);refine SS.T 3 rfl ?_;refine SS.T 4 rfl ?_;(first|refine SS.ls 5 [8] rfl ?_|refine SS.sR 5 rfl ?_);refine SS.T 6 rfl ?_;refine SS.T 7 rfl ?_;refine SS.effB 8 ?_ rfl (by kernel_rfl);(repeat' (refine W.g1 ?_;try intro b_));refine SS.done ?_ (by kernel_rfl))
   rw [hs]
   repeat' (refine W.go ?_;try intro b_)
   refine HandF.mk (n+1) ?_
   omega
  ·have:n=4:=by omega
   subst this
   rw [hw5]
   repeat' (refine W.go ?_;try intro b_)
   refine CutF.mk () ?_
   trivial
 rintro _ -
 repeat' (refine W.go ?_;try intro b_)
 exact F.cH [] _ ⟨rfl,rfl⟩
end Go.Proofs.YtnigolgkkjidiaaGreat
namespace Go.Proofs.YtnigolgkkjidiaaGreat
open Go
attribute [local irreducible] SW SL SQ SH SA SS Pu Fin CutF HandF
namespace Aes
def rotW(w:List UInt8):List UInt8:=w.drop 1++w.take 1
def xorH(w:List UInt8)(p:UInt8):List UInt8:=w.set 0 (w.getD 0 0 ^^^ p)
def nextW(w:List UInt8)(i n:Nat):List UInt8:=
 if i%n=0 then xorH (subW (rotW w)) (Gf.pow 2 (i/n-1)) else if 6<n∧i%n=4 then subW w else w
theorem nextW_len{w:List UInt8}(h:w.length=4)(i n:Nat):(nextW w i n).length=4:=by
 unfold nextW xorH rotW
 split
 ·rw [List.length_set,subW_len];simp;omega
 ·split
  ·rw [subW_len];exact h
  ·exact h
end Aes
theorem four{w:List UInt8}(h:w.length=4):∃ a b c d,w=[a,b,c,d]:=by
 match w,h with
 | [a,b,c,d],_=>exact⟨a,b,c,d,rfl⟩
abbrev W4(ws:List (List UInt8)):Prop:=∀ x∈ws,x.length=4
theorem anext_p{c b bw len cap:Nat}{r:Value}{junk:List Value}(ws:List (List UInt8))(hws:W4 ws)(hl:ws.length=len)(hc:len≤cap)(w0:List UInt8)(i n:Nat)(hn:4≤n)(hn8:n≤8)(hi:n≤i)(hi6:i≤1000)(hw0:ws[i-1]?=some w0) :
  Tri Tryz.prog 104 [.pointer (some ⟨c,0,none⟩),.int .i64 (i:Int),.int .i64 (n:Int)] [(bw,cl (cbs ws.flatten++junk) 217),(c,cipO b (.slice (some ⟨bw,0,none⟩) len cap) r),(b,boxO)] (fun _=>True)
  (fun v H=>v=.agg (cbs (Aes.nextW w0 i n)).toArray∧H=[(bw,cl (cbs ws.flatten++junk) 217),(c,cipO b (.slice (some ⟨bw,0,none⟩) len cap) r),(b,boxO)]):=by
 refine Tri.mk Tryz.func104 rfl Tryz.ntmps104 rfl fun w hw=>?_
 have hx4:=hws w0 (List.mem_of_getElem? hw0)
 have hil:i-1<ws.length:=(List.getElem?_eq_some_iff.1 hw0).1
 have hg:=cbs_getJ (junk:=junk) hws hw0
 haveI:NatI ((i:Int)-1) (i-1):=⟨by omega⟩
 obtain⟨a0,a1,a2,a3,rfl⟩:=four hx4
 have hL:=Aes.nextW_len hx4 i n
 have hL2:(cbs (Aes.nextW [a0,a1,a2,a3] i n)).length=4:=by unfold cbs;rw [List.length_map,hL]
 generalize hF:(cbs ws.flatten++junk)=Fc at *
 repeat' (first|(refine W.gb ?_;try intro b_)|fail)
 rename_i b6
 have hR:∀ k,k=i/n-1→(i:Int)/(n:Int)-1=(k:Int):=fun k hk=>by
  have h1:1≤i/n:=Nat.div_pos hi (by omega)
  have h2:(i:Int)/(n:Int)=((i/n:Nat):Int):=by simp
  omega
 have hM:(i:Int)%(n:Int)=((i%n:Nat):Int):=by simp
 refine SW.cutH [6,7] [(b_,cl (cbs [a0,a1,a2,a3]) 217),(b6,cl [.int .u8 0,.int .u8 0,.int .u8 0,.int .u8 0] 217),(bw,cl Fc 217),(c,cipO b (.slice (some ⟨bw,0,none⟩) len cap) r),(b,boxO)] (fun _:Unit=>[])
  (fun _=>[(b_,cl (cbs (Aes.nextW [a0,a1,a2,a3] i n)) 217),(b6,cl [.int .u8 0,.int .u8 0,.int .u8 0,.int .u8 0] 217),(bw,cl Fc 217),(c,cipO b (.slice (some ⟨bw,0,none⟩) len cap) r),(b,boxO)]) (fun _=>True) ?_ ?_
 ·have hs:=asub_p (c:=c) (b:=b) (ws:=.slice (some ⟨bw,0,none⟩) len cap) (r:=r)
  by_cases h0:i%n=0
  ·rw [h0] at hM
   have e:Aes.nextW [a0,a1,a2,a3] i n=[Aes.S a1 ^^^ Gf.pow 2 (i/n-1),Aes.S a2,Aes.S a3,Aes.S a0]:=by unfold Aes.nextW;rw [if_pos h0];rfl
   have hc0:cbs [a0,a1,a2,a3]=[u8v a0,u8v a1,u8v a2,u8v a3]:=rfl
   have hl4:(cbs (Aes.subW [a1,a2,a3,a0])).length=4:=rfl
   rw [e,hc0]
   repeat' (first|(refine W.go ?_;try intro b_)|fail)
   refine W.call (hs [a1,a2,a3,a0] rfl) ?_
   rintro _ _ ⟨rfl,rfl⟩
   repeat' (first|(refine W.go ?_;try intro b_)|fail)
   have hw:IntKind.i64.wrap ((i:Int)/(n:Int)-1)=((i/n-1:Nat):Int):=by
    have h2:i/n≤1000:=Nat.le_trans (Nat.div_le_self ..) hi6
    rw [hR _ rfl];exact w64 (by omega)
   have h2:i/n-1≤1000000:=by
    have h2:i/n≤1000:=Nat.le_trans (Nat.div_le_self ..) hi6
    omega
   (refine SW.regionS [9] ?_ (by kernel_rfl);refine SS.T 0 rfl ?_;(first|refine SS.ls 1 [9] rfl ?_|refine SS.sR 1 rfl ?_);refine SS.T 2 rfl ?_;refine SS.T 3 rfl ?_;refine SS.tw 4 rfl (p_quoP rfl rfl rfl (by omega) (by omega) (by omega)) ?_;refine SS.tw 5 rfl (p_sub rfl rfl rfl hw) ?_;refine SS.effK 6 ?_ rfl (by kernel_rfl))
   refine W.call (power_p 2 (i/n-1) h2) ?_
   rintro _ _ ⟨rfl,rfl⟩
   (refine SL.nilB ?_;refine SS.T 7 rfl ?_;refine SS.T 8 rfl ?_;refine SS.effB 9 ?_ rfl (by kernel_rfl);(repeat' (first|(refine W.g1 ?_;try intro b_)|fail));refine SS.done ?_ (by kernel_rfl))
   have hfin:(cbs (Aes.subW [a1,a2,a3,a0])).set 0 (.int .u8 ((Aes.S a1 ^^^ Gf.pow 2 (i/n-1)).toNat:Int))=cbs [Aes.S a1 ^^^ Gf.pow 2 (i/n-1),Aes.S a2,Aes.S a3,Aes.S a0]:=rfl
   rw [hfin]
   repeat' (first|(refine W.go ?_;try intro b_)|fail)
   refine CutF.mk () ?_
   trivial
  ·have h0':¬ (i:Int)%(n:Int)=0:=by omega
   by_cases h6:6<n
   ·by_cases h4:i%n=4
    ·have h4':(i:Int)%(n:Int)=4:=by omega
     have e:Aes.nextW [a0,a1,a2,a3] i n=Aes.subW [a0,a1,a2,a3]:=by unfold Aes.nextW;rw [if_neg h0,if_pos ⟨h6,h4⟩]
     have hl4:(cbs (Aes.subW [a0,a1,a2,a3])).length=4:=rfl
     rw [e]
     repeat' (first|(refine W.go ?_;try intro b_)|fail)
     refine W.call (hs [a0,a1,a2,a3] rfl) ?_
     rintro _ _ ⟨rfl,rfl⟩
     repeat' (first|(refine W.go ?_;try intro b_)|fail)
     refine CutF.mk () ?_
     trivial
    ·have h4':¬ (i:Int)%(n:Int)=4:=by omega
     have e:Aes.nextW [a0,a1,a2,a3] i n=[a0,a1,a2,a3]:=by unfold Aes.nextW;rw [if_neg h0,if_neg (fun h=>h4 h.2)]
     rw [e]
     repeat' (first|(refine W.go ?_;try intro b_)|fail)
     refine CutF.mk () ?_
     trivial
   ·have e:Aes.nextW [a0,a1,a2,a3] i n=[a0,a1,a2,a3]:=by unfold Aes.nextW;rw [if_neg h0,if_neg (fun h=>h6 h.1)]
    rw [e]
    repeat' (first|(refine W.go ?_;try intro b_)|fail)
    refine CutF.mk () ?_
    trivial
 rintro _ -
 repeat' (first|(refine W.go ?_;try intro b_)|fail)
 exact F.cH [(bw,cl Fc 217),(c,cipO b (.slice (some ⟨bw,0,none⟩) len cap) r),(b,boxO)] _ ⟨rfl,rfl⟩
end Go.Proofs.YtnigolgkkjidiaaGreat
