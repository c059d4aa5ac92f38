/- Epochs of blocks, and blocks of epochs. -/
import Derived.Test.YtnigolgkkjidiaaGreatPm21
import Derived.Test.YtnigolgkkjidiaaGreatPm18
import Derived.Test.YtnigolgkkjidiaaGreatPm25
import Derived.Test.YtnigolgkkjidiaaGreatPm19
import Derived.Test.YtnigolgkkjidiaaGreatPm20
set_option linter.unusedVariables false
set_option linter.unusedSimpArgs false
set_option linter.unusedSectionVars false
set_option maxHeartbeats 2000000
namespace Go.Proofs.YtnigolgkkjidiaaGreat
open Go
attribute [local irreducible] SW SL SQ SH SA SS Pu Fin CutF HandF
abbrev uv(es:List UInt64):List Value:=es.map u64v
theorem uv_len(es:List UInt64):(uv es).length=es.length:=List.length_map ..
theorem uv_at{es:List UInt64}{k:Nat}(h:k<es.length):(uv es)[k]?=some (u64v (es.getD k 0)):=by
 rw [List.getElem?_map,List.getElem?_eq_getElem h,List.getD_eq_getElem?_getD,List.getElem?_eq_getElem h];rfl
def epsL(x:List UInt8)(n:Nat):List UInt64:=(List.range n).map fun k=>getU ((x.drop (8*k)).take 8)
theorem epsL_len(x:List UInt8)(n:Nat):(epsL x n).length=n:=by simp [epsL]
theorem epsL_succ(x:List UInt8)(n:Nat):epsL x (n+1)=epsL x n++[getU ((x.drop (8*n)).take 8)]:=by unfold epsL;rw [List.range_succ,List.map_append];rfl
theorem RB.rds{K:List Nat}{w0 w:World}{H Hc Ht r:Hp}{v:Value}{vs:List Value}{bss:List (List UInt8)}(hB:RB Ht vs bss)(hv:Rd (Hc.map Prod.fst) w 1 v vs)(hs:St K w0 H w) [hp:Part H (Hc++Ht) r]:RdS (Hc.map Prod.fst) w v bss:=
 ⟨vs,hv,hB.1,fun i bs hi=>by
  obtain⟨u,h1,h2⟩:=hB.2 i bs hi
  have hr:=h2.rd (Hc:=Hc) hs
  obtain⟨a,len,cap,rfl,-⟩:=h2
  exact⟨a,len,cap,h1,hr⟩⟩
theorem sEpochs_p{p t:Nat}(h:Gm.Ok p t){Ht:Hp}(v:Value)(vs:List Value)(bss:List (List UInt8))(hB:RB Ht vs bss)(hn:bss.length=Gm.epochs p)(h256:∀ b∈bss,b.length=256):Tri Tryz.prog 194 [geoV p t,v] Ht (fun w=>Rd (Ht.map Prod.fst) w 1 v vs)
  (fun r H=>∃ b,r=.tuple #[.slice (some ⟨b,0,none⟩) (Gm.sealed p) (Gm.sealed p),.int .i64 0]∧H=(b,cl (uv (epsL bss.flatten (Gm.sealed p))) 28)::Ht):=by
 refine Tri.mk Tryz.func194 rfl Tryz.ntmps194 rfl fun w hw=>?_
 have hck:=gcheck_p h
 have hep:=gepochsN_p h
 have hse:=gsealedN_p h
 have hsl:=Gm.sealed_le h
 have hfl:=flatN_len h256
 have he32:Gm.sealed p≤32*Gm.epochs p:=by unfold Gm.epochs Gm.up;omega
 have hel:=Gm.epochs_le h
 have hcb:=contB_p v vs bss hB (by omega) h256
 have hcc:=Concat_p v bss (by rw [hfl];omega) (by omega)
 obtain⟨a,la,ca,rfl,hl1,hc1,hr1⟩:=hw.get
 rw [Nat.mul_one,hB.1] at hl1
 subst hl1
 have hY:One (Value.slice a bss.length ca):=⟨rfl⟩
 rw [← hn] at hep
 rw [hn] at hfl
 generalize Gm.sealed p=s at *
 repeat' (first|(refine W.go ?_;try intro b_)|fail)
 refine W.call hck ?_
 rintro _ _ ⟨rfl,rfl⟩
 repeat' (first|(refine W.go ?_;try intro b_)|fail)
 refine W.call hep ?_
 rintro _ _ ⟨rfl,rfl⟩
 repeat' (first|(refine W.go ?_;try intro b_)|fail)
 refine W.call hcb ?_ (hpre:=fun w2 hs=>hw.ro (Hc:=Ht) hs)
 rintro _ Ht ⟨rfl,rfl⟩
 repeat' (first|(refine W.go ?_;try intro b_)|fail)
 refine W.call hcc ?_ (hpre:=fun w2 hs=>hB.rds (Hc:=[]) (hw.ro (Hc:=[]) hs) hs)
 intro v1 H1 h1
 have h11:=h1.isOne
 repeat' (first|(refine W.go ?_;try intro b_)|fail)
 refine W.call (Of_p v1 bss.flatten (by omega)) ?_ (hpre:=fun w2 hs=>Rd.own (Hc:=[]) h1 hs inferInstance)
 rintro _ H2 ⟨q,rfl,hR⟩
 repeat' (first|(refine W.go ?_;try intro b_)|fail)
 refine W.call hse ?_
 rintro _ _ ⟨rfl,rfl⟩
 repeat' (first|(refine W.gb ?_;try intro b_)|fail)
 rw [show zs [Value.int .u64 0] s=uv (epsL bss.flatten 0)++List.replicate (s-0) (.int .u64 0) by rw [zs_one];rfl]
 generalize b_=bs at *
 refine SW.cutH [8] ((bs,cl (uv (epsL bss.flatten 0)++List.replicate (s-0) (.int .u64 0)) 28)::H2) (fun _:Unit=>[]) (fun _=>[(bs,cl (uv (epsL bss.flatten s)) 28)]) (fun _=>True) ?_ ?_
 ·repeat' (first|(refine W.go ?_;try intro b_)|fail)
  refine SW.loopF [7,8,33] (fun x:Nat×Hp=>[(34,.int .i64 (x.1:Int))]) (fun x=>(bs,cl (uv (epsL bss.flatten x.1)++List.replicate (s-x.1) (.int .u64 0)) 28)::x.2) (fun x=>s-x.1) (fun x=>x.1≤s∧RowP q (bss.flatten.drop (8*x.1)) x.2) (0,H2) ⟨Nat.zero_le _,hR⟩ ?_
  rintro⟨k,H3⟩ ⟨hk,hR3⟩
  dsimp only at hk hR3 ⊢
  by_cases hks:k<s
  ·have hnm:=Num_p hR3 8 (by decide) (by decide) (by rw [List.length_drop];omega) (by rw [List.length_drop];omega)
   rw [List.drop_drop,show 8*k+8=8*(k+1) by omega] at hnm
   have hlt:k<(uv (epsL bss.flatten k)++List.replicate (s-k) (Value.int .u64 0)).length:=by rw [List.length_append,uv_len,epsL_len,List.length_replicate];omega
   have hf:=fill_step (uv (epsL bss.flatten k)) (s-(k+1)) (.int .u64 0) (.int .u64 (getN ((bss.flatten.drop (8*k)).take 8):Nat))
   rw [show s-(k+1)+1=s-k by omega,uv_len,epsL_len] at hf
   have hu:Value.int .u64 ((getN ((bss.flatten.drop (8*k)).take 8):Nat):Int)=u64v (getU ((bss.flatten.drop (8*k)).take 8)):=by unfold u64v;rw [getU_nat]
   have he:uv (epsL bss.flatten k)++[.int .u64 (getN ((bss.flatten.drop (8*k)).take 8):Nat)]=uv (epsL bss.flatten (k+1)):=by rw [hu,epsL_succ];simp
   rw [he] at hf
   repeat' (first|(refine W.go ?_;try intro b_)|fail)
   refine SL.callv H3 rfl rfl rfl rfl rfl rfl hnm (fun _ _=>trivial) ?_
   rintro _ H4 ⟨rfl,hR4⟩
   repeat' (first|(refine W.go ?_;try intro b_)|fail)
   rw [hf]
   refine HandF.mk (k+1,H4) ?_
   exact⟨hks,hR4⟩
  ·have:k=s:=by omega
   subst this
   rw [Nat.sub_self,List.replicate_zero,List.append_nil]
   repeat' (first|(refine W.go ?_;try intro b_)|fail)
   refine CutF.mk () ?_
   trivial
 rintro _ -
 repeat' (first|(refine W.go ?_;try intro b_)|fail)
 refine Fin.to ((bs,cl (uv (epsL bss.flatten s)) 28)::Ht) ?_
 exact F.f2 ⟨bs,rfl,rfl⟩
theorem sBlock_p{p t:Nat}(h:Gm.Ok p t)(k:Nat)(hk:k<Gm.epochs p)(v:Value)(es:List UInt64)(hn:es.length=Gm.sealed p):Tri Tryz.prog 132 [geoV p t,.int .i64 (k:Int),v] [] (fun w=>Rd [] w 1 v (uv es))
  (fun r H=>∃ b,r=.tuple #[.slice (some ⟨b,0,none⟩) 256 256,.int .i64 0]∧H=[(b,cl (cbs (epB k es)) 5)]):=by
 refine Tri.mk Tryz.func132 rfl Tryz.ntmps132 rfl fun w hw=>?_
 have hck:=gcheck_p h
 have hse:=gsealedN_p h
 have hea:=gepochAt_p h (k:Int)
 rw [show Gm.atK (Gm.epochs p) 1 (k:Int)=((1+k:Nat):Int) by unfold Gm.atK;rw [if_pos (by omega)];omega] at hea
 have hsl:=Gm.sealed_le h
 have hel:=Gm.epochs_le h
 have hk32:32*k<Gm.sealed p:=by unfold Gm.epochs Gm.up at hk;omega
 rw [← hn] at hse hsl hk32
 have hw0:=hw
 obtain⟨a,la,ca,rfl,hl1,hc1,hr1⟩:=hw.get
 rw [Nat.mul_one,uv_len] at hl1
 subst hl1
 have hY:One (Value.slice a es.length ca):=⟨rfl⟩
 have hm:min (32*(k+1)) es.length=min (32*k+32) es.length:=by rw [show 32*(k+1)=32*k+32 by omega]
 haveI i1:NatI (min (32*((k:Int)+1)) (es.length:Int)) (min (32*k+32) es.length):=⟨by omega⟩
 haveI i2:NatI (32*(k:Int)) (32*k):=⟨by omega⟩
 have hmd:min (32*k+32) es.length=32*k+((es.drop (32*k)).take 32).length:=by rw [List.length_take,List.length_drop];omega
 have hcut:=hw0.cutN ca (32*k) (min (32*k+32) es.length) (ca-32*k) (by omega) (by omega) (by omega) (by omega)
 rw [Nat.mul_one,Nat.mul_one,show (List.drop (32*k) (uv es)).take (min (32*k+32) es.length-32*k)=uv ((es.drop (32*k)).take 32) by
  rw [hmd,Nat.add_sub_cancel_left,← List.map_drop,← List.map_take,List.length_take,← List.take_take]
  congr 1
  rw [List.take_of_length_le (Nat.le_refl _)]] at hcut
 rw [hmd] at i1 hcut
 have hepb:epB k es=pad 256 (((es.drop (32*k)).take 32).flatMap (leN 8)):=rfl
 rw [hepb]
 have hl32:((es.drop (32*k)).take 32).length≤32:=by rw [List.length_take];omega
 have hle2:32*k+((es.drop (32*k)).take 32).length≤es.length:=by rw [List.length_take,List.length_drop];omega
 generalize (es.drop (32*k)).take 32=fs at *
 rw [Nat.add_sub_cancel_left] at hcut
 repeat' (first|(refine W.go ?_;try intro b_)|fail)
 refine W.call hck ?_
 rintro _ _ ⟨rfl,rfl⟩
 repeat' (first|(refine W.go ?_;try intro b_)|fail)
 refine W.call hse ?_
 rintro _ _ ⟨rfl,rfl⟩
 repeat' (first|(refine W.go ?_;try intro b_)|fail)
 refine W.call hea ?_
 rintro _ _ ⟨rfl,rfl⟩
 repeat' (first|(refine W.go ?_;try intro b_)|fail)
 refine W.sG ?_ (i1:=i1)
 rw [Nat.add_sub_cancel_left]
 obtain⟨a3,la3,ca3,he3,hl3,hc3,hr3⟩:=hcut.get
 simp only [Value.slice.injEq] at he3
 obtain⟨rfl,rfl,rfl⟩:=he3
 generalize sadr a ca (32*k) 1=a3 at *
 have hfm:∀ l:List UInt64,(l.flatMap (leN 8)).length=8*l.length:=fun l=>by
  induction l with
  | nil=>rfl
  | cons x r ih=>rw [List.flatMap_cons,List.length_append,ih,leN_len];simp;omega
 repeat' (first|(refine W.gb ?_;try intro b_)|fail)
 refine SW.cutH [] [] (fun x:Value×Hp=>[(8,x.1)]) (fun x=>x.2) (fun x=>Sl 5 1 x.1 (cbs (fs.flatMap (leN 8))) x.2) ?_ ?_
 ·repeat' (first|(refine W.go ?_;try intro b_)|fail)
  refine SW.loopF [36,37] (fun x:Nat×Value×Hp=>[(8,x.2.1),(38,.int .i64 (x.1:Int))]) (fun x=>x.2.2) (fun x=>fs.length-x.1) (fun x=>x.1≤fs.length∧Sl 5 1 x.2.1 (cbs ((fs.take x.1).flatMap (leN 8))) x.2.2) (0,.slice none 0 0,[]) ⟨Nat.zero_le _,Sl.nil _ _⟩ ?_
  rintro⟨j,v2,H2⟩ ⟨hj,h2⟩
  dsimp only at hj h2 ⊢
  have h21:=h2.isOne
  by_cases hjl:j<fs.length
  ·obtain⟨bb,o,l,T,fz,rfl,hb,hkK,hy⟩:=hr3 (by omega)
   have hlu:l[o+j]?=some (u64v (fs.getD j 0)):=by
    have h2:((l.drop o).take (fs.length*1))[j]?=(uv fs)[j]?:=by rw [hy]
    rw [List.getElem?_take,if_pos (by omega),List.getElem?_drop,uv_at hjl] at h2
    exact h2
   have hts:(fs.take (j+1)).flatMap (leN 8)=(fs.take j).flatMap (leN 8)++leN 8 (fs.getD j 0):=by
    rw [List.take_add_one,List.getElem?_eq_getElem hjl,List.flatMap_append,List.getD_eq_getElem?_getD,List.getElem?_eq_getElem hjl]
    simp
   generalize fs.getD j 0=e at *
   have htl:(fs.take j).length=j:=by rw [List.length_take];omega
   repeat' (first|(refine W.go ?_;try intro b_)|fail)
   refine W.call (put_n 8 e (by omega) (by omega)) ?_
   rintro _ _ ⟨b6,rfl,rfl⟩
   refine W.ap h2 (ys:=cbs (leN 8 e)) (mm:=8) (fun w2 hs=>(Sl.own 5 1 b6 (len:=8) (xs:=cbs (leN 8 e)) (by rw [cbs_len,leN_len])).srcAt hs inferInstance) (fun v3 H3 h3=>?_) (hys:=by rw [cbs_len,leN_len]) (hbytes:=by rw [cbs_len,cbs_len,hfm,htl,leN_len];omega)
   have h31:=h3.isOne
   rw [← cbs_app,← hts] at h3
   repeat' (first|(refine W.go ?_;try intro b_)|fail)
   refine HandF.mk (j+1,v3,H3) ?_
   exact⟨hjl,h3⟩
  ·have:j=fs.length:=by omega
   subst this
   rw [List.take_length] at h2
   repeat' (first|(refine W.go ?_;try intro b_)|fail)
   refine CutF.mk (v2,H2) ?_
   exact h2
 rintro⟨v2,H2⟩ h2
 dsimp only at h2 ⊢
 have h21:=h2.isOne
 repeat' (first|(refine W.go ?_;try intro b_)|fail)
 refine W.call (Pad_p2 v2 (fs.flatMap (leN 8)) 256 (by decide) (by decide) (by rw [hfm];omega)) ?_ (hpre:=fun w2 hs=>Rd.own (Hc:=[]) h2 hs inferInstance)
 rintro _ _ ⟨b7,rfl,rfl⟩
 repeat' (first|(refine W.go ?_;try intro b_)|fail)
 refine Fin.to [(b7,cl (cbs (pad 256 (fs.flatMap (leN 8)))) 5)] ?_
 exact F.f2 ⟨b7,rfl,rfl⟩
end Go.Proofs.YtnigolgkkjidiaaGreat
namespace Go.Proofs.YtnigolgkkjidiaaGreat
open Go
theorem run_appendF{P:Program}{w:World}{K:List Nat}{w0:World}{H:Hp}{t t2 e n bytes m len cap:Nat}{ty:TypeId}{a:Option Addr}{sv:Value}{xs ys z:List Value} [ht:SliceTy P t e n] [hb:BytesTy P e bytes] [hz:ZeroTy P e z] [h2:NInt P t2]
  (hzn:z.length=n) (hv:SrcOf P w (.slice a len cap) n len xs) (hx:xs.length=len*n) (hs:St K w0 H w) (hsrc:SrcOf P w sv n m ys) (hys:ys.length=m*n) (hn:0<n) (hbytes:(xs.length+ys.length)*bytes≤140737488355328*n) (hb1:1≤bytes) (hg:cap<len+m) :
  ∃ v' w' Hs',(Builtin.append_ #[t,t2] ty #[.slice a len cap,sv]).run P w=.ok v' w'∧Sl e n v' (xs++ys) Hs'∧St K w0 (Hs'++H) w':=by
 obtain⟨i,hi,hisz⟩:=info_some ht.size
 have hby:i.bytes=bytes:=by have:=hb.ok;simpa [hi] using this
 obtain⟨zv,hzv,hzc⟩:=hz.ok
 have hzi:i.zero=some zv:=by simpa [hi] using hzv
 have hzl:zv.cells.size=n:=by rw [hzc];simpa using hzn
 have hl1:=(hsrc w rfl).1
 subst hisz hby
 have hmb:(len+m)*i.bytes≤140737488355328:=by
  refine mul_fit hn ?_
  rw [hx,hys,← Nat.add_mul] at hbytes
  exact hbytes
 have hm63:len+m≤9223372036854775807:=by
  have:(len+m)*1≤(len+m)*i.bytes:=Nat.mul_le_mul_left _ hb1
  omega
 have hrun:=run_append_new (P:=P) (w:=w) (ty:=ty) (sLen:=len) (sCap:=cap) (base:=a) (xs:=xs) ht.ok hi hzi h2 hl1 (hv w.drew rfl).2 (hsrc w.drew rfl).2 hg hmb hm63
 refine⟨_,_,[(w.heap.size,_)],hrun,?_,hs.drew.alloc _⟩
 have hge:=grownCap_ge w (len+m) cap e
 exact .inr ⟨w.heap.size,len+m,grownCap w (len+m) cap e,(Builtin.zeroCells zv.cells (grownCap w (len+m) cap e-(len+m))).toList,rfl,by rw [List.length_append,hx,hys,Nat.add_mul],by rw [Array.length_toList,size_zeroCells,hzl,← Nat.add_mul];congr 1;omega,hge,rfl⟩
section
variable {P:Program}{C:Ctx}{Q:Exit→Fr→Hp→Prop}{ρ:Fr}{H:Hp}{L rest:List Oper}{d:Option Tmp}{ty:TypeId}{pos:String}{af:Array Edge}{g:Option (Nat×Bool)}{t t2 e n:Nat}{d':Option Nat}{x y:Operand}{a:Option Addr}{len cap:Nat}{sv:Value}
theorem W.apf{bytes mm:Nat}{xs ys zv:List Value} [ht:SliceTy P t e n] [BytesTy P e bytes] [ZeroTy P e zv] [NInt P t2](hv:∀ w,St C.K C.w0 H w→SrcOf P w (.slice a len cap) n len xs)(hsrc:∀ w,St C.K C.w0 H w→SrcOf P w sv n mm ys)(hk:∀ v' Hs',Sl e n v' (xs++ys) Hs'→SL P C L Q rest (pt ρ d' v') (Hs'++H))(hx:ev ρ x=some (.slice a len cap):=by exact rfl)(hy:ev ρ y=some sv:=by exact rfl)(hxs:xs.length=len*n:=by first|assumption|omega)(hys:ys.length=mm*n:=by first|assumption|omega)(hc:cap<len+mm:=by omega)(hzn:zv.length=n:=by exact rfl)(hn:0<n:=by decide)(hb1:1≤bytes:=by decide)(hbytes:(xs.length+ys.length)*bytes≤140737488355328*n:=by omega)
  (hg:gd L ρ ⟨d,.call { callee:=.builtin .append,args:=#[x,y],argTypes:=#[t,t2] },ty,pos,af,g⟩=some true:=by exact rfl) (hd:dk C.n d=some d':=by exact rfl):SL P C L Q (⟨d,.call { callee:=.builtin .append,args:=#[x,y],argTypes:=#[t,t2] },ty,pos,af,g⟩::rest) ρ H:=
 SL.eff hg hd fun ac w hf hs=>by
  obtain⟨v',w',Hs',hrun,hv',hst⟩:=run_appendF (P:=P) (t:=t) (t2:=t2) (ty:=ty) hzn (hv w hs) hxs hs (hsrc w hs) hys hn hbytes hb1 hc
  exact⟨v',w',Hs'++H,.inl (by unfold execOp;simp [resolve,invoke,builtin,hf.eval hx,hf.eval hy,hrun]),hst,hk v' Hs' hv'⟩
end
attribute [local irreducible] SW SL SQ SH SA SS Pu Fin CutF HandF
theorem pad_at(n:Nat)(x:List UInt8){i:Nat}(h:i<n):(pad n x)[i]?=some (x.getD i 0):=by
 unfold pad
 rw [List.getElem?_take,if_pos h,List.getD_eq_getElem?_getD]
 by_cases hx:i<x.length
 ·rw [List.getElem?_append_left hx,List.getElem?_eq_getElem hx];rfl
 ·rw [List.getElem?_append_right (by omega),List.getElem?_eq_none (show x.length≤i by omega),List.getElem?_replicate,if_pos (by omega)];rfl
theorem rPad_p(v:Value)(x:List UInt8)(n:Nat)(hn:n≤65536):Tri Tryz.prog 160 [v,.int .i64 (n:Int)] [] (fun w=>Rd [] w 1 v (cbs x)) (fun r H=>Sl 5 1 r (cbs (pad n x)) H):=by
 refine Tri.mk Tryz.func160 rfl Tryz.ntmps160 rfl fun w hw=>?_
 obtain⟨a,la,ca,rfl,hl1,hc1,hr1⟩:=hw.get
 rw [cbs_len,Nat.mul_one] at hl1
 subst hl1
 have hY:One (Value.slice a x.length ca):=⟨rfl⟩
 have hpl:=pad_len n x
 repeat' (first|(refine W.gb ?_;try intro b_)|fail)
 refine SW.cutH [] [] (fun x:Value×Hp=>[(5,x.1)]) (fun x=>x.2) (fun y=>Sl 5 1 y.1 (cbs (pad n x)) y.2) ?_ ?_
 ·repeat' (first|(refine W.go ?_;try intro b_)|fail)
  refine SW.loopF [0,1] (fun x:Nat×Value×Hp=>[(5,x.2.1),(6,.int .i64 (x.1:Int))]) (fun x=>x.2.2) (fun x=>n-x.1) (fun y=>y.1≤n∧Sl 5 1 y.2.1 (cbs ((pad n x).take y.1)) y.2.2) (0,.slice none 0 0,[]) ⟨Nat.zero_le _,Sl.nil _ _⟩ ?_
  rintro⟨j,v2,H2⟩ ⟨hj,h2⟩
  dsimp only at hj h2 ⊢
  have h21:=h2.isOne
  by_cases hjn:j<n
  ·have hts:(pad n x).take (j+1)=(pad n x).take j++[x.getD j 0]:=by rw [List.take_add_one,pad_at n x hjn];rfl
   have htl:((pad n x).take j).length=j:=by rw [List.length_take];omega
   have hb1:∀ c:UInt8,bfill (fun i=>some (i*1,1)) (zs [.int .u8 0] 1) [(0,.int .u8 (c.toNat:Int))]=some (cbs [c]):=fun c=>rfl
   by_cases hjx:j<x.length
   case' pos=>
    obtain⟨b1,o1,l1,T1,z1,rfl,hbb,hk1,hy1⟩:=hr1 (by omega)
    have g1:=rd_get hy1 (List.getElem?_eq_getElem hjx)
    have gx:x.getD j 0=x[j]:=by rw [List.getD_eq_getElem?_getD,List.getElem?_eq_getElem hjx];rfl
    rw [← gx] at g1
   case' neg=>
    have gx:x.getD j 0=0:=by rw [List.getD_eq_getElem?_getD,List.getElem?_eq_none (by omega)];rfl
    have hb0:bfill (fun i=>some (i*1,1)) (zs [.int .u8 0] 1) [(0,.int .u8 0)]=some (cbs [x.getD j 0]):=by rw [gx];rfl
   all_goals
    generalize x.getD j 0=c at *
    have hbc:=hb1 c
    clear hb1
    repeat' (first|(refine W.go ?_;try intro b_)|fail)
    refine W.ap h2 (ys:=cbs [c]) (mm:=1) (fun w2 hs=>(Sl.own 5 1 b_ (xs:=cbs [c]) rfl).srcAt hs inferInstance) (fun v3 H3 h3=>?_) (hys:=rfl) (hbytes:=by rw [cbs_len,htl,cbs_len];simp only [List.length_cons,List.length_nil];omega)
    have h31:=h3.isOne
    rw [← cbs_app,← hts] at h3
    repeat' (first|(refine W.go ?_;try intro b_)|fail)
    refine HandF.mk (j+1,v3,H3) ?_
    exact⟨hjn,h3⟩
  ·have:j=n:=by omega
   subst this
   rw [List.take_of_length_le (by omega)] at h2
   repeat' (first|(refine W.go ?_;try intro b_)|fail)
   refine CutF.mk (v2,H2) ?_
   exact h2
 rintro⟨v2,H2⟩ h2
 dsimp only at h2 ⊢
 have h21:=h2.isOne
 repeat' (first|(refine W.go ?_;try intro b_)|fail)
 refine Fin.to H2 ?_
 exact F.f1 h2
theorem rGet_p(v:Value)(x:List UInt8)(hx:x.length≤8):Tri Tryz.prog 161 [v] [] (fun w=>Rd [] w 1 v (cbs x)) (fun r H=>r=.int .u64 (getN x:Nat)∧H=[]):=by
 refine Tri.mk Tryz.func161 rfl Tryz.ntmps161 rfl fun w hw=>?_
 obtain⟨a,la,ca,rfl,hl1,hc1,hr1⟩:=hw.get
 rw [cbs_len,Nat.mul_one] at hl1
 subst hl1
 have hY:One (Value.slice a x.length ca):=⟨rfl⟩
 rw [show getN x=foldN (x.drop 0) by unfold getN;rw [List.take_of_length_le hx,List.drop_zero]]
 repeat' (first|(refine W.gb ?_;try intro b_)|fail)
 refine SW.cut [] [] (fun _:Unit=>[(3,.int .u64 (foldN (x.drop 0):Nat))]) (fun _=>[]) (fun _=>True) ?_ ?_
 ·repeat' (first|(refine W.go ?_;try intro b_)|fail)
  refine SW.loopF [0] (fun k:Nat=>[(3,.int .u64 (foldN (x.drop (x.length-k)):Nat)),(4,.int .i64 ((x.length:Int)-1-k))]) (fun _=>[]) (fun k=>x.length-k) (fun k=>k≤x.length) 0 (Nat.zero_le _) ?_ (hr:=by rw [Nat.sub_zero,List.drop_length,Int.natCast_zero,Int.sub_zero];exact⟨rfl,rfl,trivial⟩)
  intro k hk
  by_cases hkn:k<x.length
  ·obtain⟨b1,o1,l1,T1,z1,rfl,hbb,hk1,hy1⟩:=hr1 (by omega)
   have hj:x.length-k-1<x.length:=by omega
   have g1:=rd_get hy1 (List.getElem?_eq_getElem hj)
   haveI i0:NatI ((x.length:Int)-1-k) (x.length-k-1):=⟨by omega⟩
   have hdr:x.drop (x.length-(k+1))=x[x.length-k-1]::x.drop (x.length-k):=by
    rw [show x.length-(k+1)=x.length-k-1 by omega,List.drop_eq_getElem_cons hj,show x.length-k-1+1=x.length-k by omega]
   have hf:=foldN_lt (x.drop (x.length-(k+1)))
   have hp:256^(x.drop (x.length-(k+1))).length≤256^8:=Nat.pow_le_pow_right (by decide) (by rw [List.length_drop];omega)
   have hfs:foldN (x.drop (x.length-(k+1)))=foldN (x.drop (x.length-k))*256+(x[x.length-k-1]).toNat:=by rw [hdr];rfl
   rw [hfs] at hf
   generalize x[x.length-k-1]=c at *
   generalize foldN (x.drop (x.length-k))=F at *
   have hc:=c.toNat_lt
   have hF:F*256+c.toNat<18446744073709551616:=by omega
   haveI i1:U64 (F:Int) (UInt64.ofNat F):=⟨by rw [UInt64.toNat_ofNat'];omega⟩
   have e3:(UInt64.ofNat F*256+c.toUInt64).toNat=foldN (x.drop (x.length-(k+1))):=by
    rw [hfs,UInt64.toNat_add,UInt64.toNat_mul,UInt8.toNat_toUInt64,UInt64.toNat_ofNat',Nat.mod_eq_of_lt (show F<2^64 by omega),show (256:UInt64).toNat=256 from rfl]
    omega
   repeat' (first|(refine W.go ?_;try intro b_)|fail)
   rw [e3,show (x.length:Int)-1-k-1=(x.length:Int)-1-((k+1:Nat):Int) by omega]
   refine HandF.mk (k+1) ?_
   omega
  ·have:k=x.length:=by omega
   subst this
   rw [Nat.sub_self]
   repeat' (first|(refine W.go ?_;try intro b_)|fail)
   refine CutF.mk () ?_
   trivial
 rintro _ -
 repeat' (first|(refine W.go ?_;try intro b_)|fail)
 refine Fin.to [] ?_
 exact F.f1 ⟨rfl,rfl⟩
theorem rBytes_p{p t:Nat}(h:Gm.Ok p t):Tri Tryz.prog 197 [geoV p t] [] (fun _=>True) (fun v H=>Sl 5 1 v (cbs (superB p t)) H):=by
 refine Tri.mk Tryz.func197 rfl Tryz.ntmps197 rfl fun w hw=>?_
 obtain⟨h1,h2,h3,h4⟩:=h
 have hfl:superM++[1,0,UInt8.ofNat p,0,UInt8.ofNat t,0]=superM++leN 2 1++leN 2 (UInt64.ofNat p)++leN 2 (UInt64.ofNat t):=by
  have e:∀ n:Nat,n≤64→leN 2 (UInt64.ofNat n)=[UInt8.ofNat n,0]:=fun n hn=>by
   have hN:(UInt64.ofNat n).toNat=n:=by rw [UInt64.toNat_ofNat'];omega
   show [byU (UInt64.ofNat n) 0,byU (UInt64.ofNat n) 1]=_
   rw [byU_eq _ (by omega),byU_eq _ (by omega),hN,Nat.pow_zero,Nat.div_one,Nat.pow_one,Nat.div_eq_of_lt (by omega)]
   rfl
  rw [e p (by omega),e t (by omega),show leN 2 1=[1,0] from rfl]
  simp
 have hpd:=fun v=>rPad_p v (superM++[1,0,UInt8.ofNat p,0,UInt8.ofNat t,0]) 256 (by decide)
 rw [show pad 256 (superM++[1,0,UInt8.ofNat p,0,UInt8.ofNat t,0])=superB p t by rw [hfl];rfl] at hpd
 have hb6:bfill (fun i=>some (i*1,1)) (zs [Value.int .u8 0] 6) [(0,.int .u8 1),(1,.int .u8 0),(2,.int .u8 ((UInt8.ofNat p).toNat:Int)),(3,.int .u8 0),(4,.int .u8 ((UInt8.ofNat t).toNat:Int)),(5,.int .u8 0)]=some (cbs [1,0,UInt8.ofNat p,0,UInt8.ofNat t,0]):=rfl
 have hbM:=bsM
 repeat' (first|(refine W.go ?_;try intro b_)|fail)
 have hml:(cbs superM).length=8:=rfl
 rename_i bg bm
 refine W.apf (xs:=cbs superM) (ys:=cbs [1,0,UInt8.ofNat p,0,UInt8.ofNat t,0]) (mm:=6) (fun w2 hs=>(Rd.atB (K:=[]) (Hc:=[]) (b:=bm) (len:=8) (cap:=8) (T:=5) (fz:=((cbs superM).length,(cbs superM).length+1)) superM hs rfl (Nat.le_refl _)).srcW) (fun w2 hs=>(Sl.own 5 1 b_ (len:=6) (xs:=cbs [1,0,UInt8.ofNat p,0,UInt8.ofNat t,0]) rfl).srcAt hs inferInstance) (fun v3 H3 h3=>?_) (hxs:=rfl) (hys:=rfl) (hbytes:=by rw [cbs_len,cbs_len];simp [superM])
 have h31:=h3.isOne
 rw [← cbs_app] at h3
 repeat' (first|(refine W.go ?_;try intro b_)|fail)
 refine W.call (hpd v3) ?_ (hpre:=fun w2 hs=>Rd.own (Hc:=[]) h3 hs inferInstance)
 intro v4 H4 h4
 have h41:=h4.isOne
 repeat' (first|(refine W.go ?_;try intro b_)|fail)
 refine Fin.to H4 ?_
 exact F.f1 h4
end Go.Proofs.YtnigolgkkjidiaaGreat
namespace Go.Proofs.YtnigolgkkjidiaaGreat
open Go
attribute [local irreducible] SW SL SQ SH SA SS Pu Fin CutF HandF
def epAt(bss:List (List UInt8))(k:Nat):UInt64:=getU (((bss.getD (k/32) []).drop (8*(k%32))).take 8)
theorem rEpoch_p{Ht:Hp}(v:Value)(vs:List Value)(bss:List (List UInt8))(hB:RB Ht vs bss)(h256:∀ b∈bss,b.length=256)(k:Nat)(hk:k<32*bss.length)(hk2:k≤1000000):Tri Tryz.prog 259 [v,.int .i64 (k:Int)] Ht (fun w=>Rd (Ht.map Prod.fst) w 1 v vs)
  (fun r H=>r=u64v (epAt bss k)∧H=Ht):=by
 refine Tri.mk Tryz.func259 rfl Tryz.ntmps259 rfl fun w hw=>?_
 obtain⟨a,la,ca,rfl,hl1,hc1,hr1⟩:=hw.get
 rw [Nat.mul_one,hB.1] at hl1
 subst hl1
 have hj:k/32<bss.length:=by omega
 obtain⟨bb,o,l,T,fz,rfl,hb,hkK,hy⟩:=hr1 (by omega)
 obtain⟨u,hu1,hu2⟩:=hB.2 (k/32) _ (List.getElem?_eq_getElem hj)
 have hl256:bss[k/32].length=256:=h256 _ (List.getElem_mem hj)
 have hlu:l[o+k/32]?=some u:=by
  have h2:((l.drop o).take (bss.length*1))[k/32]?=vs[k/32]?:=by rw [hy]
  rw [List.getElem?_take,if_pos (by omega),List.getElem?_drop,hu1] at h2
  exact h2
 have hep:u64v (epAt bss k)=.int .u64 ((getN ((bss[k/32].drop (8*(k%32))).take 8):Nat):Int):=by
  unfold epAt u64v
  rw [List.getD_eq_getElem?_getD,List.getElem?_eq_getElem hj,Option.getD_some,getU_nat]
 rw [hep]
 generalize bss[k/32]=bs at *
 have huo:=hu2.one
 have hu3:=hu2
 obtain⟨ua,ul,uc,rfl,-⟩:=hu3
 have hul:=hu2.len
 have hcut:=hu2.cut uc (8*(k%32)) (8*(k%32)+8) (uc-8*(k%32)) (by omega) (by omega) (by omega) (by omega)
 rw [show 8*(k%32)+8-8*(k%32)=8 by omega] at hcut
 have hco:=hcut.one
 have hgt:=rGet_p (.slice (sadr ua uc (8*(k%32)) 1) 8 (uc-8*(k%32))) ((bs.drop (8*(k%32))).take 8) (by rw [List.length_take];omega)
 haveI i1:NatI (8*((k:Int)%32)) (8*(k%32)):=⟨by omega⟩
 haveI i2:NatI (8*((k:Int)%32)+8) (8*(k%32)+8):=⟨by omega⟩
 repeat' (first|(refine W.go ?_;try intro b_)|fail)
 refine W.sG ?_ (i0:=i1) (i1:=i2)
 rw [show 8*(k%32)+8-8*(k%32)=8 by omega]
 repeat' (first|(refine W.go ?_;try intro b_)|fail)
 refine W.call hgt ?_ (hpre:=fun w2 hs=>hcut.rd (Hc:=[]) hs)
 rintro _ _ ⟨rfl,rfl⟩
 repeat' (first|(refine W.go ?_;try intro b_)|fail)
 refine Fin.to Ht ?_
 exact F.f1 ⟨rfl,rfl⟩
theorem epB_rows(k:Nat)(es:List UInt64):(List.range 32).flatMap (fun i=>leN 8 (es.getD (32*k+i) 0))=epB k es:=by
 have hz:leN 8 0=List.replicate 8 0:=rfl
 have e:∀ (n:Nat) (fs:List UInt64),(List.range n).flatMap (fun i=>leN 8 (fs.getD i 0))=(fs.take n).flatMap (leN 8)++List.replicate (8*(n-fs.length)) 0:=by
  intro n
  induction n with
  | zero=>intro fs;simp
  | succ n ih=>
   intro fs
   rw [List.range_succ,List.flatMap_append,ih]
   by_cases h:n<fs.length
   ·have g:fs.getD n 0=fs[n]:=by rw [List.getD_eq_getElem?_getD,List.getElem?_eq_getElem h];rfl
    rw [show n-fs.length=0 by omega,show n+1-fs.length=0 by omega,List.take_add_one,List.getElem?_eq_getElem h,List.flatMap_append,List.flatMap_singleton,g]
    simp
   ·rw [List.take_of_length_le (show fs.length≤n by omega),List.take_of_length_le (show fs.length≤n+1 by omega),List.append_assoc]
    congr 1
    rw [List.flatMap_singleton,List.getD_eq_getElem?_getD,List.getElem?_eq_none (by omega),Option.getD_none,hz,List.replicate_append_replicate]
    congr 1;omega
 have hfm:∀ l:List UInt64,(l.flatMap (leN 8)).length=8*l.length:=fun l=>by
  induction l with
  | nil=>rfl
  | cons x r ih=>rw [List.flatMap_cons,List.length_append,ih,leN_len];simp;omega
 have h1:=e 32 (es.drop (32*k))
 have h2:(fun i=>leN 8 ((es.drop (32*k)).getD i 0))=fun i=>leN 8 (es.getD (32*k+i) 0):=by
  funext i
  rw [List.getD_eq_getElem?_getD,List.getElem?_drop,← List.getD_eq_getElem?_getD]
 rw [h2] at h1
 rw [h1]
 unfold epB
 rw [pad_short (by rw [hfm,List.length_take];omega),hfm,List.length_take]
 congr 2
 omega
theorem rBlock_p(k:Nat)(hk:k≤1000)(v:Value)(es:List UInt64):Tri Tryz.prog 242 [.int .i64 (k:Int),v] [] (fun w=>Rd [] w 1 v (uv es)) (fun r H=>Sl 5 1 r (cbs (epB k es)) H):=by
 refine Tri.mk Tryz.func242 rfl Tryz.ntmps242 rfl fun w hw=>?_
 obtain⟨a,la,ca,rfl,hl1,hc1,hr1⟩:=hw.get
 rw [Nat.mul_one,uv_len] at hl1
 subst hl1
 have hY:One (Value.slice a es.length ca):=⟨rfl⟩
 rw [← epB_rows]
 have hrl:∀ j,((List.range j).flatMap (fun i=>leN 8 (es.getD (32*k+i) 0))).length=8*j:=fun j=>by
  induction j with
  | zero=>rfl
  | succ j ih=>rw [List.range_succ,List.flatMap_append,List.length_append,ih];simp [leN_len];omega
 repeat' (first|(refine W.gb ?_;try intro b_)|fail)
 refine SW.cutH [] [] (fun x:Value×Hp=>[(5,x.1)]) (fun x=>x.2) (fun y=>Sl 5 1 y.1 (cbs ((List.range 32).flatMap (fun i=>leN 8 (es.getD (32*k+i) 0)))) y.2) ?_ ?_
 ·repeat' (first|(refine W.go ?_;try intro b_)|fail)
  refine SW.loopF [0,1] (fun x:Nat×Value×Hp=>[(5,x.2.1),(6,.int .i64 (32*(k:Int)+(x.1:Int)))]) (fun x=>x.2.2) (fun x=>32-x.1) (fun y=>y.1≤32∧Sl 5 1 y.2.1 (cbs ((List.range y.1).flatMap (fun i=>leN 8 (es.getD (32*k+i) 0)))) y.2.2) (0,.slice none 0 0,[]) ⟨Nat.zero_le _,Sl.nil _ _⟩ ?_ (hr:=⟨rfl,by show _=some (Value.int .i64 (32*(k:Int)+((0:Nat):Int)));rw [show 32*(k:Int)+((0:Nat):Int)=32*(k:Int) by omega];rfl,trivial⟩)
  rintro⟨j,v2,H2⟩ ⟨hj,h2⟩
  dsimp only at hj h2 ⊢
  have h21:=h2.isOne
  have hjl:=hrl j
  by_cases hj32:j<32
  ·have hts:(List.range (j+1)).flatMap (fun i=>leN 8 (es.getD (32*k+i) 0))=(List.range j).flatMap (fun i=>leN 8 (es.getD (32*k+i) 0))++leN 8 (es.getD (32*k+j) 0):=by rw [List.range_succ,List.flatMap_append];simp
   by_cases hjx:32*k+j<es.length
   case' pos=>
    obtain⟨bb,o,l,T,fz,rfl,hb,hkK,hy⟩:=hr1 (by omega)
    have hlu:l[o+(32*k+j)]?=some (u64v (es.getD (32*k+j) 0)):=by
     have h2:((l.drop o).take (es.length*1))[32*k+j]?=(uv es)[32*k+j]?:=by rw [hy]
     rw [List.getElem?_take,if_pos (by omega),List.getElem?_drop,uv_at hjx] at h2
     exact h2
    haveI i0:NatI (32*(k:Int)+(j:Int)) (32*k+j):=⟨by omega⟩
    have hp8:=rput_n 8 (es.getD (32*k+j) 0) (by omega)
   case' neg=>
    have gx:es.getD (32*k+j) 0=0:=by rw [List.getD_eq_getElem?_getD,List.getElem?_eq_none (by omega)];rfl
    have hp8:=rput_n 8 (es.getD (32*k+j) 0) (by omega)
    rw [show u64v (es.getD (32*k+j) 0)=.int .u64 0 by rw [gx];rfl] at hp8
   all_goals
    generalize es.getD (32*k+j) 0=e at *
    repeat' (first|(refine W.go ?_;try intro b_)|fail)
    refine W.call hp8 ?_
    intro v5 H5 h5
    have h51:=h5.isOne
    obtain⟨a5,l5,c5,rfl,hl5⟩:=h5.form
    rw [cbs_len,leN_len] at hl5
    have hl58:l5=8:=by omega
    subst hl58
    refine W.ap h2 (ys:=cbs (leN 8 e)) (mm:=8) (fun w2 hs=>h5.srcAt hs inferInstance) (fun v3 H3 h3=>?_) (hys:=by rw [cbs_len,leN_len]) (hbytes:=by rw [cbs_len,hjl,cbs_len,leN_len];omega)
    have h31:=h3.isOne
    rw [← cbs_app,← hts] at h3
    repeat' (first|(refine W.go ?_;try intro b_)|fail)
    rw [show 32*(k:Int)+(j:Int)+1=32*(k:Int)+((j+1:Nat):Int) by omega]
    refine HandF.mk (j+1,v3,H3) ?_
    exact⟨hj32,h3⟩
  ·have:j=32:=by omega
   subst this
   repeat' (first|(refine W.go ?_;try intro b_)|fail)
   refine CutF.mk (v2,H2) ?_
   exact h2
 rintro⟨v2,H2⟩ h2
 dsimp only at h2 ⊢
 have h21:=h2.isOne
 repeat' (first|(refine W.go ?_;try intro b_)|fail)
 refine Fin.to H2 ?_
 exact F.f1 h2
theorem rBlocks_p{p t:Nat}(h:Gm.Ok p t)(v:Value)(es:List UInt64):Tri Tryz.prog 198 [geoV p t,v] [] (fun w=>Rd [] w 1 v (uv es))
  (fun r H=>∃ vs Hv Ht,Sl 50 1 r vs Hv∧RB Ht vs ((List.range (Gm.epochs p)).map fun k=>epB k es)∧H=Hv++Ht):=by
 refine Tri.mk Tryz.func198 rfl Tryz.ntmps198 rfl fun w hw=>?_
 have hep:=rgepochs_p h
 have hel:=Gm.epochs_le h
 have hv1:=hw.isOne
 obtain⟨a,la,ca,rfl,-⟩:=hw.get
 generalize Gm.epochs p=n at *
 repeat' (first|(refine W.gb ?_;try intro b_)|fail)
 refine SW.cutH [] [] (fun x:Value×List Value×Hp×Hp=>[(5,x.1)]) (fun x=>x.2.2.1++x.2.2.2) (fun y=>Sl 50 1 y.1 y.2.1 y.2.2.1∧RB y.2.2.2 y.2.1 ((List.range n).map fun k=>epB k es)) ?_ ?_
 ·repeat' (first|(refine W.go ?_;try intro b_)|fail)
  refine SW.loopF [1,2] (fun x:Nat×Value×List Value×Hp×Hp=>[(5,x.2.1),(6,.int .i64 (x.1:Int))]) (fun x=>(b_,cl (geoL p t) 23)::(x.2.2.2.1++x.2.2.2.2)) (fun x=>n-x.1) (fun y=>y.1≤n∧Sl 50 1 y.2.1 y.2.2.1 y.2.2.2.1∧RB y.2.2.2.2 y.2.2.1 ((List.range y.1).map fun k=>epB k es)) (0,.slice none 0 0,[],[],[]) ⟨Nat.zero_le _,Sl.nil _ _,RB.nil _⟩ ?_
  rintro⟨j,v2,vs,H2,Ht⟩ ⟨hj,h2,hB⟩
  dsimp only at hj h2 hB ⊢
  have h21:=h2.isOne
  have hvl:vs.length=j:=by rw [hB.1];simp
  by_cases hjn:j<n
  ·repeat' (first|(refine W.go ?_;try intro b_)|fail)
   refine W.call hep ?_
   rintro _ _ ⟨rfl,rfl⟩
   repeat' (first|(refine W.go ?_;try intro b_)|fail)
   refine W.call (rBlock_p j (by omega) (.slice a la ca) es) ?_ (hpre:=fun w2 hs=>hw.ro (Hc:=[]) hs)
   intro v5 H5 h5
   have h51:=h5.isOne
   obtain⟨a5,l5,c5,rfl,-⟩:=h5.form
   have hb17:bfill (fun i=>some (i*1,1)) (zs [.slice none 0 0] 1) [(0,.slice a5 l5 c5)]=some [.slice a5 l5 c5]:=rfl
   repeat' (first|(refine W.go ?_;try intro b_)|fail)
   refine W.ap h2 (ys:=[.slice a5 l5 c5]) (mm:=1) (fun w2 hs=>(Sl.own 50 1 b_ (xs:=[.slice a5 l5 c5]) rfl).srcAt hs inferInstance) (fun v3 H3 h3=>?_) (hys:=rfl) (hbytes:=by rw [hvl];simp;omega)
   have h31:=h3.isOne
   repeat' (first|(refine W.go ?_;try intro b_)|fail)
   refine HandF.mk (j+1,v3,vs++[.slice a5 l5 c5],H3,H5++Ht) ?_
   refine⟨hjn,h3,?_⟩
   show RB _ _ ((List.range (j+1)).map fun k=>epB k es)
   rw [List.range_succ,List.map_append]
   exact (hB.mono fun x hx=>List.mem_append_right _ hx).snoc ((RdH.of h5).mono fun x hx=>List.mem_append_left _ hx)
  ·have:j=n:=by omega
   subst this
   repeat' (first|(refine W.go ?_;try intro b_)|fail)
   refine W.call hep ?_
   rintro _ _ ⟨rfl,rfl⟩
   repeat' (first|(refine W.go ?_;try intro b_)|fail)
   refine CutF.mk (v2,vs,H2,Ht) ?_
   exact⟨h2,hB⟩
 rintro⟨v2,vs,H2,Ht⟩ ⟨h2,hB⟩
 dsimp only at h2 hB ⊢
 have h21:=h2.isOne
 repeat' (first|(refine W.go ?_;try intro b_)|fail)
 refine Fin.to (H2++Ht) ?_
 exact F.f1 ⟨vs,H2,Ht,h2,hB,rfl⟩
end Go.Proofs.YtnigolgkkjidiaaGreat
namespace Go.Proofs.YtnigolgkkjidiaaGreat
open Go
abbrev Ent:=Int×List UInt8
def headB(c:UInt64)(l:List Ent):List UInt8:=pad 256 ([82,69,68,79,45,76,79,71]++leN 8 c++leN 2 (UInt64.ofNat l.length)++l.flatMap fun x=>leN 2 (UInt64.ofInt x.1))
theorem headB_len(c:UInt64)(l:List Ent):(headB c l).length=256:=pad_len _ _
def mayL(p:Nat):Int→List Ent→Bool
 | _,[]=>true
 | last,x::r=>decide (last<x.1∧x.1<(Gm.sealed p:Nat)∧x.2.length=256)&&mayL p x.1 r
def mayB(p t:Nat)(l:List Ent):Bool:=decide (1≤l.length∧l.length≤t)&&mayL p (-1) l
def entsL(h:List UInt8)(logs:List (List UInt8))(n:Nat):List Ent:=(List.range n).map fun k=>((getN ((h.drop (18+2*k)).take 2):Nat),logs.getD (1+k) [])
def parseL(p t:Nat)(logs:List (List UInt8)):Option (UInt64×List Ent):=
 let h:=logs.getD 0 []
 let n:=getN ((h.drop 16).take 2)
 let c:=getU ((h.drop 8).take 8)
 if n≤t∧mayB p t (entsL h logs n)=true∧headB c (entsL h logs n)=h then some (c,entsL h logs n) else none
def addT(o:List Nat)(x:Ent):List Nat:=if x.1.toNat/32∈o then o else o++[x.1.toNat/32]
def tabs(l:List Ent):List Nat:=l.foldl addT []
def sumsB(l:List (List UInt8)):List (List UInt8):=l.mapIdx fun k b=>Sha.sum (leafT k b)
def leafsB(l:List (List UInt8)):List (List UInt8):=l.mapIdx fun k b=>leafT k b
def rootB(l:List (List UInt8)):List UInt8:=rootV (sumsB l)
theorem sumsB_len(l:List (List UInt8)):(sumsB l).length=l.length:=by unfold sumsB;simp
theorem sumsB_32(l:List (List UInt8)):D32 (sumsB l):=fun x hx=>by
 unfold sumsB at hx
 obtain⟨i,h,rfl⟩:=List.mem_mapIdx.1 hx
 exact Sha.sum_len _
def fitsB(p t:Nat)(root:List UInt8)(l:List (List UInt8)):Bool:=decide (rootB l=root)&&decide (superB p t=l.getD 0 [])
def epsB(p:Nat)(l:List (List UInt8)):List UInt64:=(List.range (Gm.sealed p)).map (epAt ((l.drop 1).take (Gm.epochs p)))
def redoE(c:UInt64)(es:List UInt64)(l:List Ent):List UInt64:=l.foldl (fun e x=>e.set x.1.toNat c) es
def redoS(p:Nat)(m:List (List UInt8))(l:List Ent):List (List UInt8):=l.foldl (fun m x=>m.set (1+Gm.epochs p+x.1.toNat) x.2) m
def redoT(es:List UInt64)(m:List (List UInt8))(ts:List Nat):List (List UInt8):=ts.foldl (fun m t=>m.set (1+t) (epB t es)) m
def redoB(p:Nat)(c:UInt64)(l:List Ent)(m:List (List UInt8)):List (List UInt8):=redoT (redoE c (epsB p m) l) (redoS p m l) (tabs l)
def foundB(p t:Nat)(r:Rg)(l logs:List (List UInt8)):Nat×List (List UInt8):=
 if fitsB p t r.root l=true then (1,l) else
 match parseL p t logs with
 | some (c,es)=>if (c.toNat:Int)=r.c∧fitsB p t r.root (redoB p c es l)=true then (2,redoB p c es l) else (3,l)
 | none=>(3,l)
abbrev DS:=Dv→Int×Dv
def DS.and(a b:DS):DS:=fun σ=>if (a σ).1=0 then b (a σ).2 else a σ
def stS(x:Nat)(bs:List UInt8):DS:=fun σ=>(σ.actR x bs.length,σ.store x bs)
def flS(x n:Nat):DS:=fun σ=>(σ.actR x n,σ.flush x n)
def feS:DS:=fun σ=>(σ.actR 0 0,σ.fence)
def putS(k:Nat)(bs:List UInt8):DS:=(stS (256*k) bs).and (flS (256*k) bs.length)
def putL:List (Nat×List UInt8)→DS
 | []=>fun σ=>(0,σ)
 | x::r=>(putS x.1 x.2).and (putL r)
def scrubS(k n:Nat):DS:=(putS k (List.replicate (256*n) 0)).and feS
theorem putL_app(a b:List (Nat×List UInt8)):putL (a++b)=(putL a).and (putL b):=by
 induction a with
 | nil=>funext σ;simp [putL,DS.and]
 | cons x r ih=>
  funext σ
  rw [List.cons_append,putL,putL,ih]
  unfold DS.and
  by_cases h:(putS x.1 x.2 σ).1=0
  ·simp only [h,if_true]
  ·simp only [h,if_false]
def rowL(k:Nat)(l:List (List UInt8)):List (Nat×List UInt8):=l.mapIdx fun i b=>(k+i,b)
abbrev TS:=Dv×Rg→Int×(Dv×Rg)
def TS.and(a b:TS):TS:=fun σ=>if (a σ).1=0 then b (a σ).2 else a σ
def DS.t(a:DS):TS:=fun σ=>((a σ.1).1,(a σ.1).2,σ.2)
def regS(r':Rg):TS:=fun σ=>(setE σ.1 σ.2 r',setD σ.1 σ.2 r',setR σ.1 σ.2 r')
def bumpS:TS:=fun σ=>regS { σ.2 with c:=σ.2.c+1 } σ
def blanks(p t:Nat)(X:UInt64→Nat→List UInt8→List UInt8)(e:UInt64):List (List UInt8):=
 superB p t::((List.range (Gm.epochs p)).map (fun k=>epB k (List.replicate (Gm.sealed p) e))++(List.range (Gm.sealed p)).map fun k=>X e k (List.replicate 256 0))
def wholeD(l:List (List UInt8)):DS:=(putL (rowL 0 l)).and feS
def wholeS(p t:Nat)(l:List (List UInt8)):DS:=(wholeD l).and (scrubS (Gm.leaves p) (1+t))
def cntS(l:List (List UInt8)):TS:=fun x=>regS ⟨x.2.c+1,rootB l⟩ x
def fmtS(p t:Nat)(X:UInt64→Nat→List UInt8→List UInt8):TS:=fun σ=>
 if 18446744073709551613<σ.2.c then (21,σ) else
 (bumpS.and ((wholeS p t (blanks p t X (UInt64.ofNat (σ.2.c+2).toNat))).t.and (cntS (blanks p t X (UInt64.ofNat (σ.2.c+2).toNat))))) σ
def Dv.blks(σ:Dv)(a n:Nat):List (List UInt8):=(List.range n).map fun k=>σ.blk (a+k)
def lookB(p t:Nat)(σ:Dv)(r:Rg):Nat×List (List UInt8):=foundB p t r (σ.blks 0 (Gm.leaves p)) (σ.blks (Gm.leaves p) (1+t))
def openS(p t:Nat)(w:Bool)(σ:Dv×Rg):(Int×(Dv×Rg)):=
 if w=true∧σ.2.c=18446744073709551615 then (21,σ) else
 if σ.1.down=true then (8,σ) else
 if (lookB p t σ.1 σ.2).1=3 then (20,σ) else
 ((wholeS p t (lookB p t σ.1 σ.2).2).t.and (if w=true then bumpS else fun σ=>(0,σ))) σ
end Go.Proofs.YtnigolgkkjidiaaGreat
