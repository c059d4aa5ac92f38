/- What stands on a device: the look. -/
import Derived.Test.YtnigolgkkjidiaaGreatPm32
set_option linter.unusedVariables false
set_option linter.unusedSimpArgs false
set_option linter.unusedSectionVars false
set_option maxHeartbeats 2000000
namespace Go.Proofs.YtnigolgkkjidiaaGreat
open Go
attribute [local irreducible] SW SL SQ SH SA SS Pu Fin CutF HandF
theorem foundB_fit{p t:Nat}{r:Rg}{l logs:List (List UInt8)}(h:fitsB p t r.root l=true):foundB p t r l logs=(1,l):=by unfold foundB;rw [if_pos h]
theorem foundB_none{p t:Nat}{r:Rg}{l logs:List (List UInt8)}(h:¬ fitsB p t r.root l=true)(h2:logR p t r logs=none):foundB p t r l logs=(3,l):=by
 unfold foundB logR at *
 rw [if_neg h]
 cases hp:parseL p t logs with
 | none=>rfl
 | some x=>
  rw [hp] at h2
  dsimp only at h2 ⊢
  split at h2
  ·cases h2
  ·rename_i hc
   rw [if_neg (fun hh=>hc hh.1)]
theorem foundB_some{p t:Nat}{r:Rg}{l logs:List (List UInt8)}(h:¬ fitsB p t r.root l=true){x:UInt64×List Ent}(h2:logR p t r logs=some x):foundB p t r l logs=if fitsB p t r.root (redoB p x.1 x.2 l)=true then (2,redoB p x.1 x.2 l) else (3,l):=by
 unfold foundB logR at *
 rw [if_neg h]
 cases hp:parseL p t logs with
 | none=>rw [hp] at h2;cases h2
 | some y=>
  rw [hp] at h2
  dsimp only at h2 ⊢
  split at h2
  ·cases h2
   rename_i hc
   by_cases hf:fitsB p t r.root (redoB p x.1 x.2 l)=true
   ·rw [if_pos ⟨hc,hf⟩,if_pos hf]
   ·rw [if_neg (fun hh=>hf hh.2),if_neg hf]
  ·cases h2
def lookK(p t:Nat)(r:Rg)(l logs:List (List UInt8))(β:Bk):Bk:=
 if fitsB p t r.root l=true then rootK β l else match logR p t r logs with|some x=>rootK (plantK (rootK β l) l) (redoB p x.1 x.2 l)|none=>rootK β l
def FoundP(fp d tr s bk p t k:Nat)(l:List (List UInt8))(H:Hp):Prop:=
 ∃ bv lv cnt Lv ev tv Hx,(One bv∧One lv∧One Lv∧One ev∧One tv)∧H=(fp,cl (foundC d tr s bk p t (k:Int) bv lv cnt Lv ev tv) 145)::Hx ∧
  (k≠3→∃ tp be Hb Ht Hz,Bls bv l Hb∧tv=ptv tp∧ev=.slice (some ⟨be,0,none⟩) (Gm.sealed p) (Gm.sealed p)∧TreeV tp bk (sumsB l) Ht∧Hx=Hb++((be,cl (uv (epsB p l)) 28)::(Ht++Hz)))
theorem redoS_256{p t:Nat}:∀ {l:List Ent} {m:List (List UInt8)},(∀ x∈l,x.2.length=256)→(∀ b∈m,b.length=256)→∀ b∈redoS p m l,b.length=256:=by
 intro l
 unfold redoS
 induction l with
 | nil=>intro m _ h;exact h
 | cons x l ih=>
  intro m hl h
  rw [List.foldl_cons]
  refine ih (fun y hy=>hl y (List.mem_cons_of_mem _ hy)) fun b hb=>?_
  rcases List.mem_or_eq_of_mem_set hb with h1|h1
  ·exact h b h1
  ·rw [h1];exact hl x (List.mem_cons_self ..)
theorem redoT_256{es:List UInt64}:∀ {ts:List Nat} {m:List (List UInt8)},(∀ b∈m,b.length=256)→∀ b∈redoT es m ts,b.length=256:=by
 intro l
 unfold redoT
 induction l with
 | nil=>intro m h;exact h
 | cons x l ih=>
  intro m h
  rw [List.foldl_cons]
  refine ih fun b hb=>?_
  rcases List.mem_or_eq_of_mem_set hb with h1|h1
  ·exact h b h1
  ·rw [h1];exact epB_len _ _
theorem redoB_len(p:Nat)(c:UInt64)(l:List Ent)(m:List (List UInt8)):(redoB p c l m).length=m.length:=by unfold redoB;rw [redoT_len,redoS_len]
theorem redoB_256{p t:Nat}{c:UInt64}{l:List Ent}{m:List (List UInt8)}(hm:mayB p t l=true)(h:∀ b∈m,b.length=256):∀ b∈redoB p c l m,b.length=256:=by
 unfold redoB
 refine redoT_256 (redoS_256 (t:=t) (fun x hx=>?_) h)
 obtain⟨i,hi⟩:=List.mem_iff_getElem?.1 hx
 exact mayB_256 hm i x hi
theorem logR_may{p t:Nat}{r:Rg}{logs:List (List UInt8)}{x:UInt64×List Ent}(h:logR p t r logs=some x):mayB p t x.2=true:=by
 unfold logR at h
 cases hp:parseL p t logs with
 | none=>rw [hp] at h;cases h
 | some y=>
  rw [hp] at h
  dsimp only at h
  split at h
  ·cases h;exact parse_may hp
  ·cases h
theorem Dv.blk_256{σ:Dv}{m k:Nat}(hok:σ.Ok)(hd:σ.down=false)(hl:σ.len=256*m)(hk:k<m):(σ.blk k).length=256:=by
 unfold Dv.blk Dv.loadB
 have hr:σ.rdy ((256*k:Nat):Int) 256=0:=by
  unfold Dv.rdy
  rw [if_neg (by rw [hd];decide),if_neg (by omega)]
 rw [if_pos hr,List.length_take,List.length_drop,nowB_len hok.ok,Int.toNat_natCast]
 unfold Dv.len at hl
 show min 256 _=256
 omega
theorem blks_256{σ:Dv}{m a n:Nat}(hok:σ.Ok)(hd:σ.down=false)(hl:σ.len=256*m)(hk:a+n≤m):∀ b∈σ.blks a n,b.length=256:=fun b hb=>by
 unfold Dv.blks at hb
 obtain⟨i,hi,rfl⟩:=List.mem_map.1 hb
 have:=List.mem_range.1 hi
 exact Dv.blk_256 hok hd hl (by omega)
theorem look_p{dt d tr s bk tb p t:Nat}(h:Gm.Ok p t){σ:Dv}{r:Rg}{β:Bk}{Hd Hk:Hp}(hD:DevP d σ Hd)(hlen:σ.len=256*Gm.total p t)(hr:r.Ok)(hK:BookP bk tb β Hk) :
  Tri Tryz.prog 51 [baseV d tr s bk p t] ((tr,cl (trc dt r) 225)::(Hd++Hk)) (fun _=>True)
  (fun v H=>(σ.down=true∧v=.tuple #[.pointer none,.int .i64 8]∧H=(tr,cl (trc dt r) 225)::(Hd++Hk)) ∨
   (σ.down=false∧∃ fp Hk' Hf,v=.tuple #[ptv fp,.int .i64 0]∧FoundP fp d tr s bk p t (lookB p t σ r).1 (lookB p t σ r).2 Hf∧BookP bk tb (lookK p t r (σ.blks 0 (Gm.leaves p)) (σ.blks (Gm.leaves p) (1+t)) β) Hk' ∧
    H=(tr,cl (trc dt r) 225)::(Hd++(Hk'++Hf)))):=by
 refine Tri.mk Tryz.func51 rfl Tryz.ntmps51 rfl fun w hw=>?_
 have hmy:=mmay_p (tr:=tr) (s:=s) (bk:=bk) h hD hlen
 have ht:=h.2.2.2
 have hlv:=gleaves_p h
 have hla:=glogAt_p h 0
 have hll:=Gm.leaves_le h
 have hl1:1≤Gm.leaves p:=by unfold Gm.leaves;omega
 have htot:Gm.total p t=Gm.leaves p+(1+t):=rfl
 rw [show Gm.atK (1+t) (Gm.leaves p) 0=((Gm.leaves p:Nat):Int) by unfold Gm.atK;rw [if_pos (by omega)];omega] at hla
 have hld1:=fun fp (k:Int)=>mload_p (fp:=fp) (d:=d) (tr:=tr) (s:=s) (bk:=bk) (kind:=k) (cnt:=0) (bv:=.slice none 0 0) (lv:=.slice none 0 0) (Lv:=.slice none 0 0) (ev:=.slice none 0 0) (tv:=.pointer none) h ⟨rfl⟩ ⟨rfl⟩ ⟨rfl⟩ ⟨rfl⟩ ⟨rfl⟩ hD hlen 0 (Gm.leaves p) (by omega)
 have hld2:=fun fp (k:Int) bv (hbv:One bv)=>mload_p (fp:=fp) (d:=d) (tr:=tr) (s:=s) (bk:=bk) (kind:=k) (cnt:=0) (bv:=bv) (lv:=.slice none 0 0) (Lv:=.slice none 0 0) (ev:=.slice none 0 0) (tv:=.pointer none) h hbv ⟨rfl⟩ ⟨rfl⟩ ⟨rfl⟩ ⟨rfl⟩ hD hlen (Gm.leaves p) (1+t) (by omega)
 rw [show ((1+t:Nat):Int)=1+(t:Int) by omega] at hld2
 have hbf:bfill (fun i=>[(0,6),(6,1),(7,1),(8,1),(9,2),(11,1),(12,1)][i]?) (List.replicate 4 (.pointer none)++[.int .i64 0,.int .i64 0,.int .i64 0]++[.slice none 0 0,.slice none 0 0]++[.int .u64 0]++[.slice none 0 0,.slice none 0 0]++[.pointer none]) [(0,baseV d tr s bk p t),(1,.int .i64 3)]=some (foundC d tr s bk p t 3 (.slice none 0 0) (.slice none 0 0) 0 (.slice none 0 0) (.slice none 0 0) (.pointer none)):=rfl
 by_cases hdn:σ.down=true
 ·have e1:ldS σ 0 (Gm.leaves p)=(8,[]):=by unfold ldS;rw [if_neg (by rw [hdn];simp;omega)]
  rw [e1] at hld1
  dsimp only at hld1
  repeat' (first|(refine W.go ?_;try intro b_)|fail)
  refine W.call hmy ?_
  rintro _ Hd ⟨rfl,rfl⟩
  repeat' (first|(refine W.go ?_;try intro b_)|fail)
  refine W.call hlv ?_
  rintro _ _ ⟨rfl,rfl⟩
  repeat' (first|(refine W.go ?_;try intro b_)|fail)
  refine W.callE (hld1 b_ 3) rfl ?_
  rintro _ _ ⟨v1,Hb,rfl,hB,rfl⟩
  have hB1:=hB.one
  repeat' (first|(refine W.go ?_;try intro b_)|fail)
  refine Fin.to ((tr,cl (trc dt r) 225)::(Hd++Hk)) ?_
  exact F.f2 (.inl ⟨hdn,rfl,rfl⟩)
 have hdn2:σ.down=false:=by simpa using hdn
 have e1:ldS σ 0 (Gm.leaves p)=(0,σ.blks 0 (Gm.leaves p)):=by unfold ldS;rw [if_pos (.inr hdn2)]
 have e2:ldS σ (Gm.leaves p) (1+t)=(0,σ.blks (Gm.leaves p) (1+t)):=by unfold ldS;rw [if_pos (.inr hdn2)]
 rw [e1] at hld1
 rw [e2] at hld2
 dsimp only at hld1 hld2
 have hb1:=blks_256 (a:=0) (n:=Gm.leaves p) hD.1 hdn2 hlen (by omega)
 have hb2:=blks_256 (a:=Gm.leaves p) (n:=1+t) hD.1 hdn2 hlen (by omega)
 have hn1:=σ.blks_len 0 (Gm.leaves p)
 have hn2:=σ.blks_len (Gm.leaves p) (1+t)
 have hlb:lookB p t σ r=foundB p t r (σ.blks 0 (Gm.leaves p)) (σ.blks (Gm.leaves p) (1+t)):=rfl
 rw [hlb]
 clear hlb e1 e2 hdn
 generalize σ.blks 0 (Gm.leaves p)=l at *
 generalize σ.blks (Gm.leaves p) (1+t)=logs at *
 repeat' (first|(refine W.go ?_;try intro b_)|fail)
 refine W.call hmy ?_
 rintro _ Hd ⟨rfl,rfl⟩
 repeat' (first|(refine W.go ?_;try intro b_)|fail)
 generalize b_=fp at *
 refine W.call hlv ?_
 rintro _ _ ⟨rfl,rfl⟩
 repeat' (first|(refine W.go ?_;try intro b_)|fail)
 refine W.callE (hld1 fp 3) rfl ?_
 rintro _ _ ⟨v1,Hb,rfl,hB,rfl⟩
 have hB1:=hB.one
 repeat' (first|(refine W.go ?_;try intro b_)|fail)
 rw [show (foundC d tr s bk p t 3 (.slice none 0 0) (.slice none 0 0) 0 (.slice none 0 0) (.slice none 0 0) (.pointer none)).set 7 v1=foundC d tr s bk p t 3 v1 (.slice none 0 0) 0 (.slice none 0 0) (.slice none 0 0) (.pointer none) from rfl]
 (refine SW.regionS [] ?_ (by kernel_rfl);refine SS.T 0 rfl ?_;refine SS.T 1 rfl ?_;refine SS.T 2 rfl ?_;(first|refine SS.lw 3 [] rfl ?_|refine SS.la 3 [] rfl ?_|refine SS.aR 3 rfl ?_);refine SS.T 5 rfl ?_;refine SS.T 6 rfl ?_;(first|refine SS.ls 7 [] rfl ?_|refine SS.sR 7 rfl ?_);refine SS.T 8 rfl ?_;refine SS.effK 4 ?_ rfl (by kernel_rfl))
 refine W.call hla ?_
 rintro _ _ ⟨rfl,rfl⟩
 (refine SL.nilB ?_;refine SS.effK 9 ?_ rfl (by kernel_rfl))
 refine W.call (hld2 fp 3 v1 hB1) ?_
 rintro _ _ ⟨v2,Hl,rfl,hL,rfl⟩
 have hL1:=hL.one
 (refine SL.nilB ?_;refine SS.T 10 rfl ?_;refine SS.T 11 rfl ?_;refine SS.T 12 rfl ?_;refine SS.T 13 rfl ?_;refine SS.T 14 rfl ?_;refine SS.effK 15 ?_ rfl (by kernel_rfl);(repeat' (first|(refine W.g1 ?_;try intro b_)|fail));refine SS.T 16 rfl ?_;refine SS.done ?_ (by kernel_rfl))
 rw [show (foundC d tr s bk p t 3 v1 (.slice none 0 0) 0 (.slice none 0 0) (.slice none 0 0) (.pointer none)).set 8 v2=foundC d tr s bk p t 3 v1 v2 0 (.slice none 0 0) (.slice none 0 0) (.pointer none) from rfl]
 have hfi:=fits_p (dt:=dt) (fp:=fp) (d:=d) (tr:=tr) (s:=s) (kind:=3) (cnt:=0) (lv:=v2) (Lv:=.slice none 0 0) (ev:=.slice none 0 0) (tv:=.pointer none) h hr hK hB hL1 ⟨rfl⟩ ⟨rfl⟩ ⟨rfl⟩ hn1 hb1
 by_cases hf:fitsB p t r.root l=true
 ·rw [foundB_fit hf]
  simp only [hf,eq_self,if_true] at hfi
  have hlk:lookK p t r l logs β=rootK β l:=by unfold lookK;rw [if_pos hf]
  rw [hlk]
  repeat' (first|(refine W.go ?_;try intro b_)|fail)
  refine W.call hfi ?_
  rintro _ _ ⟨rfl,ev3,tv3,Hk3,Hx,hK3,rfl,tp,be,Ht,rfl,rfl,rfl,hT⟩
  repeat' (first|(refine W.go ?_;try intro b_)|fail)
  rw [show (foundC d tr s bk p t 3 v1 v2 0 (.slice none 0 0) (.slice (some ⟨be,0,none⟩) (Gm.sealed p) (Gm.sealed p)) (ptv tp)).set 6 (.int .i64 1)=foundC d tr s bk p t ((1:Nat):Int) v1 v2 0 (.slice none 0 0) (.slice (some ⟨be,0,none⟩) (Gm.sealed p) (Gm.sealed p)) (ptv tp) from rfl]
  refine Fin.to ((tr,cl (trc dt r) 225)::(Hd++(Hk3++((fp,cl (foundC d tr s bk p t ((1:Nat):Int) v1 v2 0 (.slice none 0 0) (.slice (some ⟨be,0,none⟩) (Gm.sealed p) (Gm.sealed p)) (ptv tp)) 145)::(Hb++((be,cl (uv (epsB p l)) 28)::(Ht++[]))))))) ?_
  exact F.f2 (.inr ⟨hdn2,fp,Hk3,_,rfl,⟨v1,v2,0,_,_,_,_,⟨hB1,hL1,⟨rfl⟩,⟨rfl⟩,⟨rfl⟩⟩,rfl,fun _=>⟨tp,be,Hb,Ht,[],hB,rfl,rfl,hT,rfl⟩⟩,hK3,rfl⟩)
 have hff:fitsB p t r.root l=false:=by simpa using hf
 simp only [hff,Bool.false_eq_true,if_false] at hfi
 repeat' (first|(refine W.go ?_;try intro b_)|fail)
 refine W.call hfi ?_
 rintro _ _ ⟨rfl,ev3,tv3,Hk3,Hx,hK3,rfl,rfl,rfl,rfl⟩
 have hre:=redo_p (dt:=dt) (fp:=fp) (d:=d) (tr:=tr) (s:=s) (kind:=3) (cnt:=0) (Lv:=.slice none 0 0) (ev:=.slice none 0 0) (tv:=.pointer none) h hr hK3 hB hL ⟨rfl⟩ ⟨rfl⟩ ⟨rfl⟩ hn1 hb1 hn2 hb2
 cases hlr:logR p t r logs with
 | none=>
  rw [foundB_none hf hlr]
  rw [hlr] at hre
  dsimp only at hre
  have hlk:lookK p t r l logs β=rootK β l:=by unfold lookK;rw [if_neg hf,hlr]
  rw [hlk]
  repeat' (first|(refine W.go ?_;try intro b_)|fail)
  refine W.call hre ?_
  rintro _ _ ⟨bv4,cnt4,Lv4,Hk4,Hb4,o4,rfl,rfl,hB4,hK4⟩
  have hB41:=hB4.one
  repeat' (first|(refine W.go ?_;try intro b_)|fail)
  refine Fin.to ((tr,cl (trc dt r) 225)::(Hd++(Hk4++[(fp,cl (foundC d tr s bk p t ((3:Nat):Int) bv4 v2 cnt4 Lv4 (.slice none 0 0) (.pointer none)) 145)]))) ?_
  exact F.f2 (.inr ⟨hdn2,fp,Hk4,_,rfl,⟨bv4,v2,cnt4,Lv4,_,_,[],⟨hB41,hL1,o4,⟨rfl⟩,⟨rfl⟩⟩,rfl,fun hh=>absurd rfl hh⟩,hK4,rfl⟩)
 | some x=>
  rw [foundB_some hf hlr]
  rw [hlr] at hre
  dsimp only at hre
  have hlk:lookK p t r l logs β=rootK (plantK (rootK β l) l) (redoB p x.1 x.2 l):=by unfold lookK;rw [if_neg hf,hlr]
  rw [hlk]
  have hm:=logR_may hlr
  have hl4:=redoB_len p x.1 x.2 l
  have hl256:=redoB_256 (c:=x.1) hm hb1
  generalize redoB p x.1 x.2 l=l4 at *
  repeat' (first|(refine W.go ?_;try intro b_)|fail)
  refine W.call hre ?_
  rintro _ _ ⟨bv4,cnt4,Lv4,Hk4,Hb4,o4,rfl,rfl,hB4,hK4⟩
  have hB41:=hB4.one
  have hfi2:=fits_p (dt:=dt) (fp:=fp) (d:=d) (tr:=tr) (s:=s) (kind:=3) (cnt:=cnt4) (lv:=v2) (Lv:=Lv4) (ev:=.slice none 0 0) (tv:=.pointer none) h hr hK4 hB4 hL1 o4 ⟨rfl⟩ ⟨rfl⟩ (by omega) hl256
  by_cases hf2:fitsB p t r.root l4=true
  ·rw [if_pos hf2]
   simp only [hf2,eq_self,if_true] at hfi2
   repeat' (first|(refine W.go ?_;try intro b_)|fail)
   refine W.call hfi2 ?_
   rintro _ _ ⟨rfl,ev5,tv5,Hk5,Hx5,hK5,rfl,tp,be,Ht,rfl,rfl,rfl,hT⟩
   repeat' (first|(refine W.go ?_;try intro b_)|fail)
   rw [show (foundC d tr s bk p t 3 bv4 v2 cnt4 Lv4 (.slice (some ⟨be,0,none⟩) (Gm.sealed p) (Gm.sealed p)) (ptv tp)).set 6 (.int .i64 2)=foundC d tr s bk p t ((2:Nat):Int) bv4 v2 cnt4 Lv4 (.slice (some ⟨be,0,none⟩) (Gm.sealed p) (Gm.sealed p)) (ptv tp) from rfl]
   refine Fin.to ((tr,cl (trc dt r) 225)::(Hd++(Hk5++((fp,cl (foundC d tr s bk p t ((2:Nat):Int) bv4 v2 cnt4 Lv4 (.slice (some ⟨be,0,none⟩) (Gm.sealed p) (Gm.sealed p)) (ptv tp)) 145)::(Hb4++((be,cl (uv (epsB p l4)) 28)::(Ht++[]))))))) ?_
   exact F.f2 (.inr ⟨hdn2,fp,Hk5,_,rfl,⟨bv4,v2,cnt4,_,_,_,_,⟨hB41,hL1,o4,⟨rfl⟩,⟨rfl⟩⟩,rfl,fun _=>⟨tp,be,Hb4,Ht,[],hB4,rfl,rfl,hT,rfl⟩⟩,hK5,rfl⟩)
  ·rw [if_neg hf2]
   have hff2:fitsB p t r.root l4=false:=by simpa using hf2
   simp only [hff2,Bool.false_eq_true,if_false] at hfi2
   repeat' (first|(refine W.go ?_;try intro b_)|fail)
   refine W.call hfi2 ?_
   rintro _ _ ⟨rfl,ev5,tv5,Hk5,Hx5,hK5,rfl,rfl,rfl,rfl⟩
   repeat' (first|(refine W.go ?_;try intro b_)|fail)
   refine Fin.to ((tr,cl (trc dt r) 225)::(Hd++(Hk5++[(fp,cl (foundC d tr s bk p t ((3:Nat):Int) bv4 v2 cnt4 Lv4 (.slice none 0 0) (.pointer none)) 145)]))) ?_
   exact F.f2 (.inr ⟨hdn2,fp,Hk5,_,rfl,⟨bv4,v2,cnt4,Lv4,_,_,[],⟨hB41,hL1,o4,⟨rfl⟩,⟨rfl⟩⟩,rfl,fun hh=>absurd rfl hh⟩,hK5,rfl⟩)
end Go.Proofs.YtnigolgkkjidiaaGreat
