/- What stands on a device: the look. -/
import Derived.Test.YtmceanmblcadcaaGreatPn28
import Derived.Test.YtmceanmblcadcaaGreatPn25
import Derived.Test.YtmceanmblcadcaaGreatPn24
import Derived.Test.YtmceanmblcadcaaGreatPn10
import Derived.Test.YtmceanmblcadcaaGreatPn14
set_option linter.unusedVariables false
set_option linter.unusedSimpArgs false
set_option linter.unusedSectionVars false
set_option maxHeartbeats 2000000
namespace Go.Proofs.YtmceanmblcadcaaGreat
open Go Go.Proofs.Tryz
section
attribute [local irreducible] SW SL SQ SH SA SS Pu Fin bU aP
theorem rJ{p t:Nat}{r:Rg}{l logs:List (List UInt8)}(h:kJ p t r.root l=true):rI p t r l logs=(1,l):=by unfold rI;rw [if_pos h]
theorem pK{p t:Nat}{r:Rg}{l logs:List (List UInt8)}(h:¬ kJ p t r.root l=true)(h2:tA p t r logs=none):rI p t r l logs=(3,l):=by
 unfold rI tA at *
 rw [if_neg h]
 cases hp:lR p t logs with
 | none=>rfl
 | some x=>
  rw [hp] at h2
  dsimp only at h2 ⊢
  split at h2
  ·cases h2
  ·rename_i hc
   rw [if_neg (fun hh=>hc hh.1)]
theorem sV{p t:Nat}{r:Rg}{l logs:List (List UInt8)}(h:¬ kJ p t r.root l=true){x:UInt64×List Ent}(h2:tA p t r logs=some x):rI p t r l logs=if kJ p t r.root (pA p x.1 x.2 l)=true then (2,pA p x.1 x.2 l) else (3,l):=by
 unfold rI tA at *
 rw [if_neg h]
 cases hp:lR p t logs with
 | none=>rw [hp] at h2;cases h2
 | some y=>
  rw [hp] at h2
  dsimp only at h2 ⊢
  split at h2
  ·cases h2
   rename_i hc
   by_cases hf:kJ p t r.root (pA p x.1 x.2 l)=true
   ·rw [if_pos ⟨hc,hf⟩,if_pos hf]
   ·rw [if_neg (fun hh=>hf hh.2),if_neg hf]
  ·cases h2
def rW(p t:Nat)(r:Rg)(l logs:List (List UInt8))(β:Bk):Bk:=
 if kJ p t r.root l=true then rZ β l else match tA p t r logs with|some x=>rZ (aAl (rZ β l) l) (pA p x.1 x.2 l)|none=>rZ β l
def aIT(fp d tr s bk p t k:Nat)(l:List (List UInt8))(H:Hp):Prop:=
 ∃ bv lv cnt Lv ev tv Hx,(One bv∧One lv∧One Lv∧One ev∧One tv)∧H=(fp,cl (bK d tr s bk p t (k:Int) bv lv cnt Lv ev tv) 295)::Hx ∧
  (k≠3→∃ tp be Hb Ht Hz,Bls bv l Hb∧tv=ptv tp∧ev=.slice (some ⟨be,0,none⟩) (Gm.sealed p) (Gm.sealed p)∧uE tp bk (eR l) Ht∧Hx=Hb++((be,cl (uv (kW p l)) 33)::(Ht++Hz)))
theorem aE7{p t:Nat}:∀ {l:List Ent} {m:List (List UInt8)},(∀ x∈l,x.2.length=256)→(∀ b∈m,b.length=256)→∀ b∈oB p m l,b.length=256:=by
 intro l
 unfold oB
 induction l with
 | nil=>intro m _ h;exact h
 | cons x l ih=>
  intro m hl h
  rw [gK]
  refine ih (fun y hy=>hl y (cC _ hy)) fun b hb=>?_
  rcases iV hb with h1|h1
  ·exact h b h1
  ·rw [h1];exact hl x (gQ ..)
theorem aE8{es:List UInt64}:∀ {ts:List Nat} {m:List (List UInt8)},(∀ b∈m,b.length=256)→∀ b∈pB es m ts,b.length=256:=by
 intro l
 unfold pB
 induction l with
 | nil=>intro m h;exact h
 | cons x l ih=>
  intro m h
  rw [gK]
  refine ih fun b hb=>?_
  rcases iV hb with h1|h1
  ·exact h b h1
  ·rw [h1];exact yT _ _
theorem xS(p:Nat)(c:UInt64)(l:List Ent)(m:List (List UInt8)):(pA p c l m).length=m.length:=by unfold pA;rw [tZ,qU]
theorem xR{p t:Nat}{c:UInt64}{l:List Ent}{m:List (List UInt8)}(hm:oD p t l=true)(h:∀ b∈m,b.length=256):∀ b∈pA p c l m,b.length=256:=by
 unfold pA
 refine aE8 (aE7 (t:=t) (fun x hx=>?_) h)
 obtain⟨i,hi⟩:=dI.1 hx
 exact aGi hm i x hi
theorem aCC{p t:Nat}{r:Rg}{logs:List (List UInt8)}{x:UInt64×List Ent}(h:tA p t r logs=some x):oD p t x.2=true:=by
 unfold tA at h
 cases hp:lR p t logs with
 | none=>rw [hp] at h;cases h
 | some y=>
  rw [hp] at h
  dsimp only at h
  split at h
  ·cases h;exact xM hp
  ·cases h
theorem Dv.blk_256{σ:Dv}{m k:Nat}(hok:σ.Ok)(hd:σ.down=false)(hl:σ.len=256*m)(hk:k<m):(σ.blk k).length=256:=by
 unfold Dv.blk Dv.loadB
 have hr:σ.rdy ((256*k:Nat):Int) 256=0:=by
  unfold Dv.rdy
  rw [if_neg (by rw [hd];decide),if_neg oQ]
 rw [if_pos hr,aI,aW,tB hok.ok,aX]
 unfold Dv.len at hl
 show min 256 _=256
 omega
theorem sN{σ:Dv}{m a n:Nat}(hok:σ.Ok)(hd:σ.down=false)(hl:σ.len=256*m)(hk:a+n≤m):∀ b∈σ.blks a n,b.length=256:=fun b hb=>by
 unfold Dv.blks at hb
 obtain⟨i,hi,rfl⟩:=cA.1 hb
 have:=eG.1 hi
 exact Dv.blk_256 hok hd hl oQ
theorem aJA{dt d tr s bk tb p t:Nat}(h:Gm.Ok p t){σ:Dv}{r:Rg}{β:Bk}{Hd Hk:Hp}(hD:gO d σ Hd)(hlen:σ.len=256*Gm.total p t)(hr:r.Ok)(hK:fB bk tb β Hk) :
  Tri prog 188 [uG d tr s bk p t] ((tr,cl (trc dt r) 200)::(Hd++Hk)) (fun _=>True)
  (fun v H=>(σ.down=true∧v=.tuple #[.pointer none,.int .i64 8]∧H=(tr,cl (trc dt r) 200)::(Hd++Hk)) ∨
   (σ.down=false∧∃ fp Hk' Hf,v=.tuple #[ptv fp,.int .i64 0]∧aIT fp d tr s bk p t (fE p t σ r).1 (fE p t σ r).2 Hf∧fB bk tb (rW p t r (σ.blks 0 (Gm.leaves p)) (σ.blks (Gm.leaves p) (1+t)) β) Hk' ∧
    H=(tr,cl (trc dt r) 200)::(Hd++(Hk'++Hf)))):=by
 refine Tri.mk func188 rfl ntmps188 rfl fun w hw=>?_
 have hmy:=aDs (tr:=tr) (s:=s) (bk:=bk) h hD hlen
 have ht:=h.2.2.2
 have hlv:=aA4 h
 have hla:=aCz h 0
 have hll:=Gm.leaves_le h
 have hl1:1≤Gm.leaves p:=by unfold Gm.leaves;omega
 have htot:Gm.total p t=Gm.leaves p+(1+t):=rfl
 rw [show Gm.atK (1+t) (Gm.leaves p) 0=((Gm.leaves p:Nat):Int) by unfold Gm.atK;rw [if_pos oQ];omega] at hla
 have hld1:=fun fp (k:Int)=>aD5 (fp:=fp) (d:=d) (tr:=tr) (s:=s) (bk:=bk) (kind:=k) (cnt:=0) (bv:=.slice none 0 0) (lv:=.slice none 0 0) (Lv:=.slice none 0 0) (ev:=.slice none 0 0) (tv:=.pointer none) h ⟨rfl⟩ ⟨rfl⟩ ⟨rfl⟩ ⟨rfl⟩ ⟨rfl⟩ hD hlen 0 (Gm.leaves p) oQ
 have hld2:=fun fp (k:Int) bv (hbv:One bv)=>aD5 (fp:=fp) (d:=d) (tr:=tr) (s:=s) (bk:=bk) (kind:=k) (cnt:=0) (bv:=bv) (lv:=.slice none 0 0) (Lv:=.slice none 0 0) (ev:=.slice none 0 0) (tv:=.pointer none) h hbv ⟨rfl⟩ ⟨rfl⟩ ⟨rfl⟩ ⟨rfl⟩ hD hlen (Gm.leaves p) (1+t) oQ
 rw [show ((1+t:Nat):Int)=1+(t:Int) by omega] at hld2
 have hbf:bP (fun i=>[(0,6),(6,1),(7,1),(8,1),(9,2),(11,1),(12,1)][i]?) (List.replicate 4 (.pointer none)++[.int .i64 0,.int .i64 0,.int .i64 0]++[.slice none 0 0,.slice none 0 0]++[.int .u64 0]++[.slice none 0 0,.slice none 0 0]++[.pointer none]) [(0,uG d tr s bk p t),(1,.int .i64 3)]=some (bK d tr s bk p t 3 (.slice none 0 0) (.slice none 0 0) 0 (.slice none 0 0) (.slice none 0 0) (.pointer none)):=rfl
 by_cases hdn:σ.down=true
 ·have e1:ldS σ 0 (Gm.leaves p)=(8,[]):=by unfold ldS;rw [if_neg (by rw [hdn];simp;omega)]
  rw [e1] at hld1
  dsimp only at hld1
  refine W.k fun b_=>?_
  refine aH hmy ?_
  rintro _ Hd ⟨rfl,rfl⟩
  refine W.k fun b_=>?_
  refine W.cw hlv ?_
  refine dL (hld1 b_ 3) rfl ?_
  rintro _ _ ⟨v1,Hb,rfl,hB,rfl⟩
  have hB1:=hB.one
  refine W.k ?_
  refine Fin.to ((tr,cl (trc dt r) 200)::(Hd++Hk)) ?_
  exact F.f2 (.inl ⟨hdn,rfl,rfl⟩)
 have hdn2:σ.down=false:=by simpa using hdn
 have e1:ldS σ 0 (Gm.leaves p)=(0,σ.blks 0 (Gm.leaves p)):=by unfold ldS;rw [if_pos (.inr hdn2)]
 have e2:ldS σ (Gm.leaves p) (1+t)=(0,σ.blks (Gm.leaves p) (1+t)):=by unfold ldS;rw [if_pos (.inr hdn2)]
 rw [e1] at hld1
 rw [e2] at hld2
 dsimp only at hld1 hld2
 have hb1:=sN (a:=0) (n:=Gm.leaves p) hD.1 hdn2 hlen oQ
 have hb2:=sN (a:=Gm.leaves p) (n:=1+t) hD.1 hdn2 hlen oQ
 have hn1:=σ.blks_len 0 (Gm.leaves p)
 have hn2:=σ.blks_len (Gm.leaves p) (1+t)
 have hlb:fE p t σ r=rI p t r (σ.blks 0 (Gm.leaves p)) (σ.blks (Gm.leaves p) (1+t)):=rfl
 rw [hlb]
 clear hlb e1 e2 hdn
 generalize σ.blks 0 (Gm.leaves p)=l at *
 generalize σ.blks (Gm.leaves p) (1+t)=logs at *
 refine W.k fun b_=>?_
 refine aH hmy ?_
 rintro _ Hd ⟨rfl,rfl⟩
 refine W.k fun b_=>?_
 generalize b_=fp at *
 refine W.cw hlv ?_
 refine dL (hld1 fp 3) rfl ?_
 rintro _ _ ⟨v1,Hb,rfl,hB,rfl⟩
 have hB1:=hB.one
 refine W.k ?_
 rw [show (bK d tr s bk p t 3 (.slice none 0 0) (.slice none 0 0) 0 (.slice none 0 0) (.slice none 0 0) (.pointer none)).set 7 v1=bK d tr s bk p t 3 v1 (.slice none 0 0) 0 (.slice none 0 0) (.slice none 0 0) (.pointer none) from rfl]
 (refine SW.l [] [0,1,2,3,5,6,7,8] ?_;refine aU 4 ?_)
 refine W.cq hla ?_
 (refine bI [] ?_;refine aU 9 ?_)
 refine aH (hld2 fp 3 v1 hB1) ?_
 rintro _ _ ⟨v2,Hl,rfl,hL,rfl⟩
 have hL1:=hL.one
 (refine SL.l [10,11,12,13,14] ?_;refine aU 15 ?_;refine W.i ?_;refine SG.l [16,17] ?_)
 rw [show (bK d tr s bk p t 3 v1 (.slice none 0 0) 0 (.slice none 0 0) (.slice none 0 0) (.pointer none)).set 8 v2=bK d tr s bk p t 3 v1 v2 0 (.slice none 0 0) (.slice none 0 0) (.pointer none) from rfl]
 have hfi:=aF4 (dt:=dt) (fp:=fp) (d:=d) (tr:=tr) (s:=s) (kind:=3) (cnt:=0) (lv:=v2) (Lv:=.slice none 0 0) (ev:=.slice none 0 0) (tv:=.pointer none) h hr hK hB hL1 ⟨rfl⟩ ⟨rfl⟩ ⟨rfl⟩ hn1 hb1
 by_cases hf:kJ p t r.root l=true
 ·rw [rJ hf]
  simp only [hf,eq_self,if_true] at hfi
  have hlk:rW p t r l logs β=rZ β l:=by unfold rW;rw [if_pos hf]
  rw [hlk]
  refine W.k ?_
  refine aH hfi ?_
  rintro _ _ ⟨rfl,ev3,tv3,Hk3,Hx,hK3,rfl,tp,be,Ht,rfl,rfl,rfl,hT⟩
  refine W.k ?_
  rw [show (bK d tr s bk p t 3 v1 v2 0 (.slice none 0 0) (.slice (some ⟨be,0,none⟩) (Gm.sealed p) (Gm.sealed p)) (ptv tp)).set 6 (.int .i64 1)=bK d tr s bk p t ((1:Nat):Int) v1 v2 0 (.slice none 0 0) (.slice (some ⟨be,0,none⟩) (Gm.sealed p) (Gm.sealed p)) (ptv tp) from rfl]
  refine Fin.to ((tr,cl (trc dt r) 200)::(Hd++(Hk3++((fp,cl (bK d tr s bk p t ((1:Nat):Int) v1 v2 0 (.slice none 0 0) (.slice (some ⟨be,0,none⟩) (Gm.sealed p) (Gm.sealed p)) (ptv tp)) 295)::(Hb++((be,cl (uv (kW p l)) 33)::(Ht++[]))))))) ?_
  exact F.f2 (.inr ⟨hdn2,fp,Hk3,_,rfl,⟨v1,v2,0,_,_,_,_,⟨hB1,hL1,⟨rfl⟩,⟨rfl⟩,⟨rfl⟩⟩,rfl,fun _=>⟨tp,be,Hb,Ht,[],hB,rfl,rfl,hT,rfl⟩⟩,hK3,rfl⟩)
 have hff:kJ p t r.root l=false:=by simpa using hf
 simp only [hff,jS,if_false] at hfi
 refine W.k ?_
 refine aH hfi ?_
 rintro _ _ ⟨rfl,ev3,tv3,Hk3,Hx,hK3,rfl,rfl,rfl,rfl⟩
 have hre:=aJ4 (dt:=dt) (fp:=fp) (d:=d) (tr:=tr) (s:=s) (kind:=3) (cnt:=0) (Lv:=.slice none 0 0) (ev:=.slice none 0 0) (tv:=.pointer none) h hr hK3 hB hL ⟨rfl⟩ ⟨rfl⟩ ⟨rfl⟩ hn1 hb1 hn2 hb2
 cases hlr:tA p t r logs with
 | none=>
  rw [pK hf hlr]
  rw [hlr] at hre
  dsimp only at hre
  have hlk:rW p t r l logs β=rZ β l:=by unfold rW;rw [if_neg hf,hlr]
  rw [hlk]
  refine W.k ?_
  refine aH hre ?_
  rintro _ _ ⟨bv4,cnt4,Lv4,Hk4,Hb4,o4,rfl,rfl,hB4,hK4⟩
  have hB41:=hB4.one
  refine W.k ?_
  refine Fin.to ((tr,cl (trc dt r) 200)::(Hd++(Hk4++[(fp,cl (bK d tr s bk p t ((3:Nat):Int) bv4 v2 cnt4 Lv4 (.slice none 0 0) (.pointer none)) 295)]))) ?_
  exact F.f2 (.inr ⟨hdn2,fp,Hk4,_,rfl,⟨bv4,v2,cnt4,Lv4,_,_,[],⟨hB41,hL1,o4,⟨rfl⟩,⟨rfl⟩⟩,rfl,fun hh=>absurd rfl hh⟩,hK4,rfl⟩)
 | some x=>
  rw [sV hf hlr]
  rw [hlr] at hre
  dsimp only at hre
  have hlk:rW p t r l logs β=rZ (aAl (rZ β l) l) (pA p x.1 x.2 l):=by unfold rW;rw [if_neg hf,hlr]
  rw [hlk]
  have hm:=aCC hlr
  have hl4:=xS p x.1 x.2 l
  have hl256:=xR (c:=x.1) hm hb1
  generalize pA p x.1 x.2 l=l4 at *
  refine W.k ?_
  refine aH hre ?_
  rintro _ _ ⟨bv4,cnt4,Lv4,Hk4,Hb4,o4,rfl,rfl,hB4,hK4⟩
  have hB41:=hB4.one
  have hfi2:=aF4 (dt:=dt) (fp:=fp) (d:=d) (tr:=tr) (s:=s) (kind:=3) (cnt:=cnt4) (lv:=v2) (Lv:=Lv4) (ev:=.slice none 0 0) (tv:=.pointer none) h hr hK4 hB4 hL1 o4 ⟨rfl⟩ ⟨rfl⟩ oQ hl256
  by_cases hf2:kJ p t r.root l4=true
  ·rw [if_pos hf2]
   simp only [hf2,eq_self,if_true] at hfi2
   refine W.k ?_
   refine aH hfi2 ?_
   rintro _ _ ⟨rfl,ev5,tv5,Hk5,Hx5,hK5,rfl,tp,be,Ht,rfl,rfl,rfl,hT⟩
   refine W.k ?_
   rw [show (bK d tr s bk p t 3 bv4 v2 cnt4 Lv4 (.slice (some ⟨be,0,none⟩) (Gm.sealed p) (Gm.sealed p)) (ptv tp)).set 6 (.int .i64 2)=bK d tr s bk p t ((2:Nat):Int) bv4 v2 cnt4 Lv4 (.slice (some ⟨be,0,none⟩) (Gm.sealed p) (Gm.sealed p)) (ptv tp) from rfl]
   refine Fin.to ((tr,cl (trc dt r) 200)::(Hd++(Hk5++((fp,cl (bK d tr s bk p t ((2:Nat):Int) bv4 v2 cnt4 Lv4 (.slice (some ⟨be,0,none⟩) (Gm.sealed p) (Gm.sealed p)) (ptv tp)) 295)::(Hb4++((be,cl (uv (kW p l4)) 33)::(Ht++[]))))))) ?_
   exact F.f2 (.inr ⟨hdn2,fp,Hk5,_,rfl,⟨bv4,v2,cnt4,_,_,_,_,⟨hB41,hL1,o4,⟨rfl⟩,⟨rfl⟩⟩,rfl,fun _=>⟨tp,be,Hb4,Ht,[],hB4,rfl,rfl,hT,rfl⟩⟩,hK5,rfl⟩)
  ·rw [if_neg hf2]
   have hff2:kJ p t r.root l4=false:=by simpa using hf2
   simp only [hff2,jS,if_false] at hfi2
   refine W.k ?_
   refine aH hfi2 ?_
   rintro _ _ ⟨rfl,ev5,tv5,Hk5,Hx5,hK5,rfl,rfl,rfl,rfl⟩
   refine W.k ?_
   refine Fin.to ((tr,cl (trc dt r) 200)::(Hd++(Hk5++[(fp,cl (bK d tr s bk p t ((3:Nat):Int) bv4 v2 cnt4 Lv4 (.slice none 0 0) (.pointer none)) 295)]))) ?_
   exact F.f2 (.inr ⟨hdn2,fp,Hk5,_,rfl,⟨bv4,v2,cnt4,Lv4,_,_,[],⟨hB41,hL1,o4,⟨rfl⟩,⟨rfl⟩⟩,rfl,fun hh=>absurd rfl hh⟩,hK5,rfl⟩)
abbrev wP(d tr s bk p t:Nat)(ev tv:Value)(w:Bool)(st:Int):List Value:=[ptv d,ptv tr,ptv s,ptv bk,.int .i64 (p:Int),.int .i64 (t:Int),ev,tv,.bool w,.int .i64 st]
theorem aIj{sp d tr s bk p t:Nat}{ev tv:Value}{wr:Bool}{st e:Int}(o0:One ev)(o1:One tv):Tri prog 40 [ptv sp,.int .i64 e] [(sp,cl (wP d tr s bk p t ev tv wr st) 97)] (fun _=>True) (fun v H=>v=.int .i64 e∧H=[(sp,cl (wP d tr s bk p t ev tv wr (if e=0 then st else 8)) 97)]):=by
 refine Tri.mk func40 rfl ntmps40 rfl fun w hw=>?_
 by_cases he:e=0
 ·rw [if_pos he]
  refine W.k ?_
  refine Fin.to [(sp,cl (wP d tr s bk p t ev tv wr st) 97)] ?_
  exact F.f1 ⟨rfl,rfl⟩
 ·rw [if_neg he]
  refine W.k ?_
  rw [show (wP d tr s bk p t ev tv wr st).set 9 (.int .i64 8)=wP d tr s bk p t ev tv wr 8 from rfl]
  refine Fin.to [(sp,cl (wP d tr s bk p t ev tv wr 8) 97)] ?_
  exact F.f1 ⟨rfl,rfl⟩
def rdK(p:Nat)(k:Int)(σ:Dv)(s:So)(β:Bk):Bk:=
 if s.st≠0 then β else if ¬ (0≤k∧k<(Gm.sealed p:Nat)) then β else if σ.down=true then β else β.add (jG (Ks p k.toNat) (σ.blk (Ks p k.toNat)))
theorem aIk{sp d tr s bk tb p t c b n:Nat}{ws:List (List UInt8)}{sr:Sr}(h:Gm.Ok p t){σ:Dv}{x:So}{β:Bk}{Hd HS Hk Hs:Hp}(hx:x.Ok p)(hD:gO d σ Hd)(hlen:σ.len=256*Gm.total p t)(hS:sL sp d tr s bk p t x HS)(hK:fB bk tb β Hk)(hSe:mE s c b n ws sr Hs)(hKo:nT n ws)(k:Int) :
  Tri prog 8 [ptv sp,.int .i64 k] (HS++(Hd++(Hs++Hk))) (fun _=>True)
  (fun v H=>∃ v1 Hr HS' Hk',v=.tuple #[v1,.int .i64 (rdS p (dH (Aes.enc ws n)) k σ x).1]∧Sl 5 1 v1 (cbs (rdS p (dH (Aes.enc ws n)) k σ x).2.1) Hr∧sL sp d tr s bk p t (rdS p (dH (Aes.enc ws n)) k σ x).2.2 HS'∧fB bk tb (rdK p k σ x β) Hk'∧H=HS'++(Hd++(Hs++(Hk'++Hr)))):=by
 obtain⟨ev,tp,He,Ht,rfl,hE,hT⟩:=hS
 refine Tri.mk func8 rfl ntmps8 rfl fun w hw=>?_
 have oe:=hE.isOne
 have hst:=aCY (sp:=sp) (F0:=wP d tr s bk p t ev (ptv tp) x.w x.st) (st:=x.st) rfl
 by_cases h0:x.st≠0
 ·have e1:rdS p (dH (Aes.enc ws n)) k σ x=(x.st,[],x):=by unfold rdS;rw [if_pos h0]
  have e2:rdK p k σ x β=β:=by unfold rdK;rw [if_pos h0]
  rw [e1,e2]
  dsimp only
  have h0':¬ x.st=0:=h0
  refine W.k ?_
  refine W.cw hst ?_
  refine Fin.to (((sp,cl (wP d tr s bk p t ev (ptv tp) x.w x.st) 97)::(He++Ht))++(Hd++(Hs++(Hk++[])))) ?_
  exact F.f2 ⟨_,[],_,Hk,rfl,Sl.nil _ _,⟨ev,tp,He,Ht,rfl,hE,hT⟩,hK,rfl⟩
 have h0':x.st=0:=Decidable.not_not.1 h0
 have hsa:=sX h k
 by_cases hk:¬ (0≤k∧k<(Gm.sealed p:Nat))
 ·have e1:rdS p (dH (Aes.enc ws n)) k σ x=(3,[],x):=by unfold rdS;rw [if_neg h0,if_pos hk]
  have e2:rdK p k σ x β=β:=by unfold rdK;rw [if_neg h0,if_pos hk]
  rw [e1,e2]
  dsimp only
  rw [show Gm.atK (Gm.sealed p) (1+Gm.epochs p) k = -1 by unfold Gm.atK;rw [if_neg hk]] at hsa
  refine W.k ?_
  refine W.cw hst ?_
  refine W.cw hsa ?_
  refine Fin.to (((sp,cl (wP d tr s bk p t ev (ptv tp) x.w x.st) 97)::(He++Ht))++(Hd++(Hs++(Hk++[])))) ?_
  exact F.f2 ⟨_,[],_,Hk,rfl,Sl.nil _ _,⟨ev,tp,He,Ht,rfl,hE,hT⟩,hK,rfl⟩
 have hk2:=Decidable.not_not.1 hk
 obtain⟨j,rfl⟩:∃ j:Nat,k=j:=⟨k.toNat,by omega⟩
 have hsl:=Gm.sealed_le h
 have hel:=Gm.epochs_le h
 have hLe:Gm.leaves p=1+Gm.epochs p+Gm.sealed p:=rfl
 have htot:Gm.total p t=Gm.leaves p+(1+t):=rfl
 have hKs:Ks p j=1+Gm.epochs p+j:=rfl
 rw [show Gm.atK (Gm.sealed p) (1+Gm.epochs p) (j:Int)=((Ks p j:Nat):Int) by unfold Gm.atK;rw [if_pos hk2,hKs];omega] at hsa
 have hKl:Ks p j<Gm.total p t:=oQ
 have hby:=qH (k:=Ks p j) (by have:=Gm.total_le2 h;omega)
 have hld:=aGh hD ((256*Ks p j:Nat):Int) 256
 have hr0:σ.rdy ((256*Ks p j:Nat):Int) 256=if σ.down=true then 8 else 0:=by
  unfold Dv.rdy
  split
  ·rfl
  ·rw [hlen,if_neg oQ]
 rw [hr0] at hld
 have hbk:(σ.blk (Ks p j))=σ.loadB ((256*Ks p j:Nat):Int) 256:=rfl
 have hsd:=fun e=>aIj (sp:=sp) (d:=d) (tr:=tr) (s:=s) (bk:=bk) (p:=p) (t:=t) (wr:=x.w) (st:=x.st) (e:=e) oe (show One (ptv tp) from inferInstance)
 by_cases hdn:σ.down=true
 ·have e1:rdS p (dH (Aes.enc ws n)) j σ x=(8,[],{ x with st:=8 }):=by unfold rdS;rw [if_neg h0,if_neg hk,if_pos hdn]
  have e2:rdK p j σ x β=β:=by unfold rdK;rw [if_neg h0,if_neg hk,if_pos hdn]
  rw [e1,e2]
  dsimp only
  rw [if_pos hdn] at hld
  have hsd8:=hsd 8
  rw [if_neg (show ¬ (8:Int)=0 by decide)] at hsd8
  refine W.k ?_
  refine W.cw hst ?_
  refine W.cw hsa ?_
  (refine SW.l [7] [0,1,2,3,4,5] ?_;refine aU 6 ?_)
  refine W.cq hby ?_
  (refine bI [] ?_;refine cQ 7 ?_)
  refine aH hld ?_
  rintro _ _ ⟨sv,Hl,rfl,hsv,rfl⟩
  have hsv1:=hsv.isOne
  (refine SL.l [8,9,10,11,12,13] ?_)
  refine W.k ?_
  refine W.cw hsd8 ?_
  refine Fin.to (((sp,cl (wP d tr s bk p t ev (ptv tp) x.w 8) 97)::(He++Ht))++(Hd++(Hs++(Hk++[])))) ?_
  exact F.f2 ⟨_,[],_,Hk,rfl,Sl.nil _ _,⟨ev,tp,He,Ht,rfl,hE,hT⟩,hK,rfl⟩
 have hsd0:=hsd 0
 rw [if_pos rfl] at hsd0
 rw [if_neg hdn,← hbk] at hld
 have hdn2:σ.down=false:=by simpa using hdn
 have hb256:(σ.blk (Ks p j)).length=256:=Dv.blk_256 hD.1 hdn2 hlen hKl
 have hlf:=fun v=>aGe hK (Ks p j) v (σ.blk (Ks p j)) (by rw [hb256];decide)
 have hat:=aKr hT ((Ks p j:Nat):Int) (by rw [hx.lv];have:=Gm.leaves_le h;omega)
 have e2:rdK p j σ x β=β.add (jG (Ks p j) (σ.blk (Ks p j))):=by unfold rdK;rw [if_neg h0,if_neg hk,if_neg hdn];rfl
 have e1:rdS p (dH (Aes.enc ws n)) j σ x=if Sha.sum (jG (Ks p j) (σ.blk (Ks p j)))≠qL x.lv (Ks p j) then (20,[],{ x with st:=20 }) else (0,dH (Aes.enc ws n) (x.es.getD j 0) j (σ.blk (Ks p j)),x):=by unfold rdS;rw [if_neg h0,if_neg hk,if_neg hdn];rfl
 rw [e1,e2]
 clear e1 e2 hbk
 have hs32:(Sha.sum (jG (Ks p j) (σ.blk (Ks p j)))).length=32:=Sha.sum_len _
 generalize σ.blk (Ks p j)=B at *
 generalize β.add (jG (Ks p j) B)=β2 at *
 generalize Sha.sum (jG (Ks p j) B)=S1 at *
 refine W.k ?_
 refine W.cw hst ?_
 refine W.cw hsa ?_
 (refine SW.l [7] [0,1,2,3,4,5] ?_;refine aU 6 ?_)
 refine W.cq hby ?_
 (refine bI [] ?_;refine cQ 7 ?_)
 refine aH hld ?_
 rintro _ _ ⟨sv,Hl,rfl,hsv,rfl⟩
 have hsv1:=hsv.isOne
 (refine SL.l [8,9,10,11,12,13] ?_)
 refine W.k ?_
 refine W.cw hsd0 ?_
 (refine SW.l [13] [0,1,2,3,4,5,6,8,9,10,11,12] ?_;refine aU 7 ?_)
 refine aH (hlf sv) ?_ (hpre:=fun w2 hs=>Rd.own (Hc:=Hk) hsv hs inferInstance)
 rintro _ Hk2 ⟨rfl,hK2⟩
 have hlv32:(qL x.lv ((Ks p j:Nat):Int)).length=32:=aES hx.d _
 (refine bI [] ?_;refine cQ 13 ?_)
 refine aH hat ?_
 rintro _ Hx ⟨rfl,hx2⟩
 have hx2:=hx2.symm
 subst hx2
 by_cases hne:S1=qL x.lv ((Ks p j:Nat):Int)
 ·rw [if_neg (fun hh=>hh hne)]
  (refine bI [] ?_;refine eW 14 rfl (aEb rfl rfl rfl hs32 hne) ?_;refine eH ?_)
  have hen:x.es.length=Gm.sealed p:=hx.es
  rcases hE with ⟨-,hz,-⟩|⟨be,elen,ecap,ejunk,rfl,hexl,hej,hec,rfl⟩
  ·have h9:=iA x.es
   rw [hz,cM] at h9
   omega
  rw [iA] at hexl
  obtain rfl:elen=x.es.length:=by omega
  have hlu:(uv x.es++ejunk)[j]?=some (dX (x.es.getD j 0)):=by rw [aK (by rw [iA];omega)];exact aG4 oQ
  have hso:=fun v=>aHj hSe hKo (x.es.getD j 0) j oQ v B hb256
  refine W.k ?_
  (refine SW.l [14] [0,1,2,3,4,5,6,7,8,9,10,11,12,13] ?_;refine cQ 14 ?_)
  refine aH (hso sv) ?_ (hpre:=fun w2 hs=>Rd.own (Hc:=Hs) hsv hs inferInstance)
  rintro _ _ ⟨q,rfl,rfl⟩
  (refine SL.l [15,16,17,18,19] ?_)
  refine W.k ?_
  refine Fin.to (((sp,cl (wP d tr s bk p t (.slice (some ⟨be,0,none⟩) x.es.length ecap) (ptv tp) x.w x.st) 97)::([(be,cl (uv x.es++ejunk) 33)]++Ht))++(Hd++(Hs++(Hk2++[(q,cl (cbs (dH (Aes.enc ws n) (x.es.getD j 0) j B)) 5)])))) ?_
  exact F.f2 ⟨_,_,_,Hk2,rfl,Sl.own _ 1 q (len:=256) (by rw [aF];rw [qC (fun y=>Aes.enc_len ..)];exact hb256),⟨_,tp,_,Ht,rfl,.inr ⟨be,x.es.length,ecap,ejunk,rfl,by rw [iA,Nat.mul_one],hej,hec,rfl⟩,hT⟩,hK2,rfl⟩
 ·rw [if_pos hne]
  (refine bI [] ?_;refine eW 14 rfl (aEc rfl rfl rfl hs32 hlv32 hne) ?_;refine eH ?_)
  refine W.k ?_
  rw [show (wP d tr s bk p t ev (ptv tp) x.w x.st).set 9 (.int .i64 20)=wP d tr s bk p t ev (ptv tp) x.w 20 from rfl]
  (refine SW.l [] [0,1,2,3,4,5,6] ?_)
  refine W.k ?_
  refine Fin.to (((sp,cl (wP d tr s bk p t ev (ptv tp) x.w 20) 97)::(He++Ht))++(Hd++(Hs++(Hk2++[])))) ?_
  exact F.f2 ⟨_,[],_,Hk2,rfl,Sl.nil _ _,⟨ev,tp,He,Ht,rfl,hE,hT⟩,hK2,rfl⟩
theorem aFI{b sp d tr s bk tb p t c0 bb n:Nat}{ws:List (List UInt8)}{sr:Sr}{most:Int}{l:Bl}{H:Hp}(hB:yH b sp most l H)(h:Gm.Ok p t){σ:Dv}{x:So}{β:Bk}{Hd HS Hk Hs:Hp}(hx:x.Ok p)(hD:gO d σ Hd)(hlen:σ.len=256*Gm.total p t)(hS:sL sp d tr s bk p t x HS)(hK:fB bk tb β Hk)(hSe:mE s c0 bb n ws sr Hs)(hKo:nT n ws){k:Int}{z:List UInt8}(hz:rdS p (dH (Aes.enc ws n)) k σ x=(0,z,x)) :
  Tri prog 29 [ptv b,.int .i64 k] (H++(HS++(Hd++(Hs++Hk)))) (fun _=>True)
  (fun v H'=>∃ v1 Hr HS' Hk' β',v=.tuple #[v1,.int .i64 0]∧Sl 5 1 v1 (cbs ((l.at k).getD z)) Hr∧sL sp d tr s bk p t x HS'∧fB bk tb β' Hk'∧H'=H++(HS'++(Hd++(Hs++(Hk'++Hr))))):=by
 have hR:=aIk h hx hD hlen hS hK hSe hKo k
 rw [hz] at hR
 obtain⟨m,c,es,Ht,rfl,rfl,hr⟩:=hB
 refine Tri.mk func29 rfl ntmps29 rfl fun w hw=>?_
 rw [aFF]
 cases hq:atI es k with
 | some y=>
  have hmem:=gN hq
  obtain⟨hv,hl⟩:=hr y hmem
  have hv1:=hv.one
  refine W.k ?_
  refine aAY ?_
  rw [hq]
  dsimp only [Option.map_some,Option.getD_some,Option.isSome_some]
  refine W.k ?_
  refine aH (rB y.v y.bs oQ) ?_ (hpre:=fun w2 hs=>hv.rd (Hc:=[]) hs)
  intro v1 H1 h1
  have h11:=h1.isOne
  refine W.k ?_
  refine Fin.to (((b,cl (yI sp m most) 157)::(m,moI es c)::Ht)++(HS++(Hd++(Hs++(Hk++H1))))) ?_
  exact F.f2 ⟨v1,H1,HS,Hk,β,rfl,h1,hS,hK,rfl⟩
 | none=>
  refine W.k ?_
  refine aAY ?_
  rw [hq]
  dsimp only [Option.map_none,Option.getD_none,Option.isSome_none]
  refine W.k ?_
  refine dN (HS++(Hd++(Hs++Hk))) rfl rfl rfl rfl rfl rfl hR (fun _ _=>trivial) ?_
  rintro _ _ ⟨v1,Hr,HS',Hk',rfl,h1,hS',hK',rfl⟩
  have h11:=h1.isOne
  refine W.k ?_
  refine Fin.to (((b,cl (yI sp m most) 157)::(m,moI es c)::Ht)++(HS'++(Hd++(Hs++(Hk'++Hr))))) ?_
  exact F.f2 ⟨v1,Hr,HS',Hk',_,rfl,h1,hS',hK',rfl⟩
theorem aHt{b sp d tr s bk p t:Nat}{most:Int}{l:Bl}{H HS:Hp}{x:So}(hS:sL sp d tr s bk p t x HS)(h0:x.st=0)(hB:yH b sp most l H)(k:Int)(dv:Value)(y:List UInt8)(hy:y.length=256) :
  Tri prog 30 [ptv b,.int .i64 k,dv] (H++HS) (fun w=>Rd ((H++HS).map Prod.fst) w 1 dv (cbs y)) (fun v H'=>∃ H2,v=.int .i64 (l.no most k)∧yH b sp most (l.step most k y) H2∧H'=H2++HS):=by
 obtain⟨ev,tp,He,Ht,rfl,-⟩:=hS
 exact aJe (by rw [h0];rfl) hB k dv y hy
end
end Go.Proofs.YtmceanmblcadcaaGreat
