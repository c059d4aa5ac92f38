/- Blocks that are not hidden. -/
import Derived.Test.YtnigolgkkjidiaaGreatPm8
import Derived.Test.YtnigolgkkjidiaaGreatPm16
import Derived.Test.YtnigolgkkjidiaaGreatPm9
set_option linter.unusedVariables false
set_option linter.unusedSimpArgs false
set_option linter.unusedSectionVars false
set_option maxHeartbeats 8000000
namespace Go.Proofs.YtnigolgkkjidiaaGreat
open Go
attribute [local irreducible] SW SL SQ SH SA SS Pu Fin CutF HandF
def superM:List UInt8:=[71,65,82,68,82,79,66,69]
def superB(p t:Nat):List UInt8:=pad 256 (superM++leN 2 1++leN 2 (UInt64.ofNat p)++leN 2 (UInt64.ofNat t))
def epB(k:Nat)(es:List UInt64):List UInt8:=pad 256 (((es.drop (32*k)).take 32).flatMap (leN 8))
theorem superB_len(p t:Nat):(superB p t).length=256:=pad_len _ _
theorem epB_len(k:Nat)(es:List UInt64):(epB k es).length=256:=pad_len _ _
theorem bsM:bfill (fun i=>some (i*1,1)) (zs [Value.int .u8 0] 8) [(0,.int .u8 71),(1,.int .u8 65),(2,.int .u8 82),(3,.int .u8 68),(4,.int .u8 82),(5,.int .u8 79),(6,.int .u8 66),(7,.int .u8 69)]=some (cbs superM):=rfl
theorem sBytes_p{p t:Nat}(h:Gm.Ok p t):Tri Tryz.prog 130 [geoV p t] [] (fun _=>True) (fun v H=>∃ b,v=.tuple #[.slice (some ⟨b,0,none⟩) 256 256,.int .i64 0]∧H=[(b,cl (cbs (superB p t)) 5)]):=by
 refine Tri.mk Tryz.func130 rfl Tryz.ntmps130 rfl fun w hw=>?_
 have hck:=gcheck_p h
 have hp1:=put_n 2 1 (by omega) (by omega)
 have hp2:=put_n 2 (UInt64.ofNat p) (by omega) (by omega)
 have hp3:=put_n 2 (UInt64.ofNat t) (by omega) (by omega)
 have hfl:[superM,leN 2 1,leN 2 (UInt64.ofNat p),leN 2 (UInt64.ofNat t)].flatten=superM++leN 2 1++leN 2 (UInt64.ofNat p)++leN 2 (UInt64.ofNat t):=by simp
 have hfn:(superM++leN 2 1++leN 2 (UInt64.ofNat p)++leN 2 (UInt64.ofNat t)).length=14:=by simp [leN_len,superM]
 have hpd:=fun v=>Pad_p2 v (superM++leN 2 1++leN 2 (UInt64.ofNat p)++leN 2 (UInt64.ofNat t)) 256 (by decide) (by decide) (by rw [hfn];decide)
 rw [show pad 256 (superM++leN 2 1++leN 2 (UInt64.ofNat p)++leN 2 (UInt64.ofNat t))=superB p t from rfl] at hpd
 repeat' (first|(refine W.go ?_;try intro b_)|fail)
 refine W.call hck ?_
 rintro _ _ ⟨rfl,rfl⟩
 repeat' (first|(refine W.go ?_;try intro b_)|fail)
 (refine SW.regionS [] ?_ (by kernel_rfl);refine SS.T 3 rfl ?_;(first|refine SS.ls 4 [] rfl ?_|refine SS.sR 4 rfl ?_);refine SS.T 5 rfl ?_;refine SS.T 7 rfl ?_;(first|refine SS.ls 8 [] rfl ?_|refine SS.sR 8 rfl ?_);refine SS.T 9 rfl ?_;skip )
 repeat' (first
  | refine SS.twoK 0 2 ?_ ?_ rfl rfl (hok:=by decide +kernel)|refine SS.twoK 1 2 ?_ ?_ rfl rfl (hok:=by decide +kernel)|refine SS.twoK 0 6 ?_ ?_ rfl rfl (hok:=by decide +kernel)|refine SS.twoK 1 6 ?_ ?_ rfl rfl (hok:=by decide +kernel)|refine SS.twoK 0 10 ?_ ?_ rfl rfl (hok:=by decide +kernel)|refine SS.twoK 1 10 ?_ ?_ rfl rfl (hok:=by decide +kernel)
  | refine SS.effK 0 ?_ rfl (by decide +kernel)|refine SS.effK 1 ?_ rfl (by decide +kernel)|refine SS.effK 2 ?_ rfl (by decide +kernel)|refine SS.effK 6 ?_ rfl (by decide +kernel)|refine SS.effK 10 ?_ rfl (by decide +kernel)
  | (refine W.bsl (fun b1=>?_) (hr:=bsM);refine SL.nilB ?_)
  | (refine W.mk ?_;refine SL.nilB ?_)
  | (refine W.callE hp1 rfl ?_;rintro _ _ ⟨b2,rfl,rfl⟩;refine SL.nilB ?_)
  | (refine W.callE hp2 rfl ?_;rintro _ _ ⟨b3,rfl,rfl⟩;refine SL.nilB ?_)
  | (refine W.callE hp3 rfl ?_;rintro _ _ ⟨b4,rfl,rfl⟩;refine SL.nilB ?_))
 all_goals
  refine SS.effK 11 ?_ rfl (by kernel_rfl)
  refine W.bsl (fun b5=>?_) (hr:=bs4 ..)
  (refine SL.nilB ?_;refine SS.effK 12 ?_ rfl (by kernel_rfl))
  refine W.call (Concat_p _ [superM,leN 2 1,leN 2 (UInt64.ofNat p),leN 2 (UInt64.ofNat t)] (by rw [hfl,hfn];decide) (by simp only [List.length_cons,List.length_nil];omega)) ?_ (hpre:=fun w2 hs=>RdS.at (T:=50) (fz:=(0,0)) (Hc:=[]) hs rfl (Nat.le_refl _) rfl (four_at rfl (Rd.atB (Hc:=[]) (b:=b1) (len:=8) (cap:=8) (T:=5) (fz:=((cbs superM).length,(cbs superM).length+1)) superM hs rfl (Nat.le_refl _)) (Rd.my (Hc:=[]) (T:=5) b2 _ hs (leN_len ..)) (Rd.my (Hc:=[]) (T:=5) b3 _ hs (leN_len ..)) (Rd.my (Hc:=[]) (T:=5) b4 _ hs (leN_len ..))))
  rw [hfl]
  intro v6 H6 h6
  have h61:=h6.isOne
  (refine SL.nilB ?_;refine SS.T 13 rfl ?_;refine SS.done ?_ (by kernel_rfl))
  repeat' (first|(refine W.go ?_;try intro b_)|fail)
  refine W.call (hpd v6) ?_ (hpre:=fun w2 hs=>Rd.own (Hc:=[]) h6 hs inferInstance)
  rintro _ _ ⟨b7,rfl,rfl⟩
  repeat' (first|(refine W.go ?_;try intro b_)|fail)
  refine Fin.to [(b7,cl (cbs (superB p t)) 5)] ?_
  exact F.f2 ⟨b7,rfl,rfl⟩
theorem eps1_p(v:Value)(x:List UInt8):Tri Tryz.prog 241 [v] [] (fun w=>Rd [] w 1 v (cbs x)) (fun r H=>r=.bool (decide (x.length≠256))∧H=[]):=by
 refine Tri.mk Tryz.func241 rfl Tryz.ntmps241 rfl fun w hw=>?_
 obtain⟨a,la,ca,rfl,hl1,hc1,hr1⟩:=hw.get
 rw [cbs_len,Nat.mul_one] at hl1
 subst hl1
 by_cases h:x.length=256
 ·rw [decide_eq_false (by simp [h])]
  repeat' (first|(refine W.go ?_;try intro b_)|fail)
  exact F.f1 ⟨rfl,rfl⟩
 ·rw [decide_eq_true h]
  repeat' (first|(refine W.go ?_;try intro b_)|fail)
  exact F.f1 ⟨rfl,rfl⟩
def RB(Ht:Hp)(vs:List Value)(bss:List (List UInt8)):Prop:=vs.length=bss.length∧∀ (i:Nat) (bs:List UInt8),bss[i]?=some bs→∃ v,vs[i]?=some v∧RdH Ht v bs
theorem RB.nil(Ht:Hp):RB Ht [] []:=⟨rfl,fun i bs h=>by simp at h⟩
theorem RB.mono{H H':Hp}{vs:List Value}{bss:List (List UInt8)}(h:RB H vs bss)(hs:∀ x∈H,x∈H'):RB H' vs bss:=⟨h.1,fun i bs hi=>let ⟨v,h1,h2⟩:=h.2 i bs hi;⟨v,h1,h2.mono hs⟩⟩
theorem RB.snoc{H:Hp}{vs:List Value}{bss:List (List UInt8)}{v:Value}{bs:List UInt8}(h:RB H vs bss)(hv:RdH H v bs):RB H (vs++[v]) (bss++[bs]):=⟨by simp [h.1],fun i b hi=>by
 by_cases hl:i<bss.length
 ·rw [List.getElem?_append_left hl] at hi
  obtain⟨u,h1,h2⟩:=h.2 i b hi
  exact⟨u,by rw [List.getElem?_append_left (by rw [h.1];exact hl)];exact h1,h2⟩
 ·rw [List.getElem?_append_right (by omega)] at hi
  have h0:i-bss.length=0:=by have:=(List.getElem?_eq_some_iff.1 hi).1;simp at this;omega
  rw [h0] at hi
  cases hi
  exact⟨v,by rw [List.getElem?_append_right (by rw [h.1];omega),h.1,h0];rfl,hv⟩⟩
theorem RB.set{H:Hp}{vs:List Value}{bss:List (List UInt8)}{v:Value}{bs:List UInt8}(h:RB H vs bss)(hv:RdH H v bs)(k:Nat):RB H (vs.set k v) (bss.set k bs):=⟨by simp [h.1],fun i b hi=>by
 rw [List.getElem?_set] at hi ⊢
 by_cases hk:k=i
 ·rw [if_pos hk] at hi ⊢
  by_cases hl:k<bss.length
  ·rw [if_pos hl] at hi
   cases hi
   exact⟨v,by rw [if_pos (by rw [h.1];exact hl)],hv⟩
  ·rw [if_neg hl] at hi;cases hi
 ·rw [if_neg hk] at hi ⊢
  exact h.2 i b hi⟩
theorem RB.part{H:Hp}{vs:List Value}{bss:List (List UInt8)}(h:RB H vs bss)(a n:Nat):RB H ((vs.drop a).take n) ((bss.drop a).take n):=⟨by simp [h.1],fun i b hi=>by
 rw [List.getElem?_take,List.getElem?_drop] at hi ⊢
 by_cases hn:i<n
 ·rw [if_pos hn] at hi ⊢
  exact h.2 _ _ hi
 ·rw [if_neg hn] at hi;cases hi⟩
theorem RB.oc{H:Hp}{vs:List Value}{bss:List (List UInt8)}(h:RB H vs bss):OC vs:=⟨fun u hu=>by
 obtain⟨i,hi⟩:=List.mem_iff_getElem?.1 hu
 have hl:i<bss.length:=by have:=(List.getElem?_eq_some_iff.1 hi).1;rw [h.1] at this;exact this
 obtain⟨v,h1,h2⟩:=h.2 i _ (List.getElem?_eq_getElem hl)
 rw [h1] at hi
 cases hi
 exact h2.one.ok⟩
theorem idxB_p{Ht:Hp}(v:Value)(vs:List Value)(bss:List (List UInt8))(hB:RB Ht vs bss)(hn:bss.length≤1000000):Tri Tryz.prog 273 [v,.func (.func 241) #[] #[]] Ht (fun w=>Rd (Ht.map Prod.fst) w 1 v vs)
  (fun r H=>∃ z:Int,r=.int .i64 z∧H=Ht∧(0≤z↔∃ b∈bss,b.length≠256)):=by
 refine Tri.mk Tryz.func273 rfl Tryz.ntmps273 rfl fun w hw=>?_
 obtain⟨a,la,ca,rfl,hl1,hc1,hr1⟩:=hw.get
 rw [Nat.mul_one,hB.1] at hl1
 subst hl1
 repeat' (first|(refine W.go ?_;try intro b_)|fail)
 refine SW.loopF [0,1,7] (fun k:Nat=>[(8,.int .i64 (k:Int))]) (fun _=>Ht) (fun k=>bss.length-k) (fun k=>k≤bss.length∧∀ i b,i<k→bss[i]?=some b→b.length=256) 0 ⟨Nat.zero_le _,fun i b h=>by omega⟩ ?_
 rintro k ⟨hk,hk2⟩
 by_cases h:k<bss.length
 ·obtain⟨bb,o,l,T,fz,rfl,hb,hkK,hy⟩:=hr1 (by omega)
  obtain⟨u,hu1,hu2⟩:=hB.2 k _ (List.getElem?_eq_getElem h)
  have hlu:l[o+k]?=some u:=by
   have h2:((l.drop o).take (bss.length*1))[k]?=vs[k]?:=by rw [hy]
   rw [List.getElem?_take,if_pos (by omega),List.getElem?_drop,hu1] at h2
   exact h2
  have hbl:=List.getElem?_eq_getElem h
  generalize bss[k]=bs at *
  have huo:=hu2.one
  have h1:=eps1_p u bs
  repeat' (first|(refine W.go ?_;try intro b_)|fail)
  refine SL.callv [] rfl rfl rfl rfl rfl rfl h1 (fun w2 hs=>hu2.rd (Hc:=[]) hs) ?_
  rintro _ _ ⟨rfl,rfl⟩
  by_cases h256:bs.length=256
  ·rw [decide_eq_false (by simp [h256])]
   repeat' (first|(refine W.go ?_;try intro b_)|fail)
   refine HandF.mk (k+1) ?_
   refine⟨h,fun i b hi hib=>?_⟩
   by_cases hik:i=k
   ·subst hik;rw [hbl] at hib;cases hib;exact h256
   ·exact hk2 i b (by omega) hib
  ·rw [decide_eq_true h256]
   repeat' (first|(refine W.go ?_;try intro b_)|fail)
   refine Fin.to Ht ?_
   exact F.f1 ⟨(k:Int),rfl,rfl,⟨fun _=>⟨bs,List.mem_of_getElem? hbl,h256⟩,fun _=>by omega⟩⟩
 ·have hkn:k=bss.length:=by omega
  subst hkn
  repeat' (first|(refine W.go ?_;try intro b_)|fail)
  refine Fin.to Ht ?_
  refine F.f1 ⟨-1,rfl,rfl,⟨fun h=>by omega,fun⟨b,hb,hne⟩=>?_⟩⟩
  obtain⟨i,hi⟩:=List.mem_iff_getElem?.1 hb
  exact absurd (hk2 i b (List.getElem?_eq_some_iff.1 hi).1 hi) hne
theorem contB_p{Ht:Hp}(v:Value)(vs:List Value)(bss:List (List UInt8))(hB:RB Ht vs bss)(hn:bss.length≤1000000)(h256:∀ b∈bss,b.length=256):Tri Tryz.prog 231 [v,.func (.func 241) #[] #[]] Ht (fun w=>Rd (Ht.map Prod.fst) w 1 v vs)
  (fun r H=>r=.bool false∧H=Ht):=by
 refine Tri.mk Tryz.func231 rfl Tryz.ntmps231 rfl fun w hw=>?_
 have hv:=hw.isOne
 obtain⟨a,la,ca,rfl,-⟩:=hw.get
 repeat' (first|(refine W.go ?_;try intro b_)|fail)
 refine W.call (idxB_p _ vs bss hB hn) ?_ (hpre:=fun w2 hs=>hw.ro (Hc:=Ht) hs)
 rintro _ Ht ⟨z,rfl,rfl,hz⟩
 have hz2:z<0:=by
  rcases Int.lt_or_le z 0 with h|h
  ·exact h
  ·obtain⟨b,hb,hne⟩:=hz.1 h
   exact absurd (h256 b hb) hne
 repeat' (first|(refine W.go ?_;try intro b_)|fail)
 refine Fin.to Ht ?_
 exact F.f1 ⟨rfl,rfl⟩
end Go.Proofs.YtnigolgkkjidiaaGreat
