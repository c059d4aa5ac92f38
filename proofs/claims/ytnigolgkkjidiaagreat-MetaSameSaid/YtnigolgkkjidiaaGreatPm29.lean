/- The log: may one be, its blocks. -/
import Derived.Test.YtnigolgkkjidiaaGreatPm28
import Derived.Test.YtnigolgkkjidiaaGreatPm10
import Derived.Test.YtnigolgkkjidiaaGreatPm16
import Derived.Test.YtnigolgkkjidiaaGreatPm26
set_option linter.unusedVariables false
set_option linter.unusedSimpArgs false
set_option linter.unusedSectionVars false
set_option maxHeartbeats 2000000
namespace Go.Proofs.YtnigolgkkjidiaaGreat
open Go
attribute [local irreducible] SW SL SQ SH SA SS Pu Fin CutF HandF
structure BadF(P:Program)(f:FuncId):Prop where
 fn:IsFn P f
 t:∀ u bs,Tri P f [u] [] (fun w=>Rd [] w 1 u (cbs bs)) (fun r H=>r=.bool (decide (bs.length≠256))∧H=[])
theorem idxF_p{f:FuncId}(hf:BadF Tryz.prog f){Ht:Hp}(v:Value)(vs:List Value)(bss:List (List UInt8))(hB:RB Ht vs bss)(hn:bss.length≤1000000):Tri Tryz.prog 273 [v,.func (.func f) #[] #[]] Ht (fun w=>Rd (Ht.map Prod.fst) w 1 v vs)
  (fun r H=>∃ z:Int,r=.int .i64 z∧H=Ht∧(0≤z↔∃ b∈bss,b.length≠256)):=by
 haveI:=hf.fn
 refine Tri.mk Tryz.func273 rfl Tryz.ntmps273 rfl fun w hw=>?_
 obtain⟨a,la,ca,rfl,hl1,hc1,hr1⟩:=hw.get
 rw [Nat.mul_one,hB.1] at hl1
 subst hl1
 repeat' (first|(refine W.go ?_;try intro b_)|fail)
 refine SW.loopF [0,1,7] (fun k:Nat=>[(8,.int .i64 (k:Int))]) (fun _=>Ht) (fun k=>bss.length-k) (fun k=>k≤bss.length∧∀ i b,i<k→bss[i]?=some b→b.length=256) 0 ⟨Nat.zero_le _,fun i b h=>by omega⟩ ?_
 rintro k ⟨hk,hk2⟩
 by_cases h:k<bss.length
 ·obtain⟨bb,o,l,T,fz,rfl,hb,hkK,hy⟩:=hr1 (by omega)
  obtain⟨u,hu1,hu2⟩:=hB.2 k _ (List.getElem?_eq_getElem h)
  have hlu:l[o+k]?=some u:=by
   have h2:((l.drop o).take (bss.length*1))[k]?=vs[k]?:=by rw [hy]
   rw [List.getElem?_take,if_pos (by omega),List.getElem?_drop,hu1] at h2
   exact h2
  have hbl:=List.getElem?_eq_getElem h
  generalize bss[k]=bs at *
  have huo:=hu2.one
  have h1:=hf.t u bs
  repeat' (first|(refine W.go ?_;try intro b_)|fail)
  refine SL.callv [] rfl rfl rfl rfl rfl rfl h1 (fun w2 hs=>hu2.rd (Hc:=[]) hs) ?_
  rintro _ _ ⟨rfl,rfl⟩
  by_cases h256:bs.length=256
  ·rw [decide_eq_false (by simp [h256])]
   repeat' (first|(refine W.go ?_;try intro b_)|fail)
   refine HandF.mk (k+1) ?_
   refine⟨h,fun i b hi hib=>?_⟩
   by_cases hik:i=k
   ·subst hik;rw [hbl] at hib;cases hib;exact h256
   ·exact hk2 i b (by omega) hib
  ·rw [decide_eq_true h256]
   repeat' (first|(refine W.go ?_;try intro b_)|fail)
   refine Fin.to Ht ?_
   exact F.f1 ⟨(k:Int),rfl,rfl,⟨fun _=>⟨bs,List.mem_of_getElem? hbl,h256⟩,fun _=>by omega⟩⟩
 ·have hkn:k=bss.length:=by omega
  subst hkn
  repeat' (first|(refine W.go ?_;try intro b_)|fail)
  refine Fin.to Ht ?_
  refine F.f1 ⟨-1,rfl,rfl,⟨fun h=>by omega,fun⟨b,hb,hne⟩=>?_⟩⟩
  obtain⟨i,hi⟩:=List.mem_iff_getElem?.1 hb
  exact absurd (hk2 i b (List.getElem?_eq_some_iff.1 hi).1 hi) hne
theorem contF_p{f:FuncId}(hf:BadF Tryz.prog f){Ht:Hp}(v:Value)(vs:List Value)(bss:List (List UInt8))(hB:RB Ht vs bss)(hn:bss.length≤1000000)(h256:∀ b∈bss,b.length=256):Tri Tryz.prog 231 [v,.func (.func f) #[] #[]] Ht (fun w=>Rd (Ht.map Prod.fst) w 1 v vs)
  (fun r H=>r=.bool false∧H=Ht):=by
 haveI:=hf.fn
 refine Tri.mk Tryz.func231 rfl Tryz.ntmps231 rfl fun w hw=>?_
 have hv:=hw.isOne
 obtain⟨a,la,ca,rfl,-⟩:=hw.get
 repeat' (first|(refine W.go ?_;try intro b_)|fail)
 refine W.call (idxF_p hf _ vs bss hB hn) ?_ (hpre:=fun w2 hs=>hw.ro (Hc:=Ht) hs)
 rintro _ Ht ⟨z,rfl,rfl,hz⟩
 have hz2:z<0:=by
  rcases Int.lt_or_le z 0 with h|h
  ·exact h
  ·obtain⟨b,hb,hne⟩:=hz.1 h
   exact absurd (h256 b hb) hne
 repeat' (first|(refine W.go ?_;try intro b_)|fail)
 refine Fin.to Ht ?_
 exact F.f1 ⟨rfl,rfl⟩
theorem pars1_p:BadF Tryz.prog 230:=⟨inferInstance,fun u bs=>by
 refine Tri.mk Tryz.func230 rfl Tryz.ntmps230 rfl fun w hw=>?_
 obtain⟨a,la,ca,rfl,hl1,hc1,hr1⟩:=hw.get
 rw [cbs_len,Nat.mul_one] at hl1
 subst hl1
 by_cases h:bs.length=256
 ·rw [decide_eq_false (by simp [h])]
  repeat' (first|(refine W.go ?_;try intro b_)|fail)
  refine Fin.to [] ?_
  exact F.f1 ⟨rfl,rfl⟩
 ·rw [decide_eq_true h]
  repeat' (first|(refine W.go ?_;try intro b_)|fail)
  refine Fin.to [] ?_
  exact F.f1 ⟨rfl,rfl⟩⟩
def entsC(us:List Value)(l:List Ent):List Value:=(List.zipWith (fun u x=>[.int .i64 x.1,u]) us l).flatten
def LE(us:List Value)(l:List Ent):Prop:=us.length=l.length∧∀ (i:Nat) (x:Ent),l[i]?=some x→∃ a cap,us[i]?=some (.slice a x.2.length cap)
theorem RB.le{Ht:Hp}{us:List Value}{l:List Ent}(h:RB Ht us (l.map Prod.snd)):LE us l:=⟨by rw [h.1,List.length_map],fun i x hx=>by
 obtain⟨v,h1,h2⟩:=h.2 i x.2 (by rw [List.getElem?_map,hx];rfl)
 obtain⟨a,len,cap,rfl,e⟩:=(show RdH Ht v x.2 from h2)
 exact⟨a,cap,by rw [h1,e.1]⟩⟩
theorem zip_rows(us:List Value)(l:List Ent):∀ y∈List.zipWith (fun u x=>[Value.int .i64 x.1,u]) us (l:List Ent),y.length=2:=fun y hy=>by
 obtain⟨i,hi⟩:=List.mem_iff_getElem?.1 hy
 rw [List.getElem?_zipWith] at hi
 split at hi
 ·cases hi;rfl
 ·cases hi
theorem entsC_len(us:List Value)(l:List Ent)(h:us.length=l.length):(entsC us l).length=l.length*2:=by
 unfold entsC
 rw [flatN_len (n:=2) (zip_rows us l),List.length_zipWith,h,Nat.min_self]
theorem entsC_snoc{us:List Value}{l:List Ent}(h:us.length=l.length)(u:Value)(x:Ent):entsC (us++[u]) (l++[x])=entsC us l++[.int .i64 x.1,u]:=by
 unfold entsC
 rw [List.zipWith_append h]
 simp
theorem entsC_at{us:List Value}{l:List Ent}{i:Nat}{x:Ent}{u:Value}(hu:us[i]?=some u)(hx:l[i]?=some x):(((entsC us l).drop (i*2)).take 2)=[.int .i64 x.1,u]:=by
 unfold entsC
 have h1:(List.zipWith (fun u x=>[Value.int .i64 x.1,u]) us (l:List Ent))[i]?=some [.int .i64 x.1,u]:=by
  rw [List.getElem?_zipWith,hu,hx]
 exact flatN_get (zip_rows us l) h1
theorem mayL_drop(p:Nat)(last:Int)(x:Ent)(l:List Ent):mayL p last (x::l)=(decide (last<x.1∧x.1<(Gm.sealed p:Nat)∧x.2.length=256)&&mayL p x.1 l):=rfl
theorem LE.at{us:List Value}{l:List Ent}(h:LE us l){k:Nat}{x:Ent}(hx:l[k]?=some x):∃ a cap,(List.zipWith (fun u (x:Ent)=>[Value.int .i64 x.1,u]) us l)[k]?=some [.int .i64 x.1,.slice a x.2.length cap]:=by
 obtain⟨a,cap,hu⟩:=h.2 k x hx
 exact⟨a,cap,by rw [List.getElem?_zipWith,hu,hx]⟩
theorem mayL_all{p:Nat}:∀ {l:List Ent} {last:Int},mayL p last l=true→∀ (k:Nat) (x:Ent),l[k]?=some x→last<x.1∧x.1<(Gm.sealed p:Nat)∧x.2.length=256
 | [],_,_,k,x,h=>by simp at h
 | y::l,last,hm,k,x,h=>by
  rw [mayL_drop,Bool.and_eq_true,decide_eq_true_iff] at hm
  cases k with
  | zero=>cases h;exact hm.1
  | succ k=>
   have:=mayL_all hm.2 k x h
   exact⟨by omega,this.2⟩
theorem mayB_256{p t:Nat}{l:List Ent}(hm:mayB p t l=true)(k:Nat)(x:Ent)(h:l[k]?=some x):x.2.length=256:=by
 unfold mayB at hm
 rw [Bool.and_eq_true] at hm
 exact (mayL_all hm.2 k x h).2.2
theorem lMay_p{p t:Nat}(h:Gm.Ok p t)(c:UInt64)(v:Value)(us:List Value)(l:List Ent)(hL:LE us l)(hn:l.length≤1000000) :
  Tri Tryz.prog 233 [geoV p t,.agg #[u64v c,v]] [] (fun w=>Rd [] w 2 v (entsC us l)) (fun r H=>r=.bool (mayB p t l)∧H=[]):=by
 refine Tri.mk Tryz.func233 rfl Tryz.ntmps233 rfl fun w hw=>?_
 have hck:=gcheck_p h
 have hsa:=gsealedAt_p h
 unfold entsC at hw
 obtain⟨a,ca,rfl,hcap,hg⟩:=hw.rows (by decide) (zip_rows us l)
 have hzl:(List.zipWith (fun u (x:Ent)=>[Value.int .i64 x.1,u]) us l).length=l.length:=by rw [List.length_zipWith,hL.1,Nat.min_self]
 rw [hzl] at hcap ⊢
 have hY:One (Value.slice a l.length ca):=⟨rfl⟩
 unfold mayB
 by_cases h1:l.length<1
 ·rw [decide_eq_false (by omega),Bool.false_and]
  repeat' (first|(refine W.go ?_;try intro b_)|fail)
  refine W.call hck ?_
  rintro _ _ ⟨rfl,rfl⟩
  repeat' (first|(refine W.go ?_;try intro b_)|fail)
  refine Fin.to [] ?_
  exact F.f1 ⟨rfl,rfl⟩
 by_cases h2:t<l.length
 ·rw [decide_eq_false (by omega),Bool.false_and]
  repeat' (first|(refine W.go ?_;try intro b_)|fail)
  refine W.call hck ?_
  rintro _ _ ⟨rfl,rfl⟩
  repeat' (first|(refine W.go ?_;try intro b_)|fail)
  refine Fin.to [] ?_
  exact F.f1 ⟨rfl,rfl⟩
 rw [decide_eq_true (by omega),Bool.true_and]
 repeat' (first|(refine W.go ?_;try intro b_)|fail)
 refine W.call hck ?_
 rintro _ _ ⟨rfl,rfl⟩
 repeat' (first|(refine W.gb ?_;try intro b_)|fail)
 refine SW.cutH [] [] (fun _:Unit=>[]) (fun _=>[]) (fun _=>mayL p (-1) l=true) ?_ ?_
 ·repeat' (first|(refine W.go ?_;try intro b_)|fail)
  refine SW.loopF [2,26,27] (fun x:Nat×Int=>[(5,.int .i64 x.2),(28,.int .i64 (x.1:Int))]) (fun _=>[]) (fun x=>l.length-x.1) (fun x=>(x.1≤l.length ∧ -1≤x.2)∧mayL p (-1) l=mayL p x.2 (l.drop x.1)) (0,-1) ⟨⟨Nat.zero_le _,Int.le_refl _⟩,rfl⟩ ?_
  rintro⟨k,last⟩ ⟨⟨hk,hla⟩,hm⟩
  dsimp only at hk hla hm ⊢
  by_cases hkn:k<l.length
  ·have hx:=List.getElem?_eq_getElem hkn
   rw [List.drop_eq_getElem_cons hkn,mayL_drop] at hm
   obtain⟨a2,cap2,hz⟩:=hL.at hx
   obtain⟨pb,po,lv,T,fz,rfl,hb,hkK,hv⟩:=hg k _ hz
   generalize l[k]=x at *
   have hsx:=hsa x.1
   unfold Gm.atK at hsx
   by_cases c1:x.1≤last
   ·rw [decide_eq_false (by omega),Bool.false_and] at hm
    rw [hm]
    repeat' (first|(refine W.go ?_;try intro b_)|fail)
    refine Fin.to [] ?_
    exact F.f1 ⟨rfl,rfl⟩
   by_cases c2:x.1<(Gm.sealed p:Nat)
   ·rw [if_pos (by omega)] at hsx
    by_cases c3:x.2.length=256
    ·rw [decide_eq_true (by omega),Bool.true_and] at hm
     repeat' (first|(refine W.go ?_;try intro b_)|fail)
     refine W.call hsx ?_
     rintro _ _ ⟨rfl,rfl⟩
     repeat' (first|(refine W.go ?_;try intro b_)|fail)
     refine HandF.mk (k+1,x.1) ?_
     exact⟨⟨hkn,by omega⟩,hm⟩
    ·rw [decide_eq_false (by omega),Bool.false_and] at hm
     rw [hm]
     repeat' (first|(refine W.go ?_;try intro b_)|fail)
     refine W.call hsx ?_
     rintro _ _ ⟨rfl,rfl⟩
     repeat' (first|(refine W.go ?_;try intro b_)|fail)
     refine Fin.to [] ?_
     exact F.f1 ⟨rfl,rfl⟩
   ·rw [decide_eq_false (by omega),Bool.false_and] at hm
    rw [if_neg (by omega)] at hsx
    rw [hm]
    repeat' (first|(refine W.go ?_;try intro b_)|fail)
    refine W.call hsx ?_
    rintro _ _ ⟨rfl,rfl⟩
    repeat' (first|(refine W.go ?_;try intro b_)|fail)
    refine Fin.to [] ?_
    exact F.f1 ⟨rfl,rfl⟩
  ·have hkl:k=l.length:=by omega
   rw [hkl,List.drop_length] at hm
   subst hkl
   repeat' (first|(refine W.go ?_;try intro b_)|fail)
   refine CutF.mk () ?_
   exact hm
 rintro _ hm
 rw [hm]
 repeat' (first|(refine W.go ?_;try intro b_)|fail)
 refine Fin.to [] ?_
 exact F.f1 ⟨rfl,rfl⟩
def redoM:List UInt8:=[82,69,68,79,45,76,79,71]
theorem bsR:bfill (fun i=>some (i*1,1)) (zs [.int .u8 0] 8) [(0,.int .u8 82),(1,.int .u8 69),(2,.int .u8 68),(3,.int .u8 79),(4,.int .u8 45),(5,.int .u8 76),(6,.int .u8 79),(7,.int .u8 71)]=some (cbs redoM):=rfl
theorem bs3(a1 a2 a3:Option Addr)(l1 l2 l3 c1 c2 c3:Nat):bfill (fun i=>some (i*1,1)) (zs [.slice none 0 0] 3) [(0,.slice a1 l1 c1),(1,.slice a2 l2 c2),(2,.slice a3 l3 c3)]=some [.slice a1 l1 c1,.slice a2 l2 c2,.slice a3 l3 c3]:=rfl
theorem three_at{K:List Nat}{vs:List Value}{a1 a2 a3:Option Addr}{l1 l2 l3 c1 c2 c3:Nat}{d1 d2 d3:List UInt8}{w:World}(hv:vs=[.slice a1 l1 c1,.slice a2 l2 c2,.slice a3 l3 c3])(h1:Rd K w 1 (.slice a1 l1 c1) (cbs d1))(h2:Rd K w 1 (.slice a2 l2 c2) (cbs d2))(h3:Rd K w 1 (.slice a3 l3 c3) (cbs d3)):∀ (i:Nat) (bs:List UInt8),[d1,d2,d3][i]?=some bs→∃ (a:Option Addr) (len cap:Nat),vs[i]?=some (Value.slice a len cap)∧Rd K w 1 (.slice a len cap) (cbs bs):=by
 subst hv
 intro i bs h
 match i,h with
 | 0,h=>cases h;exact⟨_,_,_,rfl,h1⟩
 | 1,h=>cases h;exact⟨_,_,_,rfl,h2⟩
 | 2,h=>cases h;exact⟨_,_,_,rfl,h3⟩
 | (n+3),h=>simp at h
def headA(c:UInt64)(n:Nat):List UInt8:=redoM++leN 8 c++leN 2 (UInt64.ofNat n)
def numsB(l:List Ent):List UInt8:=l.flatMap fun x=>leN 2 (UInt64.ofInt x.1)
theorem numsB_len(l:List Ent):(numsB l).length=2*l.length:=by
 unfold numsB
 induction l with
 | nil=>rfl
 | cons x l ih=>rw [List.flatMap_cons,List.length_append,ih,leN_len,List.length_cons];omega
theorem cvK(x:Int):Cv .u64 x ((UInt64.ofInt x).toNat:Int):=⟨by
 unfold UInt64.ofInt
 rw [wrapu64,UInt64.toNat_ofNat']
 omega⟩
theorem head_p(c:UInt64)(v:Value)(us:List Value)(l:List Ent)(hL:LE us l)(hn:l.length≤100) :
  Tri Tryz.prog 234 [.agg #[u64v c,v]] [] (fun w=>Rd [] w 2 v (entsC us l)) (fun r H=>∃ b,r=.slice (some ⟨b,0,none⟩) 256 256∧H=[(b,cl (cbs (headB c l)) 5)]):=by
 refine Tri.mk Tryz.func234 rfl Tryz.ntmps234 rfl fun w hw=>?_
 unfold entsC at hw
 obtain⟨a,ca,rfl,hcap,hg⟩:=hw.rows (by decide) (zip_rows us l)
 have hzl:(List.zipWith (fun u (x:Ent)=>[Value.int .i64 x.1,u]) us l).length=l.length:=by rw [List.length_zipWith,hL.1,Nat.min_self]
 rw [hzl] at hcap ⊢
 have hY:One (Value.slice a l.length ca):=⟨rfl⟩
 have hp1:=put_n 8 c (by omega) (by omega)
 have hp2:=put_n 2 (UInt64.ofNat l.length) (by omega) (by omega)
 have hp3:=fun (x:Ent)=>put_n 2 (UInt64.ofInt x.1) (by omega) (by omega)
 have hfl:[redoM,leN 8 c,leN 2 (UInt64.ofNat l.length)].flatten=headA c l.length:=by unfold headA;simp
 have hfn:(headA c l.length).length=18:=by simp [headA,leN_len,redoM]
 have hpd:=fun v=>Pad_p2 v (headA c l.length++numsB l) 256 (by decide) (by decide) (by rw [List.length_append,hfn,numsB_len];omega)
 rw [show pad 256 (headA c l.length++numsB l)=headB c l from rfl] at hpd
 repeat' (first|(refine W.go ?_;try intro b_)|fail)
 (refine SW.regionS [] ?_ (by kernel_rfl);refine SS.T 2 rfl ?_;(first|refine SS.ls 3 [] rfl ?_|refine SS.sR 3 rfl ?_);refine SS.T 5 rfl ?_;(first|refine SS.ls 6 [] rfl ?_|refine SS.sR 6 rfl ?_);refine SS.T 7 rfl ?_;refine SS.T 8 rfl ?_;skip )
 repeat' (first
  | refine SS.twoK 0 4 ?_ ?_ rfl rfl (hok:=by decide +kernel)|refine SS.twoK 1 4 ?_ ?_ rfl rfl (hok:=by decide +kernel)|refine SS.twoK 0 9 ?_ ?_ rfl rfl (hok:=by decide +kernel)|refine SS.twoK 1 9 ?_ ?_ rfl rfl (hok:=by decide +kernel)
  | refine SS.effK 0 ?_ rfl (by decide +kernel)|refine SS.effK 1 ?_ rfl (by decide +kernel)|refine SS.effK 4 ?_ rfl (by decide +kernel)|refine SS.effK 9 ?_ rfl (by decide +kernel)
  | (refine W.bsl (fun b1=>?_) (hr:=bsR);refine SL.nilB ?_)
  | (refine W.mk ?_;refine SL.nilB ?_)
  | (refine W.callE hp1 rfl ?_;rintro _ _ ⟨b2,rfl,rfl⟩;refine SL.nilB ?_)
  | (refine W.callE hp2 rfl ?_;rintro _ _ ⟨b3,rfl,rfl⟩;refine SL.nilB ?_))
 all_goals
  refine SS.effK 10 ?_ rfl (by kernel_rfl)
  refine W.bsl (fun b5=>?_) (hr:=bs3 ..)
  (refine SL.nilB ?_;refine SS.effK 11 ?_ rfl (by kernel_rfl))
  refine W.call (Concat_p _ [redoM,leN 8 c,leN 2 (UInt64.ofNat l.length)] (by rw [hfl,hfn];decide) (by simp only [List.length_cons,List.length_nil];omega)) ?_ (hpre:=fun w2 hs=>RdS.at (T:=50) (fz:=(0,0)) (Hc:=[]) hs rfl (Nat.le_refl _) rfl (three_at rfl (Rd.atB (Hc:=[]) (b:=b1) (len:=8) (cap:=8) (T:=5) (fz:=((cbs redoM).length,(cbs redoM).length+1)) redoM hs rfl (Nat.le_refl _)) (Rd.my (Hc:=[]) (T:=5) b2 _ hs (leN_len ..)) (Rd.my (Hc:=[]) (T:=5) b3 _ hs (leN_len ..))))
  rw [hfl]
  intro v6 H6 h6
  have h61:=h6.isOne
  (refine SL.nilB ?_;refine SS.T 12 rfl ?_;refine SS.done ?_ (by kernel_rfl))
  repeat' (first|(refine W.gb ?_;try intro b_)|fail)
  refine SW.cutH [] H6 (fun x:Value×Hp=>[(3,x.1)]) (fun x=>x.2) (fun x=>Sl 5 1 x.1 (cbs (headA c l.length++numsB l)) x.2) ?_ ?_
  ·repeat' (first|(refine W.go ?_;try intro b_)|fail)
   refine SW.loopF [19,20] (fun x:Nat×Value×Hp=>[(3,x.2.1),(21,.int .i64 (x.1:Int))]) (fun x=>x.2.2) (fun x=>l.length-x.1) (fun x=>x.1≤l.length∧Sl 5 1 x.2.1 (cbs (headA c l.length++numsB (l.take x.1))) x.2.2) (0,v6,H6) ⟨Nat.zero_le _,by rw [List.take_zero,show numsB []=[] from rfl,List.append_nil];exact h6⟩ ?_
   rintro⟨k,v2,H2⟩ ⟨hk,h2⟩
   dsimp only at hk h2 ⊢
   have h21:=h2.isOne
   by_cases hkn:k<l.length
   ·have hx:=List.getElem?_eq_getElem hkn
    obtain⟨a2,cap2,hz⟩:=hL.at hx
    obtain⟨pb,po,lv,T,fz,rfl,hb,hkK,hv⟩:=hg k _ hz
    have hts:numsB (l.take (k+1))=numsB (l.take k)++leN 2 (UInt64.ofInt l[k].1):=by unfold numsB;rw [List.take_add_one,hx,List.flatMap_append];simp
    have htl:(numsB (l.take k)).length=2*k:=by rw [numsB_len,List.length_take];omega
    generalize l[k]=x at *
    haveI:=cvK x.1
    repeat' (first|(refine W.go ?_;try intro b_)|fail)
    refine W.call (hp3 x) ?_
    rintro _ _ ⟨b7,rfl,rfl⟩
    repeat' (first|(refine W.go ?_;try intro b_)|fail)
    refine W.ap h2 (ys:=cbs (leN 2 (UInt64.ofInt x.1))) (mm:=2) (fun w2 hs=>(Sl.own 5 1 b7 (len:=2) (xs:=cbs (leN 2 (UInt64.ofInt x.1))) (by rw [cbs_len,leN_len])).srcAt hs inferInstance) (fun v3 H3 h3=>?_) (hys:=by rw [cbs_len,leN_len]) (hbytes:=by rw [cbs_len,cbs_len,List.length_append,hfn,htl,leN_len];omega)
    have h31:=h3.isOne
    rw [show cbs (headA c l.length++numsB (l.take k))++cbs (leN 2 (UInt64.ofInt x.1))=cbs (headA c l.length++numsB (l.take (k+1))) by rw [hts];simp] at h3
    repeat' (first|(refine W.go ?_;try intro b_)|fail)
    refine HandF.mk (k+1,v3,H3) ?_
    exact⟨hkn,h3⟩
   ·have hkl:k=l.length:=by omega
    rw [hkl,List.take_length] at h2
    subst hkl
    repeat' (first|(refine W.go ?_;try intro b_)|fail)
    refine CutF.mk (v2,H2) ?_
    exact h2
  rintro⟨v2,H2⟩ h2
  dsimp only at h2 ⊢
  have h21:=h2.isOne
  repeat' (first|(refine W.go ?_;try intro b_)|fail)
  refine W.call (hpd v2) ?_ (hpre:=fun w2 hs=>Rd.own (Hc:=[]) h2 hs inferInstance)
  rintro _ _ ⟨b8,rfl,rfl⟩
  repeat' (first|(refine W.go ?_;try intro b_)|fail)
  refine Fin.to [(b8,cl (cbs (headB c l)) 5)] ?_
  exact F.f1 ⟨b8,rfl,rfl⟩
theorem entsL_succ(h:List UInt8)(logs:List (List UInt8))(n:Nat):entsL h logs (n+1)=entsL h logs n++[(((getN ((h.drop (18+2*n)).take 2):Nat):Int),logs.getD (1+n) [])]:=by unfold entsL;rw [List.range_succ,List.map_append];rfl
theorem entsL_len(h:List UInt8)(logs:List (List UInt8))(n:Nat):(entsL h logs n).length=n:=by unfold entsL;simp
def ParsP(o:Option (UInt64×List Ent))(r:Value)(H:Hp):Prop:=match o with
 | none=>r=.tuple #[.agg #[.int .u64 0,.slice none 0 0],.int .i64 4]∧H=[]
 | some x=>∃ ev us He Hb,r=.tuple #[.agg #[u64v x.1,ev],.int .i64 0]∧Sl 315 2 ev (entsC us x.2) He∧RB Hb us (x.2.map Prod.snd)∧H=He++Hb
theorem Parse_p{p t:Nat}(h:Gm.Ok p t)(v:Value)(vs:List Value)(logs:List (List UInt8)){Ht:Hp}(hR:RB Ht vs logs)(hn:logs.length=1+t)(hb:∀ b∈logs,b.length=256) :
  Tri Tryz.prog 183 [geoV p t,v] Ht (fun w=>Rd (Ht.map Prod.fst) w 1 v vs) (fun r H=>∃ Hn,ParsP (parseL p t logs) r Hn∧H=Hn++Ht):=by
 refine Tri.mk Tryz.func183 rfl Tryz.ntmps183 rfl fun w hw=>?_
 have ht:=h.2.2.2
 have hck:=gcheck_p h
 have hw0:=hw
 obtain⟨a,la,ca,rfl,hl1,hc1,hr1⟩:=hw.get
 rw [Nat.mul_one,hR.1] at hl1
 subst hl1
 have hY:One (Value.slice a logs.length ca):=⟨rfl⟩
 have hcf:=contF_p pars1_p (.slice a logs.length ca) vs logs hR (by omega) hb
 obtain⟨bb,o,l,T,fz,rfl,hbh,hkK,hy⟩:=hr1 (by omega)
 have hat:∀ k,k<logs.length→∃ u,l[o+k]?=some u∧RdH Ht u (logs.getD k []):=fun k hk=>by
  obtain⟨u,hu1,hu2⟩:=hR.2 k _ (List.getElem?_eq_getElem hk)
  refine⟨u,?_,by rw [List.getD_eq_getElem?_getD,List.getElem?_eq_getElem hk];exact hu2⟩
  have h2:((l.drop o).take (logs.length*1))[k]?=vs[k]?:=by rw [hy]
  rw [List.getElem?_take,if_pos (by omega),List.getElem?_drop,hu1] at h2
  exact h2
 have h256:∀ k,k<logs.length→(logs.getD k []).length=256:=fun k hk=>by
  rw [List.getD_eq_getElem?_getD,List.getElem?_eq_getElem hk];exact hb _ (List.getElem_mem hk)
 obtain⟨u0,hu0,hr0⟩:=hat 0 (by omega)
 have hx256:=h256 0 (by omega)
 have hpar:parseL p t logs=if getN (((logs.getD 0 []).drop 16).take 2)≤t∧mayB p t (entsL (logs.getD 0 []) logs (getN (((logs.getD 0 []).drop 16).take 2)))=true∧headB (getU (((logs.getD 0 []).drop 8).take 8)) (entsL (logs.getD 0 []) logs (getN (((logs.getD 0 []).drop 16).take 2)))=logs.getD 0 [] then some (getU (((logs.getD 0 []).drop 8).take 8),entsL (logs.getD 0 []) logs (getN (((logs.getD 0 []).drop 16).take 2))) else none:=rfl
 rw [hpar]
 clear hpar
 generalize hX:logs.getD 0 []=x at *
 have h0o:=hr0.one
 have hof:=Of_p u0 x (by omega)
 repeat' (first|(refine W.go ?_;try intro b_)|fail)
 refine W.call hck ?_
 rintro _ _ ⟨rfl,rfl⟩
 repeat' (first|(refine W.go ?_;try intro b_)|fail)
 refine W.call hcf ?_ (hpre:=fun w2 hs=>hw0.ro (Hc:=Ht) hs)
 rintro _ Ht ⟨rfl,rfl⟩
 repeat' (first|(refine W.go ?_;try intro b_)|fail)
 refine W.call hof ?_ (hpre:=fun w2 hs=>hr0.rd (Hc:=[]) hs)
 rintro _ H1 ⟨q,rfl,hQ⟩
 have hby:=Bytes_p hQ 8 (by omega) (by omega)
 repeat' (first|(refine W.go ?_;try intro b_)|fail)
 refine W.call hby ?_
 rintro _ _ ⟨H2,H2t,hQ2,hS2,rfl⟩
 have hs21:=hS2.isOne
 have hn1:=Num_p hQ2 8 (by decide) (by decide) (by rw [List.length_drop];omega) (by rw [List.length_drop];omega)
 repeat' (first|(refine W.go ?_;try intro b_)|fail)
 refine SL.callv H2 rfl rfl rfl rfl rfl rfl hn1 (fun _ _=>trivial) ?_
 rintro _ H3 ⟨rfl,hQ3⟩
 rw [List.drop_drop] at hQ3
 have hu:Value.int .u64 ((getN ((x.drop 8).take 8):Nat):Int)=u64v (getU ((x.drop 8).take 8)):=by unfold u64v;rw [getU_nat]
 rw [hu]
 clear hu
 generalize getU ((x.drop 8).take 8)=c at *
 have hb39:bfill (fun i=>[(0,1),(1,1)][i]?) [.int .u64 0,.slice none 0 0] [(0,u64v c)]=some [u64v c,.slice none 0 0]:=rfl
 have hn2:=Num_p hQ3 2 (by decide) (by decide) (by rw [List.length_drop];omega) (by rw [List.length_drop];omega)
 repeat' (first|(refine W.go ?_;try intro b_)|fail)
 refine SL.callv H3 rfl rfl rfl rfl rfl rfl hn2 (fun _ _=>trivial) ?_
 rintro _ H4 ⟨rfl,hQ4⟩
 rw [List.drop_drop] at hQ4
 have hnl:getN ((x.drop (8+8)).take 2)<65536:=getN_2 (by rw [List.length_take];omega)
 rw [show 8+8=16 from rfl] at hnl ⊢
 generalize getN ((x.drop 16).take 2)=n at *
 haveI:Cv .i64 (n:Int) (n:Int):=⟨w64 (by omega)⟩
 repeat' (first|(refine W.gb ?_;try intro b_)|fail)
 generalize b_=b9 at *
 have hmn:min n t≤24:=by omega
 refine SW.cutH [1,2,4,9,10] ((b9,cl [u64v c,.slice none 0 0] 141)::H4) (fun _:Value×List Value×Hp×Hp=>[]) (fun y=>(b9,cl [u64v c,y.1] 141)::(y.2.2.1++y.2.2.2))
  (fun y=>Sl 315 2 y.1 (entsC y.2.1 (entsL x logs (min n t))) y.2.2.1∧RB y.2.2.2 y.2.1 ((entsL x logs (min n t)).map Prod.snd)) ?_ ?_
 ·repeat' (first|(refine W.go ?_;try intro b_)|fail)
  refine SW.loopF [1,2,4,8,9,10] (fun y:Nat×Hp×Value×List Value×Hp×Hp=>[(11,.int .i64 (y.1:Int))]) (fun y=>(b9,cl [u64v c,y.2.2.1] 141)::(y.2.1++(y.2.2.2.2.1++y.2.2.2.2.2))) (fun y=>min n t-y.1)
   (fun y=>(y.1≤min n t∧RowP q (x.drop (18+2*y.1)) y.2.1)∧Sl 315 2 y.2.2.1 (entsC y.2.2.2.1 (entsL x logs y.1)) y.2.2.2.2.1∧RB y.2.2.2.2.2 y.2.2.2.1 ((entsL x logs y.1).map Prod.snd)) (0,H4,.slice none 0 0,[],[],[]) ⟨⟨Nat.zero_le _,hQ4⟩,Sl.nil _ _,RB.nil _⟩ ?_
  rintro⟨k,Hq,ev,us,He,Hb⟩ ⟨⟨hk,hQk⟩,hSe,hRb⟩
  dsimp only at hk hQk hSe hRb ⊢
  have hSe1:=hSe.isOne
  have husl:us.length=(entsL x logs k).length:=by rw [hRb.1,List.length_map]
  by_cases hkn:k<n
  ·by_cases hkt:k<t
   ·obtain⟨u,hu,hru⟩:=hat (1+k) (by omega)
    have hul:=h256 (1+k) (by omega)
    have huo:=hru.one
    have hnm:=Num_p hQk 2 (by decide) (by decide) (by rw [List.length_drop];omega) (by rw [List.length_drop];omega)
    rw [List.drop_drop,show 18+2*k+2=18+2*(k+1) by omega] at hnm
    have hK:getN ((x.drop (18+2*k)).take 2)<65536:=getN_2 (by rw [List.length_take];omega)
    have hes:=entsL_succ x logs k
    have hel:=entsL_len x logs k
    generalize getN ((x.drop (18+2*k)).take 2)=K at *
    generalize logs.getD (1+k) []=d at *
    haveI:Cv .i64 (K:Int) (K:Int):=⟨w64 (by omega)⟩
    haveI:NatI (1+(k:Int)) (1+k):=⟨by omega⟩
    repeat' (first|(refine W.go ?_;try intro b_)|fail)
    (refine SW.regionS [13,15] ?_ (by kernel_rfl);refine SS.T 0 rfl ?_;(first|refine SS.ls 1 [13,15] rfl ?_|refine SS.sR 1 rfl ?_);refine SS.T 2 rfl ?_;refine SS.T 5 rfl ?_;refine SS.T 6 rfl ?_;refine SS.T 7 rfl ?_;refine SS.T 8 rfl ?_;(first|refine SS.ls 9 [10,13,15] rfl ?_|refine SS.sR 9 rfl ?_);refine SS.effK 3 ?_ rfl (by kernel_rfl))
    refine SL.callv Hq rfl rfl rfl rfl rfl rfl hnm (fun _ _=>trivial) ?_
    rintro _ Hq2 ⟨rfl,hQ5⟩
    (refine SL.nilB ?_;refine SS.T 4 rfl ?_;refine SS.effK 10 ?_ rfl (by kernel_rfl))
    refine W.call (Clone_p u d (by omega)) ?_ (hpre:=fun w2 hs=>hru.rd (Hc:=[]) hs)
    intro v3 H5 h5
    have h51:=h5.isOne
    obtain⟨a3,l3,c3,rfl,-⟩:=h5.form
    have hb65:bfill (fun i=>[(0,1),(1,1)][i]?) [.int .i64 0,.slice none 0 0] [(0,.int .i64 (K:Int)),(1,.slice a3 l3 c3)]=some [.int .i64 (K:Int),.slice a3 l3 c3]:=rfl
    have hb66:bfill (fun i=>some (i*2,2)) (zs [.int .i64 0,.slice none 0 0] 1) [(0,.agg [(.int .i64 (K:Int):Value),.slice a3 l3 c3].toArray)]=some [.int .i64 (K:Int),.slice a3 l3 c3]:=rfl
    (refine SL.nilB ?_;refine SS.T 11 rfl ?_;refine SS.effK 12 ?_ rfl (by kernel_rfl))
    refine W.bsl (fun b6=>?_) (hr:=hb66)
    (refine SL.nilB ?_;refine SS.effB 13 ?_ rfl (by kernel_rfl))
    refine W.ap hSe (ys:=[.int .i64 (K:Int),.slice a3 l3 c3]) (mm:=1) (fun w2 hs=>(Sl.own 315 2 b6 (xs:=[.int .i64 (K:Int),.slice a3 l3 c3]) rfl).srcAt hs inferInstance) (fun v7 H7 h7=>?_) (hys:=rfl) (hbytes:=by rw [entsC_len _ _ husl,hel];simp;omega)
    have h71:=h7.isOne
    rw [← entsC_snoc husl (.slice a3 l3 c3) ((K:Int),d),← hes] at h7
    (refine SL.nilB ?_;refine SS.T 14 rfl ?_;refine SS.effB 15 ?_ rfl (by kernel_rfl);(repeat' (first|(refine W.g1 ?_;try intro b_)|fail));refine SS.done ?_ (by kernel_rfl))
    repeat' (first|(refine W.go ?_;try intro b_)|fail)
    rw [show ([u64v c,ev]:List Value).set 1 v7=[u64v c,v7] from rfl]
    refine HandF.mk (k+1,Hq2,v7,us++[.slice a3 l3 c3],H7,H5++Hb) ?_
    refine⟨⟨by dsimp only;omega,hQ5⟩,h7,?_⟩
    dsimp only
    rw [hes,List.map_append]
    exact (hRb.mono fun x hx=>List.mem_append_right _ hx).snoc ((RdH.of h5).mono fun x hx=>List.mem_append_left _ hx)
   ·have hkm:k=min n t:=by omega
    rw [hkm] at hSe hRb
    repeat' (first|(refine W.go ?_;try intro b_)|fail)
    refine CutF.mk (ev,us,He,Hb) ?_
    exact⟨hSe,hRb⟩
  ·have hkm:k=min n t:=by omega
   rw [hkm] at hSe hRb
   repeat' (first|(refine W.go ?_;try intro b_)|fail)
   refine CutF.mk (ev,us,He,Hb) ?_
   exact⟨hSe,hRb⟩
 rintro⟨ev,us,He,Hb⟩ ⟨hSe,hRb⟩
 dsimp only at hSe hRb ⊢
 have hSe1:=hSe.isOne
 have hel:=entsL_len x logs (min n t)
 have husl:us.length=(entsL x logs (min n t)).length:=by rw [hRb.1,List.length_map]
 have hLE:=hRb.le
 obtain⟨ea,el,ec,rfl,hell⟩:=hSe.form
 rw [entsC_len _ _ husl,hel] at hell
 obtain rfl:el=min n t:=by omega
 have hnone:ParsP none (.tuple #[.agg #[.int .u64 0,.slice none 0 0],.int .i64 4]) []:=⟨rfl,rfl⟩
 have hl2:([u64v c,.slice ea (min n t) ec]:List Value).length=2:=rfl
 by_cases hnt:n≤t
 ·rw [show min n t=n by omega] at *
  have hmy:=lMay_p h c (.slice ea n ec) us _ hLE (by rw [hel];omega)
  have hhd:=head_p c (.slice ea n ec) us _ hLE (by rw [hel];omega)
  have hhl:=headB_len c (entsL x logs n)
  by_cases hm:mayB p t (entsL x logs n)=true
  ·rw [hm] at hmy
   by_cases he:headB c (entsL x logs n)=x
   ·rw [if_pos ⟨hnt,hm,he⟩]
    repeat' (first|(refine W.go ?_;try intro b_)|fail)
    (refine SW.regionS [] ?_ (by kernel_rfl);refine SS.T 0 rfl ?_;refine SS.T 1 rfl ?_;(first|refine SS.ls 2 [] rfl ?_|refine SS.sR 2 rfl ?_);refine SS.T 3 rfl ?_;refine SS.T 4 rfl ?_;refine SS.T 5 rfl ?_;(first|refine SS.sk 6 rfl ?_|refine SS.lw 6 [] rfl ?_|refine SS.la 6 [] rfl ?_|refine SS.aR 6 rfl ?_);(first|refine SS.sk 7 rfl ?_|refine SS.lw 7 [] rfl ?_|refine SS.la 7 [] rfl ?_|refine SS.aR 7 rfl ?_);(first|refine SS.sk 8 rfl ?_;(first|refine SS.sk 9 rfl ?_|refine SS.T 9 rfl ?_);refine SS.T 10 rfl ?_;refine SS.T 11 rfl ?_;(first|refine SS.sk 12 rfl ?_|refine SS.lw 12 [] rfl ?_|refine SS.la 12 [] rfl ?_|refine SS.aR 12 rfl ?_);(first|refine SS.sk 14 rfl ?_|refine SS.T 14 rfl ?_);(first|refine SS.sk 15 rfl ?_|refine SS.T 15 rfl ?_);(first|refine SS.sk 16 rfl ?_|refine SS.ls 16 [] rfl ?_|refine SS.sR 16 rfl ?_);(first|refine SS.sk 13 rfl ?_;(first|refine SS.sk 17 rfl ?_;(first|refine SS.sk 18 rfl ?_|refine SS.T 18 rfl ?_);refine SS.T 19 rfl ?_;refine SS.done ?_ (by kernel_rfl)|refine SS.effK 17 ?_ rfl (by kernel_rfl))|refine SS.effK 13 ?_ rfl (by kernel_rfl))|refine SS.effK 8 ?_ rfl (by kernel_rfl)))
    refine W.call hmy ?_ (hpre:=fun w2 hs=>Rd.own (Hc:=[]) hSe hs inferInstance)
    rintro _ _ ⟨rfl,rfl⟩
    (refine SL.nilB ?_;(first|refine SS.sk 9 rfl ?_|refine SS.T 9 rfl ?_);refine SS.T 10 rfl ?_;refine SS.T 11 rfl ?_;(first|refine SS.sk 12 rfl ?_|refine SS.lw 12 [] rfl ?_|refine SS.la 12 [] rfl ?_|refine SS.aR 12 rfl ?_);(first|refine SS.sk 14 rfl ?_|refine SS.T 14 rfl ?_);(first|refine SS.sk 15 rfl ?_|refine SS.T 15 rfl ?_);(first|refine SS.sk 16 rfl ?_|refine SS.ls 16 [] rfl ?_|refine SS.sR 16 rfl ?_);(first|refine SS.sk 13 rfl ?_;(first|refine SS.sk 17 rfl ?_;(first|refine SS.sk 18 rfl ?_|refine SS.T 18 rfl ?_);refine SS.T 19 rfl ?_;refine SS.done ?_ (by kernel_rfl)|refine SS.effK 17 ?_ rfl (by kernel_rfl))|refine SS.effK 13 ?_ rfl (by kernel_rfl)))
    refine W.call hhd ?_ (hpre:=fun w2 hs=>Rd.own (Hc:=[]) hSe hs inferInstance)
    rintro _ _ ⟨b8,rfl,rfl⟩
    (refine SL.nilB ?_;(first|refine SS.sk 17 rfl ?_;(first|refine SS.sk 18 rfl ?_|refine SS.T 18 rfl ?_);refine SS.T 19 rfl ?_;refine SS.done ?_ (by kernel_rfl)|refine SS.effK 17 ?_ rfl (by kernel_rfl)))
    refine W.call (Equal_p _ _ (headB c (entsL x logs n)) x) ?_ (hpre:=fun w2 hs=>⟨Rd.my (Hc:=[]) (T:=5) b8 _ hs hhl,hr0.rd (Hc:=[]) hs⟩)
    rintro _ _ ⟨rfl,rfl⟩
    rw [decide_eq_true he]
    (refine SL.nilB ?_;(first|refine SS.sk 18 rfl ?_|refine SS.T 18 rfl ?_);refine SS.T 19 rfl ?_;refine SS.done ?_ (by kernel_rfl))
    repeat' (first|(refine W.go ?_;try intro b_)|fail)
    refine F.cHt ((He++Hb)++Ht) [u64v c,.slice ea n ec] ?_
    exact⟨He++Hb,⟨_,us,He,Hb,rfl,hSe,hRb,rfl⟩,rfl⟩
   ·rw [if_neg (fun hc=>he hc.2.2)]
    repeat' (first|(refine W.go ?_;try intro b_)|fail)
    (refine SW.regionS [] ?_ (by kernel_rfl);refine SS.T 0 rfl ?_;refine SS.T 1 rfl ?_;(first|refine SS.ls 2 [] rfl ?_|refine SS.sR 2 rfl ?_);refine SS.T 3 rfl ?_;refine SS.T 4 rfl ?_;refine SS.T 5 rfl ?_;(first|refine SS.sk 6 rfl ?_|refine SS.lw 6 [] rfl ?_|refine SS.la 6 [] rfl ?_|refine SS.aR 6 rfl ?_);(first|refine SS.sk 7 rfl ?_|refine SS.lw 7 [] rfl ?_|refine SS.la 7 [] rfl ?_|refine SS.aR 7 rfl ?_);(first|refine SS.sk 8 rfl ?_;(first|refine SS.sk 9 rfl ?_|refine SS.T 9 rfl ?_);refine SS.T 10 rfl ?_;refine SS.T 11 rfl ?_;(first|refine SS.sk 12 rfl ?_|refine SS.lw 12 [] rfl ?_|refine SS.la 12 [] rfl ?_|refine SS.aR 12 rfl ?_);(first|refine SS.sk 14 rfl ?_|refine SS.T 14 rfl ?_);(first|refine SS.sk 15 rfl ?_|refine SS.T 15 rfl ?_);(first|refine SS.sk 16 rfl ?_|refine SS.ls 16 [] rfl ?_|refine SS.sR 16 rfl ?_);(first|refine SS.sk 13 rfl ?_;(first|refine SS.sk 17 rfl ?_;(first|refine SS.sk 18 rfl ?_|refine SS.T 18 rfl ?_);refine SS.T 19 rfl ?_;refine SS.done ?_ (by kernel_rfl)|refine SS.effK 17 ?_ rfl (by kernel_rfl))|refine SS.effK 13 ?_ rfl (by kernel_rfl))|refine SS.effK 8 ?_ rfl (by kernel_rfl)))
    refine W.call hmy ?_ (hpre:=fun w2 hs=>Rd.own (Hc:=[]) hSe hs inferInstance)
    rintro _ _ ⟨rfl,rfl⟩
    (refine SL.nilB ?_;(first|refine SS.sk 9 rfl ?_|refine SS.T 9 rfl ?_);refine SS.T 10 rfl ?_;refine SS.T 11 rfl ?_;(first|refine SS.sk 12 rfl ?_|refine SS.lw 12 [] rfl ?_|refine SS.la 12 [] rfl ?_|refine SS.aR 12 rfl ?_);(first|refine SS.sk 14 rfl ?_|refine SS.T 14 rfl ?_);(first|refine SS.sk 15 rfl ?_|refine SS.T 15 rfl ?_);(first|refine SS.sk 16 rfl ?_|refine SS.ls 16 [] rfl ?_|refine SS.sR 16 rfl ?_);(first|refine SS.sk 13 rfl ?_;(first|refine SS.sk 17 rfl ?_;(first|refine SS.sk 18 rfl ?_|refine SS.T 18 rfl ?_);refine SS.T 19 rfl ?_;refine SS.done ?_ (by kernel_rfl)|refine SS.effK 17 ?_ rfl (by kernel_rfl))|refine SS.effK 13 ?_ rfl (by kernel_rfl)))
    refine W.call hhd ?_ (hpre:=fun w2 hs=>Rd.own (Hc:=[]) hSe hs inferInstance)
    rintro _ _ ⟨b8,rfl,rfl⟩
    (refine SL.nilB ?_;(first|refine SS.sk 17 rfl ?_;(first|refine SS.sk 18 rfl ?_|refine SS.T 18 rfl ?_);refine SS.T 19 rfl ?_;refine SS.done ?_ (by kernel_rfl)|refine SS.effK 17 ?_ rfl (by kernel_rfl)))
    refine W.call (Equal_p _ _ (headB c (entsL x logs n)) x) ?_ (hpre:=fun w2 hs=>⟨Rd.my (Hc:=[]) (T:=5) b8 _ hs hhl,hr0.rd (Hc:=[]) hs⟩)
    rintro _ _ ⟨rfl,rfl⟩
    rw [decide_eq_false he]
    (refine SL.nilB ?_;(first|refine SS.sk 18 rfl ?_|refine SS.T 18 rfl ?_);refine SS.T 19 rfl ?_;refine SS.done ?_ (by kernel_rfl))
    repeat' (first|(refine W.go ?_;try intro b_)|fail)
    refine F.cHt Ht [.int .u64 0,.slice none 0 0] ?_
    exact⟨[],hnone,rfl⟩
  ·rw [if_neg (fun hc=>hm hc.2.1)]
   rw [show mayB p t (entsL x logs n)=false by simpa using hm] at hmy
   repeat' (first|(refine W.go ?_;try intro b_)|fail)
   (refine SW.regionS [] ?_ (by kernel_rfl);refine SS.T 0 rfl ?_;refine SS.T 1 rfl ?_;(first|refine SS.ls 2 [] rfl ?_|refine SS.sR 2 rfl ?_);refine SS.T 3 rfl ?_;refine SS.T 4 rfl ?_;refine SS.T 5 rfl ?_;(first|refine SS.sk 6 rfl ?_|refine SS.lw 6 [] rfl ?_|refine SS.la 6 [] rfl ?_|refine SS.aR 6 rfl ?_);(first|refine SS.sk 7 rfl ?_|refine SS.lw 7 [] rfl ?_|refine SS.la 7 [] rfl ?_|refine SS.aR 7 rfl ?_);(first|refine SS.sk 8 rfl ?_;(first|refine SS.sk 9 rfl ?_|refine SS.T 9 rfl ?_);refine SS.T 10 rfl ?_;refine SS.T 11 rfl ?_;(first|refine SS.sk 12 rfl ?_|refine SS.lw 12 [] rfl ?_|refine SS.la 12 [] rfl ?_|refine SS.aR 12 rfl ?_);(first|refine SS.sk 14 rfl ?_|refine SS.T 14 rfl ?_);(first|refine SS.sk 15 rfl ?_|refine SS.T 15 rfl ?_);(first|refine SS.sk 16 rfl ?_|refine SS.ls 16 [] rfl ?_|refine SS.sR 16 rfl ?_);(first|refine SS.sk 13 rfl ?_;(first|refine SS.sk 17 rfl ?_;(first|refine SS.sk 18 rfl ?_|refine SS.T 18 rfl ?_);refine SS.T 19 rfl ?_;refine SS.done ?_ (by kernel_rfl)|refine SS.effK 17 ?_ rfl (by kernel_rfl))|refine SS.effK 13 ?_ rfl (by kernel_rfl))|refine SS.effK 8 ?_ rfl (by kernel_rfl)))
   refine W.call hmy ?_ (hpre:=fun w2 hs=>Rd.own (Hc:=[]) hSe hs inferInstance)
   rintro _ _ ⟨rfl,rfl⟩
   (refine SL.nilB ?_;(first|refine SS.sk 9 rfl ?_|refine SS.T 9 rfl ?_);refine SS.T 10 rfl ?_;refine SS.T 11 rfl ?_;(first|refine SS.sk 12 rfl ?_|refine SS.lw 12 [] rfl ?_|refine SS.la 12 [] rfl ?_|refine SS.aR 12 rfl ?_);(first|refine SS.sk 14 rfl ?_|refine SS.T 14 rfl ?_);(first|refine SS.sk 15 rfl ?_|refine SS.T 15 rfl ?_);(first|refine SS.sk 16 rfl ?_|refine SS.ls 16 [] rfl ?_|refine SS.sR 16 rfl ?_);(first|refine SS.sk 13 rfl ?_;(first|refine SS.sk 17 rfl ?_;(first|refine SS.sk 18 rfl ?_|refine SS.T 18 rfl ?_);refine SS.T 19 rfl ?_;refine SS.done ?_ (by kernel_rfl)|refine SS.effK 17 ?_ rfl (by kernel_rfl))|refine SS.effK 13 ?_ rfl (by kernel_rfl)))
   repeat' (first|(refine W.go ?_;try intro b_)|fail)
   refine F.cHt Ht [.int .u64 0,.slice none 0 0] ?_
   exact⟨[],hnone,rfl⟩
 ·rw [if_neg (fun hc=>hnt hc.1)]
  repeat' (first|(refine W.go ?_;try intro b_)|fail)
  (refine SW.regionS [] ?_ (by kernel_rfl);refine SS.T 0 rfl ?_;refine SS.T 1 rfl ?_;(first|refine SS.ls 2 [] rfl ?_|refine SS.sR 2 rfl ?_);refine SS.T 3 rfl ?_;refine SS.T 4 rfl ?_;refine SS.T 5 rfl ?_;(first|refine SS.sk 6 rfl ?_|refine SS.lw 6 [] rfl ?_|refine SS.la 6 [] rfl ?_|refine SS.aR 6 rfl ?_);(first|refine SS.sk 7 rfl ?_|refine SS.lw 7 [] rfl ?_|refine SS.la 7 [] rfl ?_|refine SS.aR 7 rfl ?_);(first|refine SS.sk 8 rfl ?_;(first|refine SS.sk 9 rfl ?_|refine SS.T 9 rfl ?_);refine SS.T 10 rfl ?_;refine SS.T 11 rfl ?_;(first|refine SS.sk 12 rfl ?_|refine SS.lw 12 [] rfl ?_|refine SS.la 12 [] rfl ?_|refine SS.aR 12 rfl ?_);(first|refine SS.sk 14 rfl ?_|refine SS.T 14 rfl ?_);(first|refine SS.sk 15 rfl ?_|refine SS.T 15 rfl ?_);(first|refine SS.sk 16 rfl ?_|refine SS.ls 16 [] rfl ?_|refine SS.sR 16 rfl ?_);(first|refine SS.sk 13 rfl ?_;(first|refine SS.sk 17 rfl ?_;(first|refine SS.sk 18 rfl ?_|refine SS.T 18 rfl ?_);refine SS.T 19 rfl ?_;refine SS.done ?_ (by kernel_rfl)|refine SS.effK 17 ?_ rfl (by kernel_rfl))|refine SS.effK 13 ?_ rfl (by kernel_rfl))|refine SS.effK 8 ?_ rfl (by kernel_rfl)))
  repeat' (first|(refine W.go ?_;try intro b_)|fail)
  refine F.cHt Ht [.int .u64 0,.slice none 0 0] ?_
  exact⟨[],hnone,rfl⟩
end Go.Proofs.YtnigolgkkjidiaaGreat
