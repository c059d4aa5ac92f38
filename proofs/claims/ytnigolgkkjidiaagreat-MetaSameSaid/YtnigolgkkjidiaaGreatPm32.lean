/- What stands on a device: it is redone by its log. -/
import Derived.Test.YtnigolgkkjidiaaGreatPm31
import Derived.Test.YtnigolgkkjidiaaGreatPm28
set_option linter.unusedVariables false
set_option linter.unusedSimpArgs false
set_option linter.unusedSectionVars false
set_option maxHeartbeats 4000000
namespace Go.Proofs.YtnigolgkkjidiaaGreat
open Go
attribute [local irreducible] SW SL SQ SH SA SS Pu Fin CutF HandF
def logR(p t:Nat)(r:Rg)(logs:List (List UInt8)):Option (UInt64×List Ent):=match parseL p t logs with
 | some x=>if (x.1.toNat:Int)=r.c then some x else none
 | none=>none
theorem parse_may{p t:Nat}{logs:List (List UInt8)}{x:UInt64×List Ent}(h:parseL p t logs=some x):mayB p t x.2=true:=by
 unfold parseL at h
 dsimp only at h
 split at h
 ·rename_i hc
  cases h
  exact hc.2.1
 ·cases h
theorem redoS_len(p:Nat)(l:List Ent):∀ m:List (List UInt8),(redoS p m l).length=m.length:=by
 unfold redoS
 induction l with
 | nil=>intro m;rfl
 | cons x l ih=>intro m;rw [List.foldl_cons,ih,List.length_set]
theorem redoT_len(es:List UInt64)(ts:List Nat):∀ m:List (List UInt8),(redoT es m ts).length=m.length:=by
 unfold redoT
 induction ts with
 | nil=>intro m;rfl
 | cons x l ih=>intro m;rw [List.foldl_cons,ih,List.length_set]
theorem redoS_snoc(p:Nat)(m:List (List UInt8))(l:List Ent)(x:Ent):redoS p m (l++[x])=(redoS p m l).set (1+Gm.epochs p+x.1.toNat) x.2:=by unfold redoS;rw [List.foldl_append];rfl
theorem redoE_snoc(c:UInt64)(es:List UInt64)(l:List Ent)(x:Ent):redoE c es (l++[x])=(redoE c es l).set x.1.toNat c:=by unfold redoE;rw [List.foldl_append];rfl
theorem redoT_snoc(es:List UInt64)(m:List (List UInt8))(ts:List Nat)(t:Nat):redoT es m (ts++[t])=(redoT es m ts).set (1+t) (epB t es):=by unfold redoT;rw [List.foldl_append];rfl
theorem tabs_lt{p t:Nat}{l:List Ent}(hm:mayB p t l=true):∀ k∈tabs l,k<Gm.epochs p:=by
 have hall:∀ x∈l,x.1.toNat/32<Gm.epochs p:=fun x hx=>by
  obtain⟨i,hi⟩:=List.mem_iff_getElem?.1 hx
  unfold mayB at hm
  rw [Bool.and_eq_true] at hm
  obtain⟨h1,h2,-⟩:=mayL_all hm.2 i x hi
  unfold Gm.epochs Gm.up
  omega
 have key:∀ (l:List Ent) (o:List Nat),(∀ x∈l,x.1.toNat/32<Gm.epochs p)→(∀ k∈o,k<Gm.epochs p)→∀ k∈l.foldl addT o,k<Gm.epochs p:=fun l=>by
  induction l with
  | nil=>intro o _ ho;exact ho
  | cons x l ih=>
   intro o hl ho
   rw [List.foldl_cons]
   refine ih _ (fun y hy=>hl y (List.mem_cons_of_mem _ hy)) fun k hk=>?_
   unfold addT at hk
   split at hk
   ·exact ho k hk
   ·rcases List.mem_append.1 hk with h|h
    ·exact ho k h
    ·rw [List.mem_singleton] at h;rw [h];exact hl x (List.mem_cons_self ..)
 exact key l [] hall (by simp)
theorem uv_set(es:List UInt64)(k:Nat)(c:UInt64):(uv es).set k (u64v c)=uv (es.set k c):=List.map_set.symm
theorem set_app{vs junk:List Value}{i:Nat}(h:i<vs.length)(u:Value):(vs++junk).set i u=vs.set i u++junk:=List.set_append_left _ _ h
theorem epsB_len(p:Nat)(l:List (List UInt8)):(epsB p l).length=Gm.sealed p:=by unfold epsB;simp
theorem ent_row{us:List Value}{l:List Ent}{junk:List Value}(h:us.length=l.length){k:Nat}{x:Ent}{u:Value}(hu:us[k]?=some u)(hx:l[k]?=some x):(((entsC us l++junk).drop (k*2)).take 2)=[.int .i64 x.1,u]:=by
 have hkl:=(List.getElem?_eq_some_iff.1 hx).1
 have hle:=entsC_len us l h
 rw [List.drop_append_of_le_length (by omega),List.take_append_of_le_length (by rw [List.length_drop];omega)]
 exact entsC_at hu hx
theorem redo_p{dt fp d tr s bk tb p t:Nat}(h:Gm.Ok p t){kind cnt:Int}{bv lv Lv ev tv:Value}{bss logs:List (List UInt8)}{β:Bk}{r:Rg}(hr:r.Ok){Hk Hb Hl:Hp}(hK:BookP bk tb β Hk)(hB:Bls bv bss Hb)(hL:Bls lv logs Hl)(o2:One Lv)(o3:One ev)(o4:One tv)(hn:bss.length=Gm.leaves p)(hb:∀ b∈bss,b.length=256)(hln:logs.length=1+t)(hlb:∀ b∈logs,b.length=256) :
  Tri Tryz.prog 121 [ptv fp] ((fp,cl (foundC d tr s bk p t kind bv lv cnt Lv ev tv) 145)::(tr,cl (trc dt r) 225)::(Hk++(Hb++Hl))) (fun _=>True)
  (fun v H=>∃ bv' cnt' Lv' Hk' Hb',One Lv'∧H=(fp,cl (foundC d tr s bk p t kind bv' lv cnt' Lv' ev tv) 145)::(tr,cl (trc dt r) 225)::(Hk'++(Hb'++Hl)) ∧
   match logR p t r logs with
   | none=>v=.bool false∧Bls bv' bss Hb'∧BookP bk tb β Hk'
   | some x=>v=.bool true∧Bls bv' (redoB p x.1 x.2 bss) Hb'∧BookP bk tb (plantK β bss) Hk'):=by
 have hbo:=hB.one
 have hlo:=hL.one
 have hB0:=hB
 have hll:=Gm.leaves_le h
 have hsl:=Gm.sealed_le h
 have hel:=Gm.epochs_le h
 have hLe:Gm.leaves p=1+Gm.epochs p+Gm.sealed p:=rfl
 have ht:=h.2.2.2
 have hrd:=read_p tr dt r hr
 obtain⟨lvs,Hlv,Hlt,hSl,hRl,rfl⟩:=hL
 have hpa:=fun v=>Parse_p h v lvs logs hRl hln hlb
 obtain⟨la,ll,lc,rfl,-⟩:=hSl.form
 refine Tri.mk Tryz.func121 rfl Tryz.ntmps121 rfl fun w hw=>?_
 have hl3:(foundC d tr s bk p t kind bv (.slice la ll lc) cnt Lv ev tv).length=13:=rfl
 have hq0:(rgc r)[0]?=some (.int .u64 r.c):=rfl
 unfold logR
 refine SW.seq ?_
 refine SW.region ?_
 repeat' (first|(refine W.g1 ?_;try intro b_)|fail)
 refine SW.seq ?_
 refine SW.cutH [0] [] (fun x:Nat×List Value×Int×Hp=>[(3,ptv x.1),(4,.int .i64 x.2.2.1)]) (fun x=>(x.1,cl x.2.1 141)::x.2.2.2)
  (fun x=>(parseL p t logs=none∧x.2.2.1=4∧x.2.1=[.int .u64 0,.slice none 0 0])∨(∃ y ev us He Hb,parseL p t logs=some y∧x.2.2.1=0∧x.2.1=[u64v y.1,ev]∧Sl 315 2 ev (entsC us y.2) He∧RB Hb us (y.2.map Prod.snd)∧x.2.2.2=He++Hb)) ?_ ?_
 ·cases hpl:parseL p t logs with
  | none=>
   rw [hpl] at hpa
   (refine SW.rg [] [0,1,2,3,4,5,6,7,8] ?_;(repeat' (first|refine SG.g ?_|fail));skip )
   refine SS.twoK 9 13 ?_ ?_ rfl rfl
   case' refine_1=>
    refine W.call (hpa _) ?_ (hpre:=fun w2 hs=>Rd.own (Hc:=Hlt) hSl hs inferInstance)
    rintro _ _ ⟨Hn,⟨rfl,rfl⟩,rfl⟩
    refine SL.nilB ?_
    refine SS.tw 10 rfl (p_move rfl rfl) ?_
    refine SS.tw 11 rfl (p_ext rfl rfl rfl) ?_
    refine SS.tw 12 rfl (p_ext rfl rfl rfl) ?_
    refine SS.effK 13 ?_ rfl (by kernel_rfl)
    refine W.al fun b3=>?_
    refine SL.nilB ?_
   case' refine_2=>
    refine W.al fun b3=>?_
    refine SL.nilB ?_
    refine SS.effK 9 ?_ rfl (by kernel_rfl)
    refine W.call (hpa _) ?_ (hpre:=fun w2 hs=>Rd.own (Hc:=Hlt) hSl hs inferInstance)
    rintro _ _ ⟨Hn,⟨rfl,rfl⟩,rfl⟩
    refine SL.nilB ?_
    refine SS.tw 10 rfl (p_move rfl rfl) ?_
    refine SS.tw 11 rfl (p_ext rfl rfl rfl) ?_
    refine SS.tw 12 rfl (p_ext rfl rfl rfl) ?_
   all_goals
    refine SS.effK 14 ?_ rfl (by kernel_rfl)
    repeat' (first|(refine W.g1 ?_;try intro b_)|fail)
    refine SS.tw 15 rfl (p_assign rfl rfl) ?_
    refine SS.done ?_ (by kernel_rfl)
    refine CutF.mk (b3,[.int .u64 0,.slice none 0 0],4,[]) ?_
    exact .inl ⟨rfl,rfl,rfl⟩
  | some y=>
   rw [hpl] at hpa
   (refine SW.rg [] [0,1,2,3,4,5,6,7,8] ?_;(repeat' (first|refine SG.g ?_|fail));skip )
   refine SS.twoK 9 13 ?_ ?_ rfl rfl
   case' refine_1=>
    refine W.call (hpa _) ?_ (hpre:=fun w2 hs=>Rd.own (Hc:=Hlt) hSl hs inferInstance)
    rintro _ _ ⟨Hn,⟨ev2,us,He,Hbe,rfl,hSe,hRe,rfl⟩,rfl⟩
    have hSe1:=hSe.isOne
    refine SL.nilB ?_
    refine SS.tw 10 rfl (p_move rfl rfl) ?_
    refine SS.tw 11 rfl (p_ext rfl rfl rfl) ?_
    refine SS.tw 12 rfl (p_ext rfl rfl rfl) ?_
    refine SS.effK 13 ?_ rfl (by kernel_rfl)
    refine W.al fun b3=>?_
    refine SL.nilB ?_
   case' refine_2=>
    refine W.al fun b3=>?_
    refine SL.nilB ?_
    refine SS.effK 9 ?_ rfl (by kernel_rfl)
    refine W.call (hpa _) ?_ (hpre:=fun w2 hs=>Rd.own (Hc:=Hlt) hSl hs inferInstance)
    rintro _ _ ⟨Hn,⟨ev2,us,He,Hbe,rfl,hSe,hRe,rfl⟩,rfl⟩
    have hSe1:=hSe.isOne
    refine SL.nilB ?_
    refine SS.tw 10 rfl (p_move rfl rfl) ?_
    refine SS.tw 11 rfl (p_ext rfl rfl rfl) ?_
    refine SS.tw 12 rfl (p_ext rfl rfl rfl) ?_
   all_goals
    refine SS.effK 14 ?_ rfl (by kernel_rfl)
    repeat' (first|(refine W.g1 ?_;try intro b_)|fail)
    refine SS.tw 15 rfl (p_assign rfl rfl) ?_
    refine SS.done ?_ (by kernel_rfl)
    refine CutF.mk (b3,[u64v y.1,ev2],0,He++Hbe) ?_
    exact .inr ⟨y,ev2,us,He,Hbe,rfl,rfl,rfl,hSe,hRe,rfl⟩
 rintro⟨b3,lc3,e3,Hn⟩ hP
 dsimp only at hP ⊢
 rcases hP with ⟨hpl,rfl,rfl⟩|⟨⟨c,es⟩,ev2,us,He,Hbe,hpl,rfl,rfl,hSe,hRe,rfl⟩
 ·rw [hpl]
  repeat' (first|(refine W.go ?_;try intro b_)|fail)
  (refine SW.rg [] [0,1,2,3,4,5,6,7,8,9] ?_;(repeat' (first|refine SG.g ?_|fail));(first|refine SS.sk 10 rfl ?_;refine SG.on [11,12,13,14] ?_;(repeat' (first|refine SG.g ?_|fail))|refine SS.effK 10 ?_ rfl (by kernel_rfl)))
  repeat' (first|(refine W.go ?_;try intro b_)|fail)
  refine Fin.to ((fp,cl (foundC d tr s bk p t kind bv (.slice la ll lc) cnt Lv ev tv) 145)::(tr,cl (trc dt r) 225)::(Hk++(Hb++(Hlv++Hlt)))) ?_
  exact F.f1 ⟨bv,cnt,Lv,Hk,Hb,o2,rfl,rfl,hB0,hK⟩
 have hSe1:=hSe.isOne
 have hmay:=parse_may hpl
 rw [hpl]
 dsimp only at hSe hRe hmay ⊢
 by_cases hc:¬ (c.toNat:Int)=r.c
 ·rw [if_neg hc]
  repeat' (first|(refine W.go ?_;try intro b_)|fail)
  (refine SW.rg [] [0,1,2,3,4,5,6,7,8,9] ?_;(repeat' (first|refine SG.g ?_|fail));(first|refine SS.sk 10 rfl ?_;refine SG.on [11,12,13,14] ?_;(repeat' (first|refine SG.g ?_|fail))|refine SS.effK 10 ?_ rfl (by kernel_rfl)))
  refine W.call hrd ?_
  rintro _ _ ⟨rfl,rfl⟩
  (refine SL.nilG [11,12,13,14] ?_;(repeat' (first|refine SG.g ?_|fail)))
  repeat' (first|(refine W.go ?_;try intro b_)|fail)
  refine Fin.to ((fp,cl (foundC d tr s bk p t kind bv (.slice la ll lc) cnt Lv ev tv) 145)::(tr,cl (trc dt r) 225)::(Hk++(Hb++(Hlv++Hlt)))) ?_
  exact F.f1 ⟨bv,cnt,Lv,Hk,Hb,o2,rfl,rfl,hB0,hK⟩
 have hc2:(c.toNat:Int)=r.c:=Decidable.not_not.1 hc
 rw [if_pos hc2]
 dsimp only
 repeat' (first|(refine W.go ?_;try intro b_)|fail)
 (refine SW.rg [] [0,1,2,3,4,5,6,7,8,9] ?_;(repeat' (first|refine SG.g ?_|fail));(first|refine SS.sk 10 rfl ?_;refine SG.on [11,12,13,14] ?_;(repeat' (first|refine SG.g ?_|fail))|refine SS.effK 10 ?_ rfl (by kernel_rfl)))
 refine W.call hrd ?_
 rintro _ _ ⟨rfl,rfl⟩
 (refine SL.nilG [11,12,13,14] ?_;(repeat' (first|refine SG.g ?_|fail)))
 repeat' (first|(refine W.go ?_;try intro b_)|fail)
 rw [show List.take 9 (foundC d tr s bk p t kind bv (.slice la ll lc) cnt Lv ev tv)++[u64v c,ev2]++List.drop (9+2) (foundC d tr s bk p t kind bv (.slice la ll lc) cnt Lv ev tv)=foundC d tr s bk p t kind bv (.slice la ll lc) (c.toNat:Int) ev2 ev tv from rfl]
 have hpt:=planted_p (fp:=fp) (d:=d) (tr:=tr) (s:=s) (kind:=kind) (cnt:=(c.toNat:Int)) (lv:=.slice la ll lc) (Lv:=ev2) (ev:=ev) (tv:=tv) h hK hB inferInstance hSe1 o3 o4 hn hb
 rw [epsB_eq bss hb (by omega)] at hpt
 refine W.call hpt ?_
 rintro _ _ ⟨tp,be,Htr,Hk2,rfl,rfl,-,hK2⟩
 clear hpt hpa hrd
 obtain⟨vs,Hv,Ht0,hS,hR,rfl⟩:=hB
 have hvl:=hR.1
 rcases hS with ⟨-,hz,-⟩|⟨bb,len,cap,junk,rfl,hxl,hj,hlc,rfl⟩
 ·rw [hz] at hvl;simp at hvl;omega
 have hesl:1≤es.length∧es.length≤t:=by unfold mayB at hmay;rw [Bool.and_eq_true,decide_eq_true_iff] at hmay;exact hmay.1
 have hmall:∀ (k:Nat) (x:Ent),es[k]?=some x → -1<x.1∧x.1<(Gm.sealed p:Nat)∧x.2.length=256:=by unfold mayB at hmay;rw [Bool.and_eq_true] at hmay;exact mayL_all hmay.2
 have htlt:=tabs_lt hmay
 have htle:=tabs_le es
 have hul:us.length=es.length:=by rw [hRe.1,List.length_map]
 have hoc:=hRe.oc
 have hebl:=epsB_len p bss
 have hSe0:=hSe
 have hel2:=entsC_len us es hul
 rcases hSe with ⟨-,hz,-⟩|⟨eb,elen,ecap,ejunk,rfl,hexl,hej,hec,rfl⟩
 ·rw [hz] at hel2;simp at hel2;omega
 obtain rfl:elen=es.length:=by omega
 obtain rfl:len=vs.length:=by omega
 have hredo:redoB p c es bss=redoT (redoE c (epsB p bss) es) (redoS p bss es) (tabs es):=rfl
 rw [hredo]
 clear hredo hB0 hmay hc hpl
 generalize epsB p bss=E0 at *
 repeat' (first|(refine W.gb ?_;try intro b_)|fail)
 refine SW.cutH [0,6] [(bb,cl (vs++junk) 50),(be,cl (uv E0) 28)] (fun _:List Value=>[]) (fun y=>[(bb,cl (y++junk) 50),(be,cl (uv (redoE c E0 es)) 28)]) (fun y=>RB (Ht0++Hbe) y (redoS p bss es)) ?_ ?_
 ·rw [show uv E0=uv (redoE c E0 (es.take 0)) from rfl]
  repeat' (first|(refine W.go ?_;try intro b_)|fail)
  refine SW.loopF [0,3,6,50,51] (fun y:Nat×List Value=>[(52,.int .i64 (y.1:Int))]) (fun y=>[(bb,cl (y.2++junk) 50),(be,cl (uv (redoE c E0 (es.take y.1))) 28)]) (fun y=>es.length-y.1) (fun y=>y.1≤es.length∧RB (Ht0++Hbe) y.2 (redoS p bss (es.take y.1))) (0,vs) ⟨Nat.zero_le _,hR.mono fun x hx=>List.mem_append_left _ hx⟩ ?_
  rintro⟨k,vs2⟩ ⟨hk,hR2⟩
  dsimp only at hk hR2 ⊢
  have hvl2:=hR2.1
  rw [redoS_len,hn] at hvl2
  have hoc2:=hR2.oc
  by_cases hkn:k<es.length
  ·have hx:=List.getElem?_eq_getElem hkn
   have htk:es.take (k+1)=es.take k++[es[k]]:=by rw [List.take_add_one,hx];rfl
   obtain⟨u,huk,hru⟩:=hRe.2 k es[k].2 (by rw [List.getElem?_map,hx];rfl)
   have hrow:=ent_row (junk:=ejunk) hul huk hx
   obtain⟨hx1,hx2,hx3⟩:=hmall k _ hx
   have hSs:=redoS_snoc p bss (es.take k) es[k]
   have hEs:=redoE_snoc c E0 (es.take k) es[k]
   rw [← htk] at hSs hEs
   have hEl:=redoE_len c (es.take k) E0
   have huo:=hru.one
   generalize es[k]=x at *
   obtain⟨K,hKK⟩:∃ K:Nat,x.1=(K:Int):=⟨x.1.toNat,by omega⟩
   rw [show x.1.toNat=K by omega] at hSs hEs
   rw [hKK] at hrow
   have hsa:=gsealedAt_p h (K:Int)
   rw [show Gm.atK (Gm.sealed p) (1+Gm.epochs p) (K:Int)=((1+Gm.epochs p+K:Nat):Int) by unfold Gm.atK;rw [if_pos (by omega)];omega] at hsa
   have hset:=set_app (vs:=vs2) (junk:=junk) (i:=1+Gm.epochs p+K) (by omega) u
   have hset2:=uv_set (redoE c E0 (es.take k)) K c
   rw [← hEs] at hset2
   have hlt1:1+Gm.epochs p+K<(vs2++junk).length:=by rw [List.length_append];omega
   have hlt2:K<(uv (redoE c E0 (es.take k))).length:=by rw [uv_len,hEl];omega
   repeat' (first|(refine W.go ?_;try intro b_)|fail)
   (refine SW.rg [] [0,1,2,3,4,5,6,7,8,9,10,12,13] ?_;(repeat' (first|refine SG.g ?_|fail));refine SS.effK 11 ?_ rfl (by kernel_rfl))
   refine W.call hsa ?_
   rintro _ _ ⟨rfl,rfl⟩
   (refine SL.nilG [14] ?_;(repeat' (first|refine SG.g ?_|fail));refine SS.effK 15 ?_ rfl (by kernel_rfl);(repeat' (first|(refine W.g1 ?_;try intro b_)|fail));refine SS.done ?_ (by kernel_rfl))
   rw [hset]
   repeat' (first|(refine W.go ?_;try intro b_)|fail)
   rw [hset2]
   refine HandF.mk (k+1,vs2.set (1+Gm.epochs p+K) u) ?_
   refine⟨hkn,?_⟩
   dsimp only
   rw [hSs]
   exact hR2.set (hru.mono fun x hx=>List.mem_append_right _ hx) _
  ·have hkl:k=es.length:=by omega
   rw [hkl,List.take_length] at hR2 ⊢
   subst hkl
   repeat' (first|(refine W.go ?_;try intro b_)|fail)
   refine CutF.mk vs2 ?_
   exact hR2
 rintro vs2 hR2
 have hEl:=redoE_len c es E0
 have hmt:=mtables_p (fp:=fp) (d:=d) (tr:=tr) (s:=s) (bk:=bk) (p:=p) (t:=t) (kind:=kind) (cnt:=(c.toNat:Int)) (bv:=.slice (some ⟨bb,0,none⟩) vs.length cap) (lv:=.slice la ll lc) (ev:=ev) (tv:=tv) us es hul hoc (fun x hx=>by
  obtain⟨i,hi⟩:=List.mem_iff_getElem?.1 hx
  have:=hmall i x hi
  omega) (by omega) hSe0 inferInstance inferInstance o3 o4
 have hvl2:=hR2.1
 rw [redoS_len,hn] at hvl2
 generalize redoE c E0 es=E1 at *
 generalize redoS p bss es=M1 at *
 repeat' (first|(refine W.go ?_;try intro b_)|fail)
 refine W.call hmt ?_
 rintro v79 _ ⟨Hn,hSt,rfl⟩
 have hSt1:=hSt.isOne
 obtain⟨ta,tl,tc2,rfl,htl⟩:=hSt.form
 rw [Nat.mul_one,List.length_map] at htl
 subst htl
 repeat' (first|(refine W.gb ?_;try intro b_)|fail)
 refine SW.cutH [] [(bb,cl (vs2++junk) 50)] (fun _:List Value×Hp=>[]) (fun y=>(bb,cl (y.1++junk) 50)::y.2) (fun y=>RB ((Ht0++Hbe)++y.2) y.1 (redoT E1 M1 (tabs es))) ?_ ?_
 ·repeat' (first|(refine W.go ?_;try intro b_)|fail)
  refine SW.loopF [0,6,79,80] (fun y:Nat×List Value×Hp=>[(81,.int .i64 (y.1:Int))]) (fun y=>(bb,cl (y.2.1++junk) 50)::y.2.2) (fun y=>(tabs es).length-y.1) (fun y=>y.1≤(tabs es).length∧RB ((Ht0++Hbe)++y.2.2) y.2.1 (redoT E1 M1 ((tabs es).take y.1))) (0,vs2,[]) ⟨Nat.zero_le _,by rw [List.append_nil];exact hR2⟩ ?_
  rintro⟨k,vs3,Hn3⟩ ⟨hk,hR3⟩
  dsimp only at hk hR3 ⊢
  have hvl3:=hR3.1
  rw [redoT_len] at hvl3
  have hM1:=hR2.1
  have hoc3:=hR3.oc
  by_cases hkn:k<(tabs es).length
  ·rcases hSt with ⟨hz,hz2,-⟩|⟨qb,qlen,qcap,qjunk,hz,hqxl,hqj,hqc,rfl⟩
   ·simp only [Value.slice.injEq] at hz;omega
   simp only [Value.slice.injEq] at hz
   obtain⟨rfl,rfl,rfl⟩:=hz
   have hx:=List.getElem?_eq_getElem hkn
   have hlu:(nv (tabs es)++qjunk)[k]?=some (.int .i64 (((tabs es)[k]:Nat):Int)):=by
    rw [List.getElem?_append_left (by rw [List.length_map];exact hkn),List.getElem?_map,hx];rfl
   have htk:(tabs es).take (k+1)=(tabs es).take k++[(tabs es)[k]]:=by rw [List.take_add_one,hx];rfl
   have hlt:=htlt _ (List.getElem_mem hkn)
   have hTs:=redoT_snoc E1 M1 ((tabs es).take k) (tabs es)[k]
   rw [← htk] at hTs
   generalize (tabs es)[k]=q at *
   have hsb:=sBlock_p h q hlt (.slice (some ⟨be,0,none⟩) (Gm.sealed p) (Gm.sealed p)) E1 (by omega)
   have hea:=gepochAt_p h (q:Int)
   rw [show Gm.atK (Gm.epochs p) 1 (q:Int)=((1+q:Nat):Int) by unfold Gm.atK;rw [if_pos (by omega)];omega] at hea
   have hlt1:1+q<(vs3++junk).length:=by rw [List.length_append];omega
   repeat' (first|(refine W.go ?_;try intro b_)|fail)
   refine W.call hsb ?_ (hpre:=fun w2 hs=>Rd.own (Hc:=[]) (Sl.own 28 1 be (len:=Gm.sealed p) (xs:=uv E1) (by rw [uv_len];omega)) hs inferInstance)
   rintro _ _ ⟨b5,rfl,rfl⟩
   have hset:=set_app (vs:=vs3) (junk:=junk) (i:=1+q) (by omega) (.slice (some ⟨b5,0,none⟩) 256 256)
   repeat' (first|(refine W.go ?_;try intro b_)|fail)
   (refine SW.rg [] [0,1,2,3,4,5,6,7,8,9,11] ?_;(repeat' (first|refine SG.g ?_|fail));refine SS.effK 10 ?_ rfl (by kernel_rfl))
   refine W.call hea ?_
   rintro _ _ ⟨rfl,rfl⟩
   (refine SL.nilG [12] ?_;(repeat' (first|refine SG.g ?_|fail));refine SS.effK 13 ?_ rfl (by kernel_rfl);(repeat' (first|(refine W.g1 ?_;try intro b_)|fail));refine SS.done ?_ (by kernel_rfl))
   rw [hset]
   repeat' (first|(refine W.go ?_;try intro b_)|fail)
   refine HandF.mk (k+1,vs3.set (1+q) (.slice (some ⟨b5,0,none⟩) 256 256),(b5,cl (cbs (epB q E1)) 5)::Hn3) ?_
   refine⟨hkn,?_⟩
   dsimp only
   rw [hTs]
   refine (hR3.mono fun x hx=>?_).set ((RdH.of (Sl.own 5 1 b5 (len:=256) (xs:=cbs (epB q E1)) (by rw [cbs_len,epB_len]))).mono fun x hx=>?_) _
   ·rcases List.mem_append.1 hx with h|h
    ·exact List.mem_append_left _ h
    ·exact List.mem_append_right _ (List.mem_cons_of_mem _ h)
   ·rw [List.mem_singleton] at hx
    subst hx
    exact List.mem_append_right _ (List.mem_cons_self ..)
  ·have hkl:k=(tabs es).length:=by omega
   rw [hkl,List.take_length] at hR3
   subst hkl
   repeat' (first|(refine W.go ?_;try intro b_)|fail)
   refine CutF.mk (vs3,Hn3) ?_
   exact hR3
 rintro⟨vs3,Hn3⟩ hR3
 dsimp only at hR3 ⊢
 have hvl3:=hR3.1
 rw [redoT_len,hR2.1.symm.trans hvl2] at hvl3
 repeat' (first|(refine W.go ?_;try intro b_)|fail)
 refine Fin.to ((fp,cl (foundC d tr s bk p t kind (.slice (some ⟨bb,0,none⟩) vs.length cap) (.slice la ll lc) (c.toNat:Int) (.slice (some ⟨eb,0,none⟩) es.length ecap) ev tv) 145)::(tr,cl (trc dt r) 225)::(Hk2++(([(bb,cl (vs3++junk) 50)]++((Ht0++Hbe)++Hn3))++(Hlv++Hlt)))) ?_
 refine F.f1 ⟨_,_,_,Hk2,_,inferInstance,rfl,rfl,⟨vs3,_,_,?_,hR3,rfl⟩,hK2⟩
 exact .inr ⟨bb,vs.length,cap,junk,rfl,by omega,hj,hlc,rfl⟩
def lastK(l:List Ent)(k:Nat):Int:=if k=0 then -1 else (l.getD (k-1) (0,[])).1
theorem rlMay_p{p t:Nat}(h:Gm.Ok p t)(c:UInt64)(v:Value)(us:List Value)(l:List Ent)(hL:LE us l)(hn:l.length≤1000000) :
  Tri Tryz.prog 282 [geoV p t,.agg #[u64v c,v]] [] (fun w=>Rd [] w 2 v (entsC us l)) (fun r H=>r=.bool (mayB p t l)∧H=[]):=by
 refine Tri.mk Tryz.func282 rfl Tryz.ntmps282 rfl fun w hw=>?_
 have hmy:=rgmay_p h
 have hse:=rgsealed_p h
 unfold entsC at hw
 obtain⟨a,ca,rfl,hcap,hg⟩:=hw.rows (by decide) (zip_rows us l)
 have hzl:(List.zipWith (fun u (x:Ent)=>[Value.int .i64 x.1,u]) us l).length=l.length:=by rw [List.length_zipWith,hL.1,Nat.min_self]
 rw [hzl] at hcap ⊢
 have hY:One (Value.slice a l.length ca):=⟨rfl⟩
 unfold mayB
 by_cases h1:l.length<1
 ·rw [decide_eq_false (by omega),Bool.false_and]
  repeat' (first|(refine W.go ?_;try intro b_)|fail)
  refine W.call hmy ?_
  rintro _ _ ⟨rfl,rfl⟩
  repeat' (first|(refine W.go ?_;try intro b_)|fail)
  refine Fin.to [] ?_
  exact F.f1 ⟨rfl,rfl⟩
 by_cases h2:t<l.length
 ·rw [decide_eq_false (by omega),Bool.false_and]
  repeat' (first|(refine W.go ?_;try intro b_)|fail)
  refine W.call hmy ?_
  rintro _ _ ⟨rfl,rfl⟩
  repeat' (first|(refine W.go ?_;try intro b_)|fail)
  refine Fin.to [] ?_
  exact F.f1 ⟨rfl,rfl⟩
 rw [decide_eq_true (by omega),Bool.true_and]
 repeat' (first|(refine W.go ?_;try intro b_)|fail)
 refine W.call hmy ?_
 rintro _ _ ⟨rfl,rfl⟩
 repeat' (first|(refine W.gb ?_;try intro b_)|fail)
 refine SW.cutH [] [] (fun _:Unit=>[]) (fun _=>[]) (fun _=>mayL p (-1) l=true) ?_ ?_
 ·repeat' (first|(refine W.go ?_;try intro b_)|fail)
  refine SW.loopF [2,3,25,26] (fun k:Nat=>[(27,.int .i64 (k:Int))]) (fun _=>[]) (fun k=>l.length-k) (fun k=>(k≤l.length ∧ -1≤lastK l k)∧mayL p (-1) l=mayL p (lastK l k) (l.drop k)) 0 ⟨⟨Nat.zero_le _,Int.le_refl _⟩,rfl⟩ ?_
  rintro k ⟨⟨hk,hla⟩,hm⟩
  by_cases hkn:k<l.length
  ·have hx:=List.getElem?_eq_getElem hkn
   have hlk:lastK l (k+1)=l[k].1:=by unfold lastK;rw [if_neg (by omega),Nat.add_sub_cancel,List.getD_eq_getElem?_getD,hx];rfl
   rw [List.drop_eq_getElem_cons hkn,mayL_drop] at hm
   obtain⟨a2,cap2,hz⟩:=hL.at hx
   obtain⟨pb,po,lv,T,fz,rfl,hb,hkK,hv⟩:=hg k _ hz
   have hprev:k≠0→lv[po+(k-1)*2]?=some (.int .i64 (lastK l k)):=fun hk0=>by
    have hx2:=List.getElem?_eq_getElem (show k-1<l.length by omega)
    obtain⟨a3,cap3,hz3⟩:=hL.at hx2
    obtain⟨pb2,po2,lv2,T2,fz2,he,hb2,-,hv2⟩:=hg (k-1) _ hz3
    cases he
    rw [hb] at hb2
    cases hb2
    have h0:((lv.drop (po+(k-1)*2)).take 2)[0]?=some (.int .i64 l[k-1].1):=by rw [hv2];rfl
    rw [List.getElem?_take,if_pos (by decide),List.getElem?_drop,Nat.add_zero] at h0
    rw [h0]
    unfold lastK
    rw [if_neg hk0,List.getD_eq_getElem?_getD,hx2]
    rfl
   have hl0:k=0→lastK l k = -1:=fun h=>by unfold lastK;rw [if_pos h]
   generalize lastK l k=last at *
   generalize l[k]=x at *
   by_cases c0:x.1<0
   ·rw [decide_eq_false (by omega),Bool.false_and] at hm
    rw [hm]
    repeat' (first|(refine W.go ?_;try intro b_)|fail)
    (refine SW.rg [] [0,1,2,3,4,5,6] ?_;(repeat' (first|refine SG.g ?_|fail));(first|refine SS.sk 7 rfl ?_;refine SG.on [8,9,10,11,12,13,14,15,16,17,18,19,20,21,22,23,24,25,26,27,28,29,30,31,32] ?_;(repeat' (first|refine SG.g ?_|fail))|refine SS.effK 7 ?_ rfl (by kernel_rfl)))
    repeat' (first|(refine W.go ?_;try intro b_)|fail)
    refine Fin.to [] ?_
    exact F.f1 ⟨rfl,rfl⟩
   by_cases c1:(Gm.sealed p:Nat)≤x.1
   ·rw [decide_eq_false (by omega),Bool.false_and] at hm
    rw [hm]
    repeat' (first|(refine W.go ?_;try intro b_)|fail)
    (refine SW.rg [] [0,1,2,3,4,5,6] ?_;(repeat' (first|refine SG.g ?_|fail));(first|refine SS.sk 7 rfl ?_;refine SG.on [8,9,10,11,12,13,14,15,16,17,18,19,20,21,22,23,24,25,26,27,28,29,30,31,32] ?_;(repeat' (first|refine SG.g ?_|fail))|refine SS.effK 7 ?_ rfl (by kernel_rfl)))
    refine W.call hse ?_
    rintro _ _ ⟨rfl,rfl⟩
    (refine SL.nilG [8,9,10,11,12,13,14,15,16,17,18,19,20,21,22,23,24,25,26,27,28,29,30,31,32] ?_;(repeat' (first|refine SG.g ?_|fail)))
    repeat' (first|(refine W.go ?_;try intro b_)|fail)
    refine Fin.to [] ?_
    exact F.f1 ⟨rfl,rfl⟩
   by_cases c2:¬ x.2.length=256
   ·rw [decide_eq_false (by omega),Bool.false_and] at hm
    rw [hm]
    repeat' (first|(refine W.go ?_;try intro b_)|fail)
    (refine SW.rg [] [0,1,2,3,4,5,6] ?_;(repeat' (first|refine SG.g ?_|fail));(first|refine SS.sk 7 rfl ?_;refine SG.on [8,9,10,11,12,13,14,15,16,17,18,19,20,21,22,23,24,25,26,27,28,29,30,31,32] ?_;(repeat' (first|refine SG.g ?_|fail))|refine SS.effK 7 ?_ rfl (by kernel_rfl)))
    refine W.call hse ?_
    rintro _ _ ⟨rfl,rfl⟩
    (refine SL.nilG [8,9,10,11,12,13,14,15,16,17,18,19,20,21,22,23,24,25,26,27,28,29,30,31,32] ?_;(repeat' (first|refine SG.g ?_|fail)))
    repeat' (first|(refine W.go ?_;try intro b_)|fail)
    refine Fin.to [] ?_
    exact F.f1 ⟨rfl,rfl⟩
   have c3:x.2.length=256:=Decidable.not_not.1 c2
   by_cases hk0:k=0
   ·have hlm:=hl0 hk0
    rw [decide_eq_true (by omega),Bool.true_and] at hm
    repeat' (first|(refine W.go ?_;try intro b_)|fail)
    (refine SW.rg [] [0,1,2,3,4,5,6] ?_;(repeat' (first|refine SG.g ?_|fail));(first|refine SS.sk 7 rfl ?_;refine SG.on [8,9,10,11,12,13,14,15,16,17,18,19,20,21,22,23,24,25,26,27,28,29,30,31,32] ?_;(repeat' (first|refine SG.g ?_|fail))|refine SS.effK 7 ?_ rfl (by kernel_rfl)))
    refine W.call hse ?_
    rintro _ _ ⟨rfl,rfl⟩
    (refine SL.nilG [8,9,10,11,12,13,14,15,16,17,18,19,20,21,22,23,24,25,26,27,28,29,30,31,32] ?_;(repeat' (first|refine SG.g ?_|fail)))
    repeat' (first|(refine W.go ?_;try intro b_)|fail)
    refine HandF.mk (k+1) ?_
    rw [hlk]
    exact⟨⟨hkn,by omega⟩,hm⟩
   ·have hpv:=hprev hk0
    by_cases c4:x.1≤last
    ·rw [decide_eq_false (by omega),Bool.false_and] at hm
     rw [hm]
     haveI:NatI ((k:Int)-1) (k-1):=⟨by omega⟩
     repeat' (first|(refine W.go ?_;try intro b_)|fail)
     (refine SW.rg [] [0,1,2,3,4,5,6] ?_;(repeat' (first|refine SG.g ?_|fail));(first|refine SS.sk 7 rfl ?_;refine SG.on [8,9,10,11,12,13,14,15,16,17,18,19,20,21,22,23,24,25,26,27,28,29,30,31,32] ?_;(repeat' (first|refine SG.g ?_|fail))|refine SS.effK 7 ?_ rfl (by kernel_rfl)))
     refine W.call hse ?_
     rintro _ _ ⟨rfl,rfl⟩
     (refine SL.nilG [8,9,10,11,12,13,14,15,16,17,18,19,20,21,22,23,24,25,26,27,28,29,30,31,32] ?_;(repeat' (first|refine SG.g ?_|fail)))
     repeat' (first|(refine W.go ?_;try intro b_)|fail)
     refine Fin.to [] ?_
     exact F.f1 ⟨rfl,rfl⟩
    ·rw [decide_eq_true (by omega),Bool.true_and] at hm
     haveI:NatI ((k:Int)-1) (k-1):=⟨by omega⟩
     repeat' (first|(refine W.go ?_;try intro b_)|fail)
     (refine SW.rg [] [0,1,2,3,4,5,6] ?_;(repeat' (first|refine SG.g ?_|fail));(first|refine SS.sk 7 rfl ?_;refine SG.on [8,9,10,11,12,13,14,15,16,17,18,19,20,21,22,23,24,25,26,27,28,29,30,31,32] ?_;(repeat' (first|refine SG.g ?_|fail))|refine SS.effK 7 ?_ rfl (by kernel_rfl)))
     refine W.call hse ?_
     rintro _ _ ⟨rfl,rfl⟩
     (refine SL.nilG [8,9,10,11,12,13,14,15,16,17,18,19,20,21,22,23,24,25,26,27,28,29,30,31,32] ?_;(repeat' (first|refine SG.g ?_|fail)))
     repeat' (first|(refine W.go ?_;try intro b_)|fail)
     refine HandF.mk (k+1) ?_
     rw [hlk]
     exact⟨⟨hkn,by omega⟩,hm⟩
  ·have hkl:k=l.length:=by omega
   rw [hkl,List.drop_length] at hm
   subst hkl
   repeat' (first|(refine W.go ?_;try intro b_)|fail)
   refine CutF.mk () ?_
   exact hm
 rintro _ hm
 rw [hm]
 repeat' (first|(refine W.go ?_;try intro b_)|fail)
 refine Fin.to [] ?_
 exact F.f1 ⟨rfl,rfl⟩
theorem rlEnc_p(c:UInt64)(v:Value)(us:List Value)(l:List Ent){Ht:Hp}(hR:RB Ht us (l.map Prod.snd))(hn:l.length≤100) :
  Tri Tryz.prog 283 [.agg #[u64v c,v]] [] (fun w=>Rd [] w 2 v (entsC us l))
   (fun r H=>∃ u0 Hv Hn,Sl 50 1 r (u0::us) Hv∧RdH Hn u0 (headB c l)∧H=Hv++Hn):=by
 refine Tri.mk Tryz.func283 rfl Tryz.ntmps283 rfl fun w hw=>?_
 have hL:=hR.le
 have hoc:=hR.oc
 unfold entsC at hw
 obtain⟨a,ca,rfl,hcap,hg⟩:=hw.rows (by decide) (zip_rows us l)
 have hzl:(List.zipWith (fun u (x:Ent)=>[Value.int .i64 x.1,u]) us l).length=l.length:=by rw [List.length_zipWith,hL.1,Nat.min_self]
 rw [hzl] at hcap ⊢
 have hY:One (Value.slice a l.length ca):=⟨rfl⟩
 have hp1:=rput_n 8 c (by omega)
 have hp2:=rput_n 2 (UInt64.ofNat l.length) (by omega)
 have hp3:=fun (x:Ent)=>rput_n 2 (UInt64.ofInt x.1) (by omega)
 have hfn:(headA c l.length).length=18:=by simp [headA,leN_len,redoM]
 have hpd:=fun v=>rPad_p v (headA c l.length++numsB l) 256 (by decide)
 rw [show pad 256 (headA c l.length++numsB l)=headB c l from rfl] at hpd
 have hb9:bfill (fun i=>some (i*1,1)) (zs [.int .u8 0] 8) [(0,.int .u8 82),(1,.int .u8 69),(2,.int .u8 68),(3,.int .u8 79),(4,.int .u8 45),(5,.int .u8 76),(6,.int .u8 79),(7,.int .u8 71)]=some (cbs redoM):=bsR
 repeat' (first|(refine W.go ?_;try intro b_)|fail)
 generalize b_=b1 at *
 refine W.call hp1 ?_
 intro v2 H2 h2
 have h21:=h2.isOne
 obtain⟨a2,l2,c2,rfl,hl2⟩:=h2.form
 obtain rfl:l2=8:=(by rw [cbs_len,leN_len] at hl2;omega)
 repeat' (first|(refine W.go ?_;try intro b_)|fail)
 refine W.apf (xs:=cbs redoM) (ys:=cbs (leN 8 c)) (mm:=8) (fun w2 hs=>(Rd.atB (K:=[]) (Hc:=[]) (b:=b1) (len:=8) (cap:=8) (T:=5) (fz:=((cbs redoM).length,(cbs redoM).length+1)) redoM hs rfl (Nat.le_refl _)).srcW) (fun w2 hs=>h2.srcAt hs inferInstance) (fun v3 H3 h3=>?_) (hxs:=rfl) (hys:=by rw [cbs_len,leN_len]) (hbytes:=by rw [cbs_len,cbs_len,leN_len];simp [redoM])
 have h31:=h3.isOne
 rw [← cbs_app] at h3
 repeat' (first|(refine W.go ?_;try intro b_)|fail)
 refine W.callE hp2 rfl ?_
 intro v4 H4 h4
 have h41:=h4.isOne
 obtain⟨a4,l4,c4,rfl,hl4⟩:=h4.form
 obtain rfl:l4=2:=(by rw [cbs_len,leN_len] at hl4;omega)
 repeat' (first|(refine W.go ?_;try intro b_)|fail)
 refine W.ap h3 (ys:=cbs (leN 2 (UInt64.ofNat l.length))) (mm:=2) (fun w2 hs=>h4.srcAt hs inferInstance) (fun v5 H5 h5=>?_) (hys:=by rw [cbs_len,leN_len]) (hbytes:=by rw [cbs_len,cbs_len,List.length_append,leN_len,leN_len];simp [redoM])
 have h51:=h5.isOne
 rw [show cbs (redoM++leN 8 c)++cbs (leN 2 (UInt64.ofNat l.length))=cbs (headA c l.length) by unfold headA;simp] at h5
 repeat' (first|(refine W.gb ?_;try intro b_)|fail)
 refine SW.cutH [1] H5 (fun x:Value×Hp=>[(3,x.1)]) (fun x=>x.2) (fun x=>Sl 5 1 x.1 (cbs (headA c l.length++numsB l)) x.2) ?_ ?_
 ·repeat' (first|(refine W.go ?_;try intro b_)|fail)
  refine SW.loopF [1,24,25] (fun x:Nat×Value×Hp=>[(3,x.2.1),(26,.int .i64 (x.1:Int))]) (fun x=>x.2.2) (fun x=>l.length-x.1) (fun x=>x.1≤l.length∧Sl 5 1 x.2.1 (cbs (headA c l.length++numsB (l.take x.1))) x.2.2) (0,v5,H5) ⟨Nat.zero_le _,by rw [List.take_zero,show numsB []=[] from rfl,List.append_nil];exact h5⟩ ?_
  rintro⟨k,v6,H6⟩ ⟨hk,h6⟩
  dsimp only at hk h6 ⊢
  have h61:=h6.isOne
  by_cases hkn:k<l.length
  ·have hx:=List.getElem?_eq_getElem hkn
   obtain⟨a2,cap2,hz⟩:=hL.at hx
   obtain⟨pb,po,lv,T,fz,rfl,hb,hkK,hv⟩:=hg k _ hz
   have hts:numsB (l.take (k+1))=numsB (l.take k)++leN 2 (UInt64.ofInt l[k].1):=by unfold numsB;rw [List.take_add_one,hx,List.flatMap_append];simp
   have htl:(numsB (l.take k)).length=2*k:=by rw [numsB_len,List.length_take];omega
   generalize l[k]=x at *
   haveI:=cvK x.1
   repeat' (first|(refine W.go ?_;try intro b_)|fail)
   refine W.call (hp3 x) ?_
   intro v7 H7 h7
   have h71:=h7.isOne
   obtain⟨a7,l7,c7,rfl,hl7⟩:=h7.form
   obtain rfl:l7=2:=(by rw [cbs_len,leN_len] at hl7;omega)
   repeat' (first|(refine W.go ?_;try intro b_)|fail)
   refine W.ap h6 (ys:=cbs (leN 2 (UInt64.ofInt x.1))) (mm:=2) (fun w2 hs=>h7.srcAt hs inferInstance) (fun v8 H8 h8=>?_) (hys:=by rw [cbs_len,leN_len]) (hbytes:=by rw [cbs_len,cbs_len,List.length_append,hfn,htl,leN_len];omega)
   have h81:=h8.isOne
   rw [show cbs (headA c l.length++numsB (l.take k))++cbs (leN 2 (UInt64.ofInt x.1))=cbs (headA c l.length++numsB (l.take (k+1))) by rw [hts];simp] at h8
   repeat' (first|(refine W.go ?_;try intro b_)|fail)
   refine HandF.mk (k+1,v8,H8) ?_
   exact⟨hkn,h8⟩
  ·have hkl:k=l.length:=by omega
   rw [hkl,List.take_length] at h6
   subst hkl
   repeat' (first|(refine W.go ?_;try intro b_)|fail)
   refine CutF.mk (v6,H6) ?_
   exact h6
 rintro⟨v6,H6⟩ h6
 dsimp only at h6 ⊢
 have h61:=h6.isOne
 repeat' (first|(refine W.go ?_;try intro b_)|fail)
 refine W.call (hpd v6) ?_ (hpre:=fun w2 hs=>Rd.own (Hc:=[]) h6 hs inferInstance)
 intro v8 H8 h8
 have h81:=h8.isOne
 have h8R:=RdH.of h8
 obtain⟨a8,l8,c8,rfl,-⟩:=h8.form
 have hb39:bfill (fun i=>some (i*1,1)) (zs [.slice none 0 0] 1) [(0,.slice a8 l8 c8)]=some [.slice a8 l8 c8]:=rfl
 repeat' (first|(refine W.gb ?_;try intro b_)|fail)
 generalize b_=b2 at *
 have hE0:Sl 50 1 (.slice (some ⟨b2,0,none⟩) 1 1) ([.slice a8 l8 c8]++us.take 0) [(b2,cl [.slice a8 l8 c8] 50)]:=Sl.own _ 1 b2 (len:=1) rfl
 refine SW.cutH [] [(b2,cl [.slice a8 l8 c8] 50)] (fun x:Value×Hp=>[(6,x.1)]) (fun x=>x.2) (fun x=>Sl 50 1 x.1 (.slice a8 l8 c8::us) x.2) ?_ ?_
 ·repeat' (first|(refine W.go ?_;try intro b_)|fail)
  refine SW.loopF [41,42] (fun x:Nat×Value×Hp=>[(6,x.2.1),(43,.int .i64 (x.1:Int))]) (fun x=>x.2.2) (fun x=>l.length-x.1) (fun x=>x.1≤l.length∧Sl 50 1 x.2.1 ([.slice a8 l8 c8]++us.take x.1) x.2.2) (0,.slice (some ⟨b2,0,none⟩) 1 1,[(b2,cl [.slice a8 l8 c8] 50)]) ⟨Nat.zero_le _,hE0⟩ ?_
  rintro⟨k,v9,H9⟩ ⟨hk,h9⟩
  dsimp only at hk h9 ⊢
  have h91:=h9.isOne
  by_cases hkn:k<l.length
  ·have hx:=List.getElem?_eq_getElem hkn
   obtain⟨a2,cap2,hu⟩:=hL.2 k _ hx
   have hz:(List.zipWith (fun u (x:Ent)=>[Value.int .i64 x.1,u]) us l)[k]?=some [.int .i64 l[k].1,.slice a2 l[k].2.length cap2]:=by rw [List.getElem?_zipWith,hu,hx]
   obtain⟨pb,po,lv,T,fz,rfl,hb,hkK,hv⟩:=hg k _ hz
   have hut:us.take (k+1)=us.take k++[.slice a2 l[k].2.length cap2]:=by rw [List.take_add_one,hu];rfl
   have hul:(us.take k).length=k:=by rw [List.length_take,hL.1];omega
   generalize l[k]=x at *
   have hb50:bfill (fun i=>some (i*1,1)) (zs [.slice none 0 0] 1) [(0,.slice a2 x.2.length cap2)]=some [.slice a2 x.2.length cap2]:=rfl
   repeat' (first|(refine W.go ?_;try intro b_)|fail)
   refine W.ap h9 (ys:=[.slice a2 x.2.length cap2]) (mm:=1) (fun w2 hs=>(Sl.own 50 1 b_ (xs:=[.slice a2 x.2.length cap2]) rfl).srcAt hs inferInstance) (fun v10 H10 h10=>?_) (hys:=rfl) (hbytes:=by rw [List.length_append,hul];simp;omega)
   have h101:=h10.isOne
   rw [List.append_assoc,← hut] at h10
   repeat' (first|(refine W.go ?_;try intro b_)|fail)
   refine HandF.mk (k+1,v10,H10) ?_
   exact⟨hkn,h10⟩
  ·have hkl:k=l.length:=by omega
   rw [hkl,← hL.1,List.take_length] at h9
   subst hkl
   repeat' (first|(refine W.go ?_;try intro b_)|fail)
   refine CutF.mk (v9,H9) ?_
   exact h9
 rintro⟨v9,H9⟩ h9
 dsimp only at h9 ⊢
 have h91:=h9.isOne
 repeat' (first|(refine W.go ?_;try intro b_)|fail)
 refine Fin.to (H9++H8) ?_
 exact F.f1 ⟨_,H9,H8,h9,h8R,rfl⟩
end Go.Proofs.YtnigolgkkjidiaaGreat
namespace Go.Proofs.YtnigolgkkjidiaaGreat
open Go
section
variable {P:Program}{C:Ctx}{Q:Exit→Fr→Hp→Prop}{ρ:Fr}{H:Hp}{L rest:List Oper}{o:Oper}{B:List Nat}{R R':Hp}{fuel:Nat}{listed:Array Bool}
theorem RdH.src{Ht:Hp}{v:Value}{bs:List UInt8}{w:World}(hv:RdH Ht v bs)(hh:∀ x∈Ht,w.heap[x.1]?=some x.2):∃ a len cap,v=.slice a len cap∧SrcOf P w (.slice a len cap) 1 len (cbs bs):=by
 obtain⟨a,len,cap,rfl,hl,hc,hor⟩:=hv
 refine⟨a,len,cap,rfl,?_⟩
 rcases hor with h0|⟨b,j,l,T,fz,rfl,hm,hy⟩
 ·subst h0
  have:bs=[]:=List.eq_nil_of_length_eq_zero hl
  subst this
  exact SrcOf.empty w a cap 1
 ·exact SrcOf.block (hh _ hm) (by rw [Nat.mul_one];exact hy) (by rw [cbs_len,Nat.mul_one];exact hl)
theorem SS.cstH{t t' e n:Nat}{x:Operand}{v:Value}{bs:List UInt8}{Hs rr:Hp}(hv:RdH Hs v bs) [hp:Part H Hs rr](i:Nat)(Ws:List Nat)(hi:L[i]?=some o){d':Option Nat}(hk:SS P C L Q B (Hs++R) fuel (listed.setIfInBounds i true) (pt ρ d' (.string (strV bs))) H)(hok:canL L B listed i Ws=true:=by kernel_rfl)(ho:o.op=.convert t t' x:=by exact rfl)(h1:SliceTy P t e n:=by infer_instance)(h2:IntTy P e .u8:=by infer_instance)(h3:StrTy P t':=by infer_instance)(hx:ev ρ x=some v:=by exact rfl)(hg:gd L ρ o=some true:=by exact rfl)(hd:dk C.n o.dst=some d':=by exact rfl)(hQ:∀ c ρ H,Q (.panic c) ρ H→False:=by exact fun _ _ _ h=>Fin.np h):SS P C L Q B R (fuel+1) listed ρ H:=
 SS.putL (R':=Hs++R) i Ws hi hok hQ (fun x hx=>List.mem_append_right _ hx) (fun x hx=>(List.mem_append.1 hx).elim (fun h=>.inr (hp.perm.mem_iff.2 (List.mem_append_left _ h))) .inl) (fun a hf=>.inl ⟨gd_wanted hf hg,fun w hr=>by
  obtain⟨pa,len,cap,rfl,hs⟩:=hv.src (P:=P) (w:=w) (fun x hx=>hr.2 x (List.mem_append_left _ hx))
  unfold execOp;rw [ho]
  simp [hf.eval hx,run_cvst (P:=P) (t:=t) (t':=t') (e:=e) (n:=n) hs]⟩) hd hk
theorem p_nestU{t t':TypeId}{x y:Operand}{a c:List UInt8}(ho:o.op=.binOp .neq t x y t')(hx:ev ρ x=some (.string (strV a)))(hy:ev ρ y=some (.string (strV c)))(h:a≠c):Pu P C ρ H o (.bool true):=by
 have:=p_nest (P:=P) (C:=C) (H:=H) ho hx hy
 rw [strV_eq,decide_eq_false h] at this
 exact this
end
attribute [local irreducible] SW SL SQ SH SA SS Pu Fin CutF HandF
def RParsP(Ht:Hp)(o:Option (UInt64×List Ent))(r:Value)(H:Hp):Prop:=match o with
 | none=>r=.tuple #[.agg #[.int .u64 0,.slice none 0 0],.bool false]∧H=[]
 | some x=>∃ ev us,r=.tuple #[.agg #[u64v x.1,ev],.bool true]∧Sl 389 2 ev (entsC us x.2) H∧RB Ht us (x.2.map Prod.snd)
theorem rlParse_p{p t:Nat}(h:Gm.Ok p t)(v:Value)(vs:List Value)(logs:List (List UInt8)){Ht:Hp}(hR:RB Ht vs logs)(hn:logs.length=1+t)(hb:∀ b∈logs,b.length=256) :
  Tri Tryz.prog 257 [geoV p t,v] Ht (fun w=>Rd (Ht.map Prod.fst) w 1 v vs) (fun r H=>∃ Hn,RParsP Ht (parseL p t logs) r Hn∧H=Hn++Ht):=by
 refine Tri.mk Tryz.func257 rfl Tryz.ntmps257 rfl fun w hw=>?_
 have ht:=h.2.2.2
 have hw0:=hw
 obtain⟨a,la,ca,rfl,hl1,hc1,hr1⟩:=hw.get
 rw [Nat.mul_one,hR.1] at hl1
 subst hl1
 have hY:One (Value.slice a logs.length ca):=⟨rfl⟩
 obtain⟨bb,o,l,T,fz,rfl,hbh,hkK,hy⟩:=hr1 (by omega)
 have hat:∀ k,k<logs.length→∃ u,l[o+k]?=some u∧RdH Ht u (logs.getD k []):=fun k hk=>by
  obtain⟨u,hu1,hu2⟩:=hR.2 k _ (List.getElem?_eq_getElem hk)
  refine⟨u,?_,by rw [List.getD_eq_getElem?_getD,List.getElem?_eq_getElem hk];exact hu2⟩
  have h2:((l.drop o).take (logs.length*1))[k]?=vs[k]?:=by rw [hy]
  rw [List.getElem?_take,if_pos (by omega),List.getElem?_drop,hu1] at h2
  exact h2
 have h256:∀ k,k<logs.length→(logs.getD k []).length=256:=fun k hk=>by
  rw [List.getD_eq_getElem?_getD,List.getElem?_eq_getElem hk];exact hb _ (List.getElem_mem hk)
 obtain⟨u0,hu0,hr0⟩:=hat 0 (by omega)
 have hx256:=h256 0 (by omega)
 have hpar:parseL p t logs=if getN (((logs.getD 0 []).drop 16).take 2)≤t∧mayB p t (entsL (logs.getD 0 []) logs (getN (((logs.getD 0 []).drop 16).take 2)))=true∧headB (getU (((logs.getD 0 []).drop 8).take 8)) (entsL (logs.getD 0 []) logs (getN (((logs.getD 0 []).drop 16).take 2)))=logs.getD 0 [] then some (getU (((logs.getD 0 []).drop 8).take 8),entsL (logs.getD 0 []) logs (getN (((logs.getD 0 []).drop 16).take 2))) else none:=rfl
 rw [hpar]
 clear hpar
 generalize hX:logs.getD 0 []=x at *
 have h0o:=hr0.one
 have hr00:=hr0
 obtain⟨ua,ul,uc,rfl,-⟩:=hr00
 obtain⟨hul,huc⟩:=hr0.len
 have hcut1:=hr0.cut uc 8 16 (uc-8) (by omega) (by omega) (by omega) (by omega)
 have hcut2:=hr0.cut uc 16 18 (uc-16) (by omega) (by omega) (by omega) (by omega)
 rw [show 16-8=8 from rfl] at hcut1
 rw [show 18-16=2 from rfl] at hcut2
 have hco1:=hcut1.one
 have hco2:=hcut2.one
 have hg1:=rGet_p (.slice (sadr ua uc 8 1) 8 (uc-8)) ((x.drop 8).take 8) (by rw [List.length_take];omega)
 have hg2:=rGet_p (.slice (sadr ua uc 16 1) 2 (uc-16)) ((x.drop 16).take 2) (by rw [List.length_take];omega)
 repeat' (first|(refine W.go ?_;try intro b_)|fail)
 refine W.sG (l:=8) (h:=16) ?_ (i0:=⟨rfl⟩) (i1:=⟨rfl⟩)
 rw [show 16-8=8 from rfl]
 repeat' (first|(refine W.go ?_;try intro b_)|fail)
 refine W.call hg1 ?_ (hpre:=fun w2 hs=>hcut1.rd (Hc:=[]) hs)
 rintro _ _ ⟨rfl,rfl⟩
 have hu:Value.int .u64 ((getN ((x.drop 8).take 8):Nat):Int)=u64v (getU ((x.drop 8).take 8)):=by unfold u64v;rw [getU_nat]
 rw [hu]
 clear hu
 generalize getU ((x.drop 8).take 8)=c at *
 have hb39:bfill (fun i=>[(0,1),(1,1)][i]?) [.int .u64 0,.slice none 0 0] [(0,u64v c)]=some [u64v c,.slice none 0 0]:=rfl
 repeat' (first|(refine W.go ?_;try intro b_)|fail)
 generalize b_=b9 at *
 refine W.sG (l:=16) (h:=18) ?_ (i0:=⟨rfl⟩) (i1:=⟨rfl⟩)
 rw [show 18-16=2 from rfl]
 repeat' (first|(refine W.go ?_;try intro b_)|fail)
 refine W.call hg2 ?_ (hpre:=fun w2 hs=>hcut2.rd (Hc:=[]) hs)
 rintro _ _ ⟨rfl,rfl⟩
 have hnl:getN ((x.drop 16).take 2)<65536:=getN_2 (by rw [List.length_take];omega)
 generalize getN ((x.drop 16).take 2)=n at *
 haveI:Cv .i64 (n:Int) (n:Int):=⟨w64 (by omega)⟩
 have hnone:RParsP Ht none (.tuple #[.agg #[.int .u64 0,.slice none 0 0],.bool false]) []:=⟨rfl,rfl⟩
 by_cases hn1:n<1
 ·have:n=0:=(by omega);subst this
  rw [if_neg (fun hc=>by have:=hc.2.1;unfold mayB at this;rw [entsL_len] at this;simp at this)]
  repeat' (first|(refine W.go ?_;try intro b_)|fail)
  refine F.cHt Ht [.int .u64 0,.slice none 0 0] ?_
  exact⟨[],hnone,rfl⟩
 by_cases hnt:t<n
 ·rw [if_neg (fun hc=>by omega)]
  repeat' (first|(refine W.go ?_;try intro b_)|fail)
  refine F.cHt Ht [.int .u64 0,.slice none 0 0] ?_
  exact⟨[],hnone,rfl⟩
 repeat' (first|(refine W.gb ?_;try intro b_)|fail)
 refine SW.cutH [1,2,4,6] [(b9,cl [u64v c,.slice none 0 0] 337)] (fun _:Value×List Value×Hp=>[]) (fun y=>(b9,cl [u64v c,y.1] 337)::y.2.2)
  (fun y=>Sl 389 2 y.1 (entsC y.2.1 (entsL x logs n)) y.2.2∧RB Ht y.2.1 ((entsL x logs n).map Prod.snd)) ?_ ?_
 ·repeat' (first|(refine W.go ?_;try intro b_)|fail)
  refine SW.loopF [1,2,4,6,7] (fun y:Nat×Value×List Value×Hp=>[(8,.int .i64 (y.1:Int))]) (fun y=>(b9,cl [u64v c,y.2.1] 337)::y.2.2.2) (fun y=>n-y.1)
   (fun y=>y.1≤n∧Sl 389 2 y.2.1 (entsC y.2.2.1 (entsL x logs y.1)) y.2.2.2∧RB Ht y.2.2.1 ((entsL x logs y.1).map Prod.snd)) (0,.slice none 0 0,[],[]) ⟨Nat.zero_le _,Sl.nil _ _,RB.nil _⟩ ?_
  rintro⟨k,ev,us,He⟩ ⟨hk,hSe,hRb⟩
  dsimp only at hk hSe hRb ⊢
  have hSe1:=hSe.isOne
  have husl:us.length=(entsL x logs k).length:=by rw [hRb.1,List.length_map]
  by_cases hkn:k<n
  ·obtain⟨u,hu,hru⟩:=hat (1+k) (by omega)
   have hru0:=hru
   have huo:=hru.one
   obtain⟨va,vl,vc,rfl,-⟩:=hru0
   have hcut3:=hr0.cut uc (18+2*k) (20+2*k) (uc-(18+2*k)) (by omega) (by omega) (by omega) (by omega)
   rw [show 20+2*k-(18+2*k)=2 by omega] at hcut3
   have hco3:=hcut3.one
   have hg3:=rGet_p (.slice (sadr ua uc (18+2*k) 1) 2 (uc-(18+2*k))) ((x.drop (18+2*k)).take 2) (by rw [List.length_take];omega)
   have hK:getN ((x.drop (18+2*k)).take 2)<65536:=getN_2 (by rw [List.length_take];omega)
   have hes:=entsL_succ x logs k
   have hel:=entsL_len x logs k
   generalize (x.drop (18+2*k)).take 2=xk at *
   generalize getN xk=K at *
   generalize logs.getD (1+k) []=d at *
   haveI:Cv .i64 (K:Int) (K:Int):=⟨w64 (by omega)⟩
   haveI:NatI (1+(k:Int)) (1+k):=⟨by omega⟩
   haveI:NatI (18+2*(k:Int)) (18+2*k):=⟨by omega⟩
   haveI:NatI (20+2*(k:Int)) (20+2*k):=⟨by omega⟩
   have hb19:bfill (fun i=>[(0,1),(1,1)][i]?) [.int .i64 0,.slice none 0 0] [(0,.int .i64 (K:Int)),(1,.slice va vl vc)]=some [.int .i64 (K:Int),.slice va vl vc]:=rfl
   have hb20:bfill (fun i=>some (i*2,2)) (zs [.int .i64 0,.slice none 0 0] 1) [(0,.agg [(.int .i64 (K:Int):Value),.slice va vl vc].toArray)]=some [.int .i64 (K:Int),.slice va vl vc]:=rfl
   repeat' (first|(refine W.go ?_;try intro b_)|fail)
   (refine SW.regionS [21,23] ?_ (by kernel_rfl);refine SS.T 0 rfl ?_;(first|refine SS.ls 1 [21,23] rfl ?_|refine SS.sR 1 rfl ?_);refine SS.T 2 rfl ?_;refine SS.T 3 rfl ?_;(first|refine SS.ls 4 [11,12,21,23] rfl ?_|refine SS.sR 4 rfl ?_);refine SS.T 5 rfl ?_;refine SS.T 6 rfl ?_;refine SS.T 7 rfl ?_;refine SS.T 8 rfl ?_;refine SS.T 9 rfl ?_;refine SS.T 10 rfl ?_;refine SS.tw 11 rfl (p_slG (lo:=none) (hi:=none) rfl rfl rfl rfl (by omega) (by omega)) ?_;refine SS.T 14 rfl ?_;refine SS.T 15 rfl ?_;refine SS.T 16 rfl ?_;refine SS.T 17 rfl ?_;(first|refine SS.ls 18 [19,20,21,23] rfl ?_|refine SS.sR 18 rfl ?_);refine SS.effK 12 ?_ rfl (by kernel_rfl))
   rw [show 20+2*k-(18+2*k)=2 by omega]
   refine W.call hg3 ?_ (hpre:=fun w2 hs=>hcut3.rd (Hc:=[]) hs)
   rintro _ _ ⟨rfl,rfl⟩
   (refine SL.nilB ?_;refine SS.T 13 rfl ?_;refine SS.T 19 rfl ?_;refine SS.effK 20 ?_ rfl (by kernel_rfl))
   refine W.bsl (fun b6=>?_) (hr:=hb20)
   (refine SL.nilB ?_;refine SS.effB 21 ?_ rfl (by kernel_rfl))
   refine W.ap hSe (ys:=[.int .i64 (K:Int),.slice va vl vc]) (mm:=1) (fun w2 hs=>(Sl.own 389 2 b6 (xs:=[.int .i64 (K:Int),.slice va vl vc]) rfl).srcAt hs inferInstance) (fun v7 H7 h7=>?_) (hys:=rfl) (hbytes:=by rw [entsC_len _ _ husl,hel];simp;omega)
   have h71:=h7.isOne
   rw [← entsC_snoc husl (.slice va vl vc) ((K:Int),d),← hes] at h7
   (refine SL.nilB ?_;refine SS.T 22 rfl ?_;refine SS.effB 23 ?_ rfl (by kernel_rfl);(repeat' (first|(refine W.g1 ?_;try intro b_)|fail));refine SS.done ?_ (by kernel_rfl))
   repeat' (first|(refine W.go ?_;try intro b_)|fail)
   rw [show ([u64v c,ev]:List Value).set 1 v7=[u64v c,v7] from rfl]
   refine HandF.mk (k+1,v7,us++[.slice va vl vc],H7) ?_
   refine⟨hkn,h7,?_⟩
   dsimp only
   rw [hes,List.map_append]
   exact hRb.snoc hru
  ·have hkm:k=n:=by omega
   rw [hkm] at hSe hRb
   repeat' (first|(refine W.go ?_;try intro b_)|fail)
   refine CutF.mk (ev,us,He) ?_
   exact⟨hSe,hRb⟩
 rintro⟨ev,us,He⟩ ⟨hSe,hRb⟩
 dsimp only at hSe hRb ⊢
 have hSe1:=hSe.isOne
 have hel:=entsL_len x logs n
 have husl:us.length=(entsL x logs n).length:=by rw [hRb.1,List.length_map]
 have hLE:=hRb.le
 obtain⟨ea,el,ec,rfl,hell⟩:=hSe.form
 rw [entsC_len _ _ husl,hel] at hell
 have hen0:n=el:=by omega
 subst hen0
 have hl2:([u64v c,.slice ea n ec]:List Value).length=2:=rfl
 have hmy:=rlMay_p h c (.slice ea n ec) us _ hLE (by rw [hel];omega)
 have hen:=rlEnc_p c (.slice ea n ec) us _ hRb (by rw [hel];omega)
 by_cases hm:mayB p t (entsL x logs n)=true
 ·rw [hm] at hmy
  by_cases he:headB c (entsL x logs n)=x
  ·rw [if_pos ⟨by omega,hm,he⟩]
   repeat' (first|(refine W.go ?_;try intro b_)|fail)
   (refine SW.regionS [] ?_ (by kernel_rfl);(first|refine SS.lw 0 [] rfl ?_|refine SS.la 0 [] rfl ?_|refine SS.aR 0 rfl ?_);(first|refine SS.lw 1 [] rfl ?_|refine SS.la 1 [] rfl ?_|refine SS.aR 1 rfl ?_);refine SS.effK 2 ?_ rfl (by kernel_rfl))
   refine W.call hmy ?_ (hpre:=fun w2 hs=>Rd.own (Hc:=[]) hSe hs inferInstance)
   rintro _ _ ⟨rfl,rfl⟩
   (refine SL.nilB ?_;refine SS.T 3 rfl ?_;refine SS.T 4 rfl ?_;(first|refine SS.sk 5 rfl ?_|refine SS.lw 5 [] rfl ?_|refine SS.la 5 [] rfl ?_|refine SS.aR 5 rfl ?_);(first|refine SS.sk 10 rfl ?_|refine SS.T 10 rfl ?_);(first|refine SS.sk 11 rfl ?_|refine SS.T 11 rfl ?_);(first|refine SS.sk 12 rfl ?_|refine SS.ls 12 [] rfl ?_|refine SS.sR 12 rfl ?_);(first|refine SS.sk 13 rfl ?_|refine SS.cstH hr0 13 [] rfl ?_);(first|refine SS.sk 6 rfl ?_;(first|refine SS.sk 7 rfl ?_|refine SS.T 7 rfl ?_);(first|refine SS.sk 8 rfl ?_|refine SS.ls 8 [] rfl ?_|refine SS.sR 8 rfl ?_);(first|refine SS.sk 9 rfl ?_|refine SS.T 9 rfl ?_);(first|refine SS.sk 14 rfl ?_|refine SS.T 14 rfl ?_);refine SS.T 15 rfl ?_;refine SS.done ?_ (by kernel_rfl)|refine SS.effK 6 ?_ rfl (by kernel_rfl)))
   refine W.call hen ?_ (hpre:=fun w2 hs=>Rd.own (Hc:=[]) hSe hs inferInstance)
   rintro v64 _ ⟨u64,Hv,Hn,hS64,hr64,rfl⟩
   rcases hS64 with ⟨-,hz,-⟩|⟨eb,elen,ecap,ejunk,rfl,hexl,hej,hec,rfl⟩
   ·cases hz
   have h64o:=hr64.one
   have h64l:((u64::us)++ejunk)[0]?=some u64:=rfl
   rw [he] at hr64
   have hel64:0<elen:=by simp at hexl;omega
   (refine SL.nilB ?_;(first|refine SS.sk 7 rfl ?_|refine SS.T 7 rfl ?_);(first|refine SS.sk 8 rfl ?_|refine SS.ls 8 [] rfl ?_|refine SS.sR 8 rfl ?_);(first|refine SS.sk 9 rfl ?_|refine SS.cstH hr64 9 [] rfl ?_);(first|refine SS.sk 14 rfl ?_|refine SS.tw 14 rfl (p_nestf rfl rfl rfl rfl) ?_);refine SS.T 15 rfl ?_;refine SS.done ?_ (by kernel_rfl))
   repeat' (first|(refine W.go ?_;try intro b_)|fail)
   refine F.cHt (He++Ht) [u64v c,.slice ea n ec] ?_
   exact⟨He,⟨_,us,rfl,hSe,hRb⟩,rfl⟩
  ·rw [if_neg (fun hc=>he hc.2.2)]
   repeat' (first|(refine W.go ?_;try intro b_)|fail)
   (refine SW.regionS [] ?_ (by kernel_rfl);(first|refine SS.lw 0 [] rfl ?_|refine SS.la 0 [] rfl ?_|refine SS.aR 0 rfl ?_);(first|refine SS.lw 1 [] rfl ?_|refine SS.la 1 [] rfl ?_|refine SS.aR 1 rfl ?_);refine SS.effK 2 ?_ rfl (by kernel_rfl))
   refine W.call hmy ?_ (hpre:=fun w2 hs=>Rd.own (Hc:=[]) hSe hs inferInstance)
   rintro _ _ ⟨rfl,rfl⟩
   (refine SL.nilB ?_;refine SS.T 3 rfl ?_;refine SS.T 4 rfl ?_;(first|refine SS.sk 5 rfl ?_|refine SS.lw 5 [] rfl ?_|refine SS.la 5 [] rfl ?_|refine SS.aR 5 rfl ?_);(first|refine SS.sk 10 rfl ?_|refine SS.T 10 rfl ?_);(first|refine SS.sk 11 rfl ?_|refine SS.T 11 rfl ?_);(first|refine SS.sk 12 rfl ?_|refine SS.ls 12 [] rfl ?_|refine SS.sR 12 rfl ?_);(first|refine SS.sk 13 rfl ?_|refine SS.cstH hr0 13 [] rfl ?_);(first|refine SS.sk 6 rfl ?_;(first|refine SS.sk 7 rfl ?_|refine SS.T 7 rfl ?_);(first|refine SS.sk 8 rfl ?_|refine SS.ls 8 [] rfl ?_|refine SS.sR 8 rfl ?_);(first|refine SS.sk 9 rfl ?_|refine SS.T 9 rfl ?_);(first|refine SS.sk 14 rfl ?_|refine SS.T 14 rfl ?_);refine SS.T 15 rfl ?_;refine SS.done ?_ (by kernel_rfl)|refine SS.effK 6 ?_ rfl (by kernel_rfl)))
   refine W.call hen ?_ (hpre:=fun w2 hs=>Rd.own (Hc:=[]) hSe hs inferInstance)
   rintro v64 _ ⟨u64,Hv,Hn,hS64,hr64,rfl⟩
   rcases hS64 with ⟨-,hz,-⟩|⟨eb,elen,ecap,ejunk,rfl,hexl,hej,hec,rfl⟩
   ·cases hz
   have h64o:=hr64.one
   have h64l:((u64::us)++ejunk)[0]?=some u64:=rfl
   have hel64:0<elen:=by simp at hexl;omega
   (refine SL.nilB ?_;(first|refine SS.sk 7 rfl ?_|refine SS.T 7 rfl ?_);(first|refine SS.sk 8 rfl ?_|refine SS.ls 8 [] rfl ?_|refine SS.sR 8 rfl ?_);(first|refine SS.sk 9 rfl ?_|refine SS.cstH hr64 9 [] rfl ?_);(first|refine SS.sk 14 rfl ?_|refine SS.tw 14 rfl (p_nestU rfl rfl rfl he) ?_);refine SS.T 15 rfl ?_;refine SS.done ?_ (by kernel_rfl))
   repeat' (first|(refine W.go ?_;try intro b_)|fail)
   refine F.cHt Ht [.int .u64 0,.slice none 0 0] ?_
   exact⟨[],hnone,rfl⟩
 ·rw [if_neg (fun hc=>hm hc.2.1)]
  rw [show mayB p t (entsL x logs n)=false by simpa using hm] at hmy
  repeat' (first|(refine W.go ?_;try intro b_)|fail)
  (refine SW.regionS [] ?_ (by kernel_rfl);(first|refine SS.lw 0 [] rfl ?_|refine SS.la 0 [] rfl ?_|refine SS.aR 0 rfl ?_);(first|refine SS.lw 1 [] rfl ?_|refine SS.la 1 [] rfl ?_|refine SS.aR 1 rfl ?_);refine SS.effK 2 ?_ rfl (by kernel_rfl))
  refine W.call hmy ?_ (hpre:=fun w2 hs=>Rd.own (Hc:=[]) hSe hs inferInstance)
  rintro _ _ ⟨rfl,rfl⟩
  (refine SL.nilB ?_;refine SS.T 3 rfl ?_;refine SS.T 4 rfl ?_;(first|refine SS.sk 5 rfl ?_|refine SS.lw 5 [] rfl ?_|refine SS.la 5 [] rfl ?_|refine SS.aR 5 rfl ?_);(first|refine SS.sk 10 rfl ?_|refine SS.T 10 rfl ?_);(first|refine SS.sk 11 rfl ?_|refine SS.T 11 rfl ?_);(first|refine SS.sk 12 rfl ?_|refine SS.ls 12 [] rfl ?_|refine SS.sR 12 rfl ?_);(first|refine SS.sk 13 rfl ?_|refine SS.T 13 rfl ?_);(first|refine SS.sk 6 rfl ?_;(first|refine SS.sk 7 rfl ?_|refine SS.T 7 rfl ?_);(first|refine SS.sk 8 rfl ?_|refine SS.ls 8 [] rfl ?_|refine SS.sR 8 rfl ?_);(first|refine SS.sk 9 rfl ?_|refine SS.T 9 rfl ?_);(first|refine SS.sk 14 rfl ?_|refine SS.T 14 rfl ?_);refine SS.T 15 rfl ?_;refine SS.done ?_ (by kernel_rfl)|refine SS.effK 6 ?_ rfl (by kernel_rfl)))
  repeat' (first|(refine W.go ?_;try intro b_)|fail)
  refine F.cHt Ht [.int .u64 0,.slice none 0 0] ?_
  exact⟨[],hnone,rfl⟩
end Go.Proofs.YtnigolgkkjidiaaGreat
