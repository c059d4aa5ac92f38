/- The document's log: may one be, its blocks, blocks that are parsed. -/
import Derived.Test.YtnhnpjokpelkbaaGreatPp33
set_option linter.unusedVariables false
set_option linter.unusedSimpArgs false
set_option linter.unusedSectionVars false
set_option maxHeartbeats 2000000
namespace Go.Proofs.YtnhnpjokpelkbaaGreat
open Go Go.Proofs.Tryz
section
attribute [local irreducible] SW SL SQ SH SA SS Pu Fin bT aQ
def aAh(l:List Ent)(k:Nat):Int:=if k=0 then -1 else (l.getD (k-1) (0,[])).1
theorem aHK{p t:Nat}(h:Gm.Ok p t)(c:UInt64)(v:Value)(us:List Value)(l:List Ent)(hL:LE us l)(hn:l.length≤1000000) :
  Tri prog 24 [kF p t,.agg #[eG c,v]] [] (fun w=>Rd [] w 2 v (eD us l)) (fun r H=>r=.bool (gH p t l)∧H=[]):=by
 refine Tri.mk func24 rfl ntmps24 rfl fun w hw=>?_
 have hmy:=aEq h
 have hse:=sD h
 unfold eD at hw
 obtain⟨a,ca,rfl,hcap,hg⟩:=hw.rows dQ (mW us l)
 have hzl:(List.zipWith (fun u (x:Ent)=>[Value.int .i64 x.1,u]) us l).length=l.length:=by rw [fL,hL.1,iN]
 rw [hzl] at hcap ⊢
 have hY:One (Value.slice a l.length ca):=⟨rfl⟩
 unfold gH
 by_cases h1:l.length<1
 ·rw [decide_eq_false oQ,gA]
  refine W.k fun _ b_=>?_
  refine W.cw hmy ?_
  exact F.n
 by_cases h2:t<l.length
 ·rw [decide_eq_false oQ,gA]
  refine W.k fun _ b_=>?_
  refine W.cw hmy ?_
  exact F.n
 rw [decide_eq_true oQ,iY]
 refine W.k fun _ b_=>?_
 refine W.cq hmy ?_
 refine W.j ?_
 refine bQ [] [] (fun _:Unit=>[]) (fun _=>[]) (fun _=>mR p (-1) l=true) ?_ ?_
 ·refine W.k ?_
  refine bF [2,3,25,26] (fun k:Nat=>[(27,.int .i64 (k:Int))]) (fun _=>[]) (fun k=>l.length-k) (fun k=>(k≤l.length ∧ -1≤aAh l k)∧mR p (-1) l=mR p (aAh l k) (l.drop k)) 0 ⟨⟨Nat.zero_le _,Int.le_refl _⟩,rfl⟩ ?_
  rintro k ⟨⟨hk,hla⟩,hm⟩
  by_cases hkn:k<l.length
  ·have hx:=aA hkn
   have hlk:aAh l (k+1)=l[k].1:=by unfold aAh;rw [if_neg oQ,Nat.add_sub_cancel,aC,hx];rfl
   rw [bL hkn,xJ] at hm
   obtain⟨a2,cap2,hz⟩:=hL.at hx
   obtain⟨pb,po,lv,T,fz,rfl,hb,hkK,hv⟩:=hg k _ hz
   have hprev:k≠0→lv[po+(k-1)*2]?=some (.int .i64 (aAh l k)):=fun hk0=>by
    have hx2:=aA (show k-1<l.length by omega)
    obtain⟨a3,cap3,hz3⟩:=hL.at hx2
    obtain⟨pb2,po2,lv2,T2,fz2,he,hb2,-,hv2⟩:=hg (k-1) _ hz3
    cases he
    rw [hb] at hb2
    cases hb2
    have h0:((lv.drop (po+(k-1)*2)).take 2)[0]?=some (.int .i64 l[k-1].1):=by rw [hv2];rfl
    rw [bE,if_pos dQ,bI,jQ] at h0
    rw [h0]
    unfold aAh
    rw [if_neg hk0,aC,hx2]
    rfl
   have hl0:k=0→aAh l k = -1:=fun h=>by unfold aAh;rw [if_pos h]
   generalize aAh l k=last at *
   generalize l[k]=x at *
   by_cases c0:x.1<0
   ·rw [decide_eq_false oQ,gA] at hm
    rw [hm]
    refine W.k fun b_=>?_
    (refine SW.l [] [0,1,2,3,4,5,6] ?_;(first|refine dB 7 rfl ?_;refine SG.l [8,9,10,11,12,13,14,15,16,17,18,19,20,21,22,23,24,25,26,27,28,29,30,31,32] ?_|refine bA 7 ?_))
    refine W.k ?_
    exact F.n
   by_cases c1:(Gm.sealed p:Nat)≤x.1
   ·rw [decide_eq_false oQ,gA] at hm
    rw [hm]
    refine W.k fun b_=>?_
    (refine SW.l [] [0,1,2,3,4,5,6] ?_;(first|refine dB 7 rfl ?_;refine SG.l [8,9,10,11,12,13,14,15,16,17,18,19,20,21,22,23,24,25,26,27,28,29,30,31,32] ?_|refine bA 7 ?_))
    refine W.cq hse ?_
    (refine SL.l [8,9,10,11,12,13,14,15,16,17,18,19,20,21,22,23,24,25,26,27,28,29,30,31,32] ?_)
    refine W.k ?_
    exact F.n
   by_cases c2:¬ x.2.length=256
   ·rw [decide_eq_false oQ,gA] at hm
    rw [hm]
    refine W.k fun b_=>?_
    (refine SW.l [] [0,1,2,3,4,5,6] ?_;(first|refine dB 7 rfl ?_;refine SG.l [8,9,10,11,12,13,14,15,16,17,18,19,20,21,22,23,24,25,26,27,28,29,30,31,32] ?_|refine bA 7 ?_))
    refine W.cq hse ?_
    (refine SL.l [8,9,10,11,12,13,14,15,16,17,18,19,20,21,22,23,24,25,26,27,28,29,30,31,32] ?_)
    refine W.k ?_
    exact F.n
   have c3:x.2.length=256:=Decidable.not_not.1 c2
   by_cases hk0:k=0
   ·have hlm:=hl0 hk0
    rw [decide_eq_true oQ,iY] at hm
    refine W.k fun b_=>?_
    (refine SW.l [] [0,1,2,3,4,5,6] ?_;(first|refine dB 7 rfl ?_;refine SG.l [8,9,10,11,12,13,14,15,16,17,18,19,20,21,22,23,24,25,26,27,28,29,30,31,32] ?_|refine bA 7 ?_))
    refine W.cq hse ?_
    (refine SL.l [8,9,10,11,12,13,14,15,16,17,18,19,20,21,22,23,24,25,26,27,28,29,30,31,32] ?_)
    refine W.k ?_
    refine aQ.mk (k+1) ?_
    rw [hlk]
    exact⟨⟨hkn,by omega⟩,hm⟩
   ·have hpv:=hprev hk0
    by_cases c4:x.1≤last
    ·rw [decide_eq_false oQ,gA] at hm
     rw [hm]
     haveI:eI ((k:Int)-1) (k-1):=⟨by omega⟩
     refine W.k fun b_=>?_
     (refine SW.l [] [0,1,2,3,4,5,6] ?_;(first|refine dB 7 rfl ?_;refine SG.l [8,9,10,11,12,13,14,15,16,17,18,19,20,21,22,23,24,25,26,27,28,29,30,31,32] ?_|refine bA 7 ?_))
     refine W.cq hse ?_
     (refine SL.l [8,9,10,11,12,13,14,15,16,17,18,19,20,21,22,23,24,25,26,27,28,29,30,31,32] ?_)
     refine W.k ?_
     exact F.n
    ·rw [decide_eq_true oQ,iY] at hm
     haveI:eI ((k:Int)-1) (k-1):=⟨by omega⟩
     refine W.k fun b_=>?_
     (refine SW.l [] [0,1,2,3,4,5,6] ?_;(first|refine dB 7 rfl ?_;refine SG.l [8,9,10,11,12,13,14,15,16,17,18,19,20,21,22,23,24,25,26,27,28,29,30,31,32] ?_|refine bA 7 ?_))
     refine W.cq hse ?_
     (refine SL.l [8,9,10,11,12,13,14,15,16,17,18,19,20,21,22,23,24,25,26,27,28,29,30,31,32] ?_)
     refine W.k ?_
     refine aQ.mk (k+1) ?_
     rw [hlk]
     exact⟨⟨hkn,by omega⟩,hm⟩
  ·have hkl:k=l.length:=oQ
   rw [hkl,tI] at hm
   subst hkl
   refine W.k ?_
   refine bT.mk () ?_
   exact hm
 rintro _ hm
 rw [hm]
 refine W.k ?_
 exact F.n
theorem aHJ(c:UInt64)(v:Value)(us:List Value)(l:List Ent){Ht:Hp}(hR:RB Ht us (l.map Prod.snd))(hn:l.length≤100) :
  Tri prog 205 [.agg #[eG c,v]] [] (fun w=>Rd [] w 2 v (eD us l))
   (fun r H=>∃ u0 Hv Hn,Sl 23 1 r (u0::us) Hv∧RdH Hn u0 (lJ c l)∧H=Hv++Hn):=by
 refine Tri.mk func205 rfl ntmps205 rfl fun w hw=>?_
 have hL:=hR.le
 have hoc:=hR.oc
 unfold eD at hw
 obtain⟨a,ca,rfl,hcap,hg⟩:=hw.rows dQ (mW us l)
 have hzl:(List.zipWith (fun u (x:Ent)=>[Value.int .i64 x.1,u]) us l).length=l.length:=by rw [fL,hL.1,iN]
 rw [hzl] at hcap ⊢
 have hY:One (Value.slice a l.length ca):=⟨rfl⟩
 have hp1:=wT 8 c oQ
 have hp2:=wT 2 (UInt64.ofNat l.length) oQ
 have hp3:=fun (x:Ent)=>wT 2 (UInt64.ofInt x.1) oQ
 have hfn:(oA c l.length).length=18:=by simp [oA,eC,qL]
 have hpd:=fun v=>aKr v (oA c l.length++mK l) 256 dQ
 rw [show pad 256 (oA c l.length++mK l)=lJ c l from rfl] at hpd
 have hb9:bX (fun i=>some (i*1,1)) (zs [.int .u8 0] 8) [(0,.int .u8 82),(1,.int .u8 69),(2,.int .u8 68),(3,.int .u8 79),(4,.int .u8 45),(5,.int .u8 76),(6,.int .u8 79),(7,.int .u8 71)]=some (cbs qL):=bsR
 refine W.k fun _ b_=>?_
 generalize b_=b1 at *
 refine aF hp1 ?_
 intro v2 H2 h2
 have h21:=h2.isOne
 obtain⟨a2,l2,c2,rfl,hl2⟩:=h2.form
 obtain rfl:l2=8:=(by rw [aI,eC] at hl2;omega)
 refine W.k ?_
 refine aMz (xs:=cbs qL) (ys:=cbs (leN 8 c)) (mm:=8) (fun w2 hs=>(Rd.atB (K:=[]) (Hc:=[]) (b:=b1) (len:=8) (cap:=8) (T:=5) (fz:=((cbs qL).length,(cbs qL).length+1)) qL hs rfl (Nat.le_refl _)).srcW) (fun w2 hs=>h2.srcAt hs inferInstance) (fun v3 H3 h3=>?_) (hxs:=rfl) (hys:=by rw [aI,eC]) (hbytes:=by rw [aI,aI,eC];simp [qL])
 have h31:=h3.isOne
 rw [← jB] at h3
 refine W.k ?_
 refine eJ hp2 rfl ?_
 intro v4 H4 h4
 have h41:=h4.isOne
 obtain⟨a4,l4,c4,rfl,hl4⟩:=h4.form
 obtain rfl:l4=2:=(by rw [aI,eC] at hl4;omega)
 refine W.k ?_
 refine W.ap h3 (ys:=cbs (leN 2 (UInt64.ofNat l.length))) (mm:=2) (fun w2 hs=>h4.srcAt hs inferInstance) (fun v5 H5 h5=>?_) (hys:=by rw [aI,eC]) (hbytes:=by rw [aI,aI,aB,eC,eC];simp [qL])
 have h51:=h5.isOne
 rw [show cbs (qL++leN 8 c)++cbs (leN 2 (UInt64.ofNat l.length))=cbs (oA c l.length) by unfold oA;simp] at h5
 refine W.j ?_
 refine bQ [1] H5 (fun x:Value×Hp=>[(3,x.1)]) (fun x=>x.2) (fun x=>Sl 5 1 x.1 (cbs (oA c l.length++mK l)) x.2) ?_ ?_
 ·refine W.k ?_
  refine bF [1,24,25] (fun x:Nat×Value×Hp=>[(3,x.2.1),(26,.int .i64 (x.1:Int))]) (fun x=>x.2.2) (fun x=>l.length-x.1) (fun x=>x.1≤l.length∧Sl 5 1 x.2.1 (cbs (oA c l.length++mK (l.take x.1))) x.2.2) (0,v5,H5) ⟨Nat.zero_le _,by rw [cT,show mK []=[] from rfl,aH];exact h5⟩ ?_
  rintro⟨k,v6,H6⟩ ⟨hk,h6⟩
  dsimp only at hk h6 ⊢
  have h61:=h6.isOne
  by_cases hkn:k<l.length
  ·have hx:=aA hkn
   obtain⟨a2,cap2,hz⟩:=hL.at hx
   obtain⟨pb,po,lv,T,fz,rfl,hb,hkK,hv⟩:=hg k _ hz
   have hts:mK (l.take (k+1))=mK (l.take k)++leN 2 (UInt64.ofInt l[k].1):=by unfold mK;rw [aZ,hx,cU];simp
   have htl:(mK (l.take k)).length=2*k:=by rw [aA0,aG];omega
   generalize l[k]=x at *
   haveI:=cvK x.1
   refine W.k fun b_=>?_
   refine aF (hp3 x) ?_
   intro v7 H7 h7
   have h71:=h7.isOne
   obtain⟨a7,l7,c7,rfl,hl7⟩:=h7.form
   obtain rfl:l7=2:=(by rw [aI,eC] at hl7;omega)
   refine W.k ?_
   refine W.ap h6 (ys:=cbs (leN 2 (UInt64.ofInt x.1))) (mm:=2) (fun w2 hs=>h7.srcAt hs inferInstance) (fun v8 H8 h8=>?_) (hys:=by rw [aI,eC]) (hbytes:=by rw [aI,aI,aB,hfn,htl,eC];omega)
   have h81:=h8.isOne
   rw [show cbs (oA c l.length++mK (l.take k))++cbs (leN 2 (UInt64.ofInt x.1))=cbs (oA c l.length++mK (l.take (k+1))) by rw [hts];simp] at h8
   refine W.k ?_
   refine aQ.mk (k+1,v8,H8) ?_
   exact⟨hkn,h8⟩
  ·have hkl:k=l.length:=oQ
   rw [hkl,bN] at h6
   subst hkl
   refine W.k ?_
   refine bT.mk (v6,H6) ?_
   exact h6
 rintro⟨v6,H6⟩ h6
 dsimp only at h6 ⊢
 have h61:=h6.isOne
 refine W.k ?_
 refine aF (hpd v6) ?_ (hpre:=fun w2 hs=>Rd.own (Hc:=[]) h6 hs inferInstance)
 intro v8 H8 h8
 have h81:=h8.isOne
 have h8R:=RdH.of h8
 obtain⟨a8,l8,c8,rfl,-⟩:=h8.form
 have hb39:bX (fun i=>some (i*1,1)) (zs [.slice none 0 0] 1) [(0,.slice a8 l8 c8)]=some [.slice a8 l8 c8]:=rfl
 refine W.j fun b_=>?_
 generalize b_=b2 at *
 have hE0:Sl 23 1 (.slice (some ⟨b2,0,none⟩) 1 1) ([.slice a8 l8 c8]++us.take 0) [(b2,cl [.slice a8 l8 c8] 23)]:=Sl.own _ 1 b2 (len:=1) rfl
 refine bQ [] [(b2,cl [.slice a8 l8 c8] 23)] (fun x:Value×Hp=>[(6,x.1)]) (fun x=>x.2) (fun x=>Sl 23 1 x.1 (.slice a8 l8 c8::us) x.2) ?_ ?_
 ·refine W.k ?_
  refine bF [41,42] (fun x:Nat×Value×Hp=>[(6,x.2.1),(43,.int .i64 (x.1:Int))]) (fun x=>x.2.2) (fun x=>l.length-x.1) (fun x=>x.1≤l.length∧Sl 23 1 x.2.1 ([.slice a8 l8 c8]++us.take x.1) x.2.2) (0,.slice (some ⟨b2,0,none⟩) 1 1,[(b2,cl [.slice a8 l8 c8] 23)]) ⟨Nat.zero_le _,hE0⟩ ?_
  rintro⟨k,v9,H9⟩ ⟨hk,h9⟩
  dsimp only at hk h9 ⊢
  have h91:=h9.isOne
  by_cases hkn:k<l.length
  ·have hx:=aA hkn
   obtain⟨a2,cap2,hu⟩:=hL.2 k _ hx
   have hz:(List.zipWith (fun u (x:Ent)=>[Value.int .i64 x.1,u]) us l)[k]?=some [.int .i64 l[k].1,.slice a2 l[k].2.length cap2]:=by rw [eK,hu,hx]
   obtain⟨pb,po,lv,T,fz,rfl,hb,hkK,hv⟩:=hg k _ hz
   have hut:us.take (k+1)=us.take k++[.slice a2 l[k].2.length cap2]:=by rw [aZ,hu];rfl
   have hul:(us.take k).length=k:=by rw [aG,hL.1];omega
   generalize l[k]=x at *
   have hb50:bX (fun i=>some (i*1,1)) (zs [.slice none 0 0] 1) [(0,.slice a2 x.2.length cap2)]=some [.slice a2 x.2.length cap2]:=rfl
   refine W.k fun _ b_=>?_
   refine W.ap h9 (ys:=[.slice a2 x.2.length cap2]) (mm:=1) (fun w2 hs=>(Sl.own 23 1 b_ (xs:=[.slice a2 x.2.length cap2]) rfl).srcAt hs inferInstance) (fun v10 H10 h10=>?_) (hys:=rfl) (hbytes:=by rw [aB,hul];simp;omega)
   have h101:=h10.isOne
   rw [aM,← hut] at h10
   refine W.k ?_
   refine aQ.mk (k+1,v10,H10) ?_
   exact⟨hkn,h10⟩
  ·have hkl:k=l.length:=oQ
   rw [hkl,← hL.1,bN] at h9
   subst hkl
   refine W.k ?_
   refine bT.mk (v9,H9) ?_
   exact h9
 rintro⟨v9,H9⟩ h9
 dsimp only at h9 ⊢
 have h91:=h9.isOne
 refine W.k ?_
 refine Fin.to (H9++H8) ?_
 exact F.f1 ⟨_,H9,H8,h9,h8R,rfl⟩
def aJa(Ht:Hp)(o:Option (UInt64×List Ent))(r:Value)(H:Hp):Prop:=match o with
 | none=>r=.tuple #[.agg #[.int .u64 0,.slice none 0 0],.bool false]∧H=[]
 | some x=>∃ ev us,r=.tuple #[.agg #[eG x.1,ev],.bool true]∧Sl 72 2 ev (eD us x.2) H∧RB Ht us (x.2.map Prod.snd)
theorem aIM{p t:Nat}(h:Gm.Ok p t)(v:Value)(vs:List Value)(logs:List (List UInt8)){Ht:Hp}(hR:RB Ht vs logs)(hn:logs.length=1+t)(hb:∀ b∈logs,b.length=256) :
  Tri prog 241 [kF p t,v] Ht (fun w=>Rd (Ht.map Prod.fst) w 1 v vs) (fun r H=>∃ Hn,aJa Ht (nX p t logs) r Hn∧H=Hn++Ht):=by
 refine Tri.mk func241 rfl ntmps241 rfl fun w hw=>?_
 have ht:=h.2.2.2
 have hw0:=hw
 obtain⟨a,la,ca,rfl,hl1,hc1,hr1⟩:=hw.get
 rw [Nat.mul_one,hR.1] at hl1
 subst hl1
 have hY:One (Value.slice a logs.length ca):=⟨rfl⟩
 obtain⟨bb,o,l,T,fz,rfl,hbh,hkK,hy⟩:=hr1 oQ
 have hat:∀ k,k<logs.length→∃ u,l[o+k]?=some u∧RdH Ht u (logs.getD k []):=fun k hk=>by
  obtain⟨u,hu1,hu2⟩:=hR.2 k _ (aA hk)
  refine⟨u,?_,by rw [aC,aA hk];exact hu2⟩
  have h2:((l.drop o).take (logs.length*1))[k]?=vs[k]?:=by rw [hy]
  rw [bE,if_pos oQ,bI,hu1] at h2
  exact h2
 have h256:∀ k,k<logs.length→(logs.getD k []).length=256:=fun k hk=>by
  rw [aC,aA hk];exact hb _ (cE hk)
 obtain⟨u0,hu0,hr0⟩:=hat 0 oQ
 have hx256:=h256 0 oQ
 have hpar:nX p t logs=if jU (((logs.getD 0 []).drop 16).take 2)≤t∧gH p t (jH (logs.getD 0 []) logs (jU (((logs.getD 0 []).drop 16).take 2)))=true∧lJ (yZ (((logs.getD 0 []).drop 8).take 8)) (jH (logs.getD 0 []) logs (jU (((logs.getD 0 []).drop 16).take 2)))=logs.getD 0 [] then some (yZ (((logs.getD 0 []).drop 8).take 8),jH (logs.getD 0 []) logs (jU (((logs.getD 0 []).drop 16).take 2))) else none:=rfl
 rw [hpar]
 clear hpar
 generalize hX:logs.getD 0 []=x at *
 have h0o:=hr0.one
 have hr00:=hr0
 obtain⟨ua,ul,uc,rfl,-⟩:=hr00
 obtain⟨hul,huc⟩:=hr0.len
 have hcut1:=hr0.cut uc 8 16 (uc-8) oQ oQ oQ oQ
 have hcut2:=hr0.cut uc 16 18 (uc-16) oQ oQ oQ oQ
 rw [show 16-8=8 from rfl] at hcut1
 rw [show 18-16=2 from rfl] at hcut2
 have hco1:=hcut1.one
 have hco2:=hcut2.one
 have hg1:=aEn (.slice (lR ua uc 8 1) 8 (uc-8)) ((x.drop 8).take 8) (by rw [aG];omega)
 have hg2:=aEn (.slice (lR ua uc 16 1) 2 (uc-16)) ((x.drop 16).take 2) (by rw [aG];omega)
 refine W.k fun _ b_=>?_
 refine W.sG (l:=8) (h:=16) ?_ (i0:=⟨rfl⟩) (i1:=⟨rfl⟩)
 rw [show 16-8=8 from rfl]
 refine W.k ?_
 refine W.cq hg1 ?_ (hpre:=fun w2 hs=>hcut1.rd (Hc:=[]) hs)
 have hu:Value.int .u64 ((jU ((x.drop 8).take 8):Nat):Int)=eG (yZ ((x.drop 8).take 8)):=by unfold eG;rw [aAf]
 rw [hu]
 clear hu
 generalize yZ ((x.drop 8).take 8)=c at *
 have hb39:bX (fun i=>[(0,1),(1,1)][i]?) [.int .u64 0,.slice none 0 0] [(0,eG c)]=some [eG c,.slice none 0 0]:=rfl
 refine W.k fun b_=>?_
 generalize b_=b9 at *
 refine W.sG (l:=16) (h:=18) ?_ (i0:=⟨rfl⟩) (i1:=⟨rfl⟩)
 rw [show 18-16=2 from rfl]
 refine W.k ?_
 refine W.cq hg2 ?_ (hpre:=fun w2 hs=>hcut2.rd (Hc:=[]) hs)
 have hnl:jU ((x.drop 16).take 2)<65536:=aD7 (by rw [aG];omega)
 generalize jU ((x.drop 16).take 2)=n at *
 haveI:Cv .i64 (n:Int) (n:Int):=⟨w64 oQ⟩
 have hnone:aJa Ht none (.tuple #[.agg #[.int .u64 0,.slice none 0 0],.bool false]) []:=⟨rfl,rfl⟩
 by_cases hn1:n<1
 ·have:n=0:=oQ;subst this
  rw [if_neg (fun hc=>by have:=hc.2.1;unfold gH at this;rw [tM] at this;simp at this)]
  refine W.k ?_
  refine rM Ht [.int .u64 0,.slice none 0 0] ?_
  exact⟨[],hnone,rfl⟩
 by_cases hnt:t<n
 ·rw [if_neg (fun hc=>by omega)]
  refine W.k ?_
  refine rM Ht [.int .u64 0,.slice none 0 0] ?_
  exact⟨[],hnone,rfl⟩
 refine W.j ?_
 refine bQ [1,2,4,6] [(b9,cl [eG c,.slice none 0 0] 75)] (fun _:Value×List Value×Hp=>[]) (fun y=>(b9,cl [eG c,y.1] 75)::y.2.2)
  (fun y=>Sl 72 2 y.1 (eD y.2.1 (jH x logs n)) y.2.2∧RB Ht y.2.1 ((jH x logs n).map Prod.snd)) ?_ ?_
 ·refine W.k ?_
  refine bF [1,2,4,6,7] (fun y:Nat×Value×List Value×Hp=>[(8,.int .i64 (y.1:Int))]) (fun y=>(b9,cl [eG c,y.2.1] 75)::y.2.2.2) (fun y=>n-y.1)
   (fun y=>y.1≤n∧Sl 72 2 y.2.1 (eD y.2.2.1 (jH x logs y.1)) y.2.2.2∧RB Ht y.2.2.1 ((jH x logs y.1).map Prod.snd)) (0,.slice none 0 0,[],[]) ⟨Nat.zero_le _,Sl.nil _ _,RB.nil _⟩ ?_
  rintro⟨k,ev,us,He⟩ ⟨hk,hSe,hRb⟩
  dsimp only at hk hSe hRb ⊢
  have hSe1:=hSe.isOne
  have husl:us.length=(jH x logs k).length:=by rw [hRb.1,aD]
  by_cases hkn:k<n
  ·obtain⟨u,hu,hru⟩:=hat (1+k) oQ
   have hru0:=hru
   have huo:=hru.one
   obtain⟨va,vl,vc,rfl,-⟩:=hru0
   have hcut3:=hr0.cut uc (18+2*k) (20+2*k) (uc-(18+2*k)) oQ oQ oQ oQ
   rw [show 20+2*k-(18+2*k)=2 by omega] at hcut3
   have hco3:=hcut3.one
   have hg3:=aEn (.slice (lR ua uc (18+2*k) 1) 2 (uc-(18+2*k))) ((x.drop (18+2*k)).take 2) (by rw [aG];omega)
   have hK:jU ((x.drop (18+2*k)).take 2)<65536:=aD7 (by rw [aG];omega)
   have hes:=aCe x logs k
   have hel:=tM x logs k
   generalize (x.drop (18+2*k)).take 2=xk at *
   generalize jU xk=K at *
   generalize logs.getD (1+k) []=d at *
   haveI:Cv .i64 (K:Int) (K:Int):=⟨w64 oQ⟩
   haveI:eI (1+(k:Int)) (1+k):=⟨by omega⟩
   haveI:eI (18+2*(k:Int)) (18+2*k):=⟨by omega⟩
   haveI:eI (20+2*(k:Int)) (20+2*k):=⟨by omega⟩
   have hb19:bX (fun i=>[(0,1),(1,1)][i]?) [.int .i64 0,.slice none 0 0] [(0,.int .i64 (K:Int)),(1,.slice va vl vc)]=some [.int .i64 (K:Int),.slice va vl vc]:=rfl
   have hb20:bX (fun i=>some (i*2,2)) (zs [.int .i64 0,.slice none 0 0] 1) [(0,.agg [(.int .i64 (K:Int):Value),.slice va vl vc].toArray)]=some [.int .i64 (K:Int),.slice va vl vc]:=rfl
   refine W.k ?_
   (refine SW.l [21,23] [0,1,2,3,4,5,6,7,8,9,10] ?_;refine dZ 11 rfl (aKg (lo:=none) (hi:=none) rfl rfl rfl rfl oQ oQ) ?_;refine SG.l [14,15,16,17,18] ?_;refine bA 12 ?_)
   rw [show 20+2*k-(18+2*k)=2 by omega]
   refine W.cq hg3 ?_ (hpre:=fun w2 hs=>hcut3.rd (Hc:=[]) hs)
   (refine SL.l [13,19] ?_;refine bA 20 ?_)
   refine iS (fun b6=>?_) (hr:=hb20)
   (refine bC [] ?_;refine bO 21 ?_)
   refine W.ap hSe (ys:=[.int .i64 (K:Int),.slice va vl vc]) (mm:=1) (fun w2 hs=>(Sl.own 72 2 b6 (xs:=[.int .i64 (K:Int),.slice va vl vc]) rfl).srcAt hs inferInstance) (fun v7 H7 h7=>?_) (hys:=rfl) (hbytes:=by rw [fI _ _ husl,hel];simp;omega)
   have h71:=h7.isOne
   rw [← kA husl (.slice va vl vc) ((K:Int),d),← hes] at h7
   (refine SL.l [22] ?_;refine bO 23 ?_;refine W.i ?_;refine SS.dn ?_)
   refine W.k ?_
   rw [show ([eG c,ev]:List Value).set 1 v7=[eG c,v7] from rfl]
   refine aQ.mk (k+1,v7,us++[.slice va vl vc],H7) ?_
   refine⟨hkn,h7,?_⟩
   dsimp only
   rw [hes,aV]
   exact hRb.snoc hru
  ·have hkm:k=n:=oQ
   rw [hkm] at hSe hRb
   refine W.k ?_
   refine bT.mk (ev,us,He) ?_
   exact⟨hSe,hRb⟩
 rintro⟨ev,us,He⟩ ⟨hSe,hRb⟩
 dsimp only at hSe hRb ⊢
 have hSe1:=hSe.isOne
 have hel:=tM x logs n
 have husl:us.length=(jH x logs n).length:=by rw [hRb.1,aD]
 have hLE:=hRb.le
 obtain⟨ea,el,ec,rfl,hell⟩:=hSe.form
 rw [fI _ _ husl,hel] at hell
 have hen0:n=el:=oQ
 subst hen0
 have hl2:([eG c,.slice ea n ec]:List Value).length=2:=rfl
 have hmy:=aHK h c (.slice ea n ec) us _ hLE (by rw [hel];omega)
 have hen:=aHJ c (.slice ea n ec) us _ hRb (by rw [hel];omega)
 by_cases hm:gH p t (jH x logs n)=true
 ·rw [hm] at hmy
  by_cases he:lJ c (jH x logs n)=x
  ·rw [if_pos ⟨by omega,hm,he⟩]
   refine W.k ?_
   (refine SW.l [] [0,1] ?_;refine bA 2 ?_)
   refine W.cq hmy ?_ (hpre:=fun w2 hs=>Rd.own (Hc:=[]) hSe hs inferInstance)
   (refine SL.l [3,4,5,10,11,12] ?_;(first|refine dB 13 rfl ?_|refine zS hr0 13 [] rfl ?_);(first|refine dB 6 rfl ?_;refine SG.l [7,8,9,14,15,16] ?_|refine bA 6 ?_))
   refine aF hen ?_ (hpre:=fun w2 hs=>Rd.own (Hc:=[]) hSe hs inferInstance)
   rintro v64 _ ⟨u64,Hv,Hn,hS64,hr64,rfl⟩
   rcases hS64 with ⟨-,hz,-⟩|⟨eb,elen,ecap,ejunk,rfl,hexl,hej,hec,rfl⟩
   ·cases hz
   have h64o:=hr64.one
   have h64l:((u64::us)++ejunk)[0]?=some u64:=rfl
   rw [he] at hr64
   have hel64:0<elen:=by simp at hexl;omega
   (refine SL.l [7,8] ?_;(first|refine dB 9 rfl ?_|refine zS hr64 9 [] rfl ?_);(first|refine dB 14 rfl ?_|refine dZ 14 rfl (aHB rfl rfl rfl rfl) ?_);refine SG.l [15,16] ?_)
   refine W.k ?_
   refine rM (He++Ht) [eG c,.slice ea n ec] ?_
   exact⟨He,⟨_,us,rfl,hSe,hRb⟩,rfl⟩
  ·rw [if_neg (fun hc=>he hc.2.2)]
   refine W.k ?_
   (refine SW.l [] [0,1] ?_;refine bA 2 ?_)
   refine W.cq hmy ?_ (hpre:=fun w2 hs=>Rd.own (Hc:=[]) hSe hs inferInstance)
   (refine SL.l [3,4,5,10,11,12] ?_;(first|refine dB 13 rfl ?_|refine zS hr0 13 [] rfl ?_);(first|refine dB 6 rfl ?_;refine SG.l [7,8,9,14,15,16] ?_|refine bA 6 ?_))
   refine aF hen ?_ (hpre:=fun w2 hs=>Rd.own (Hc:=[]) hSe hs inferInstance)
   rintro v64 _ ⟨u64,Hv,Hn,hS64,hr64,rfl⟩
   rcases hS64 with ⟨-,hz,-⟩|⟨eb,elen,ecap,ejunk,rfl,hexl,hej,hec,rfl⟩
   ·cases hz
   have h64o:=hr64.one
   have h64l:((u64::us)++ejunk)[0]?=some u64:=rfl
   have hel64:0<elen:=by simp at hexl;omega
   (refine SL.l [7,8] ?_;(first|refine dB 9 rfl ?_|refine zS hr64 9 [] rfl ?_);(first|refine dB 14 rfl ?_|refine dZ 14 rfl (aLU rfl rfl rfl he) ?_);refine SG.l [15,16] ?_)
   refine W.k ?_
   refine rM Ht [.int .u64 0,.slice none 0 0] ?_
   exact⟨[],hnone,rfl⟩
 ·rw [if_neg (fun hc=>hm hc.2.1)]
  rw [show gH p t (jH x logs n)=false by simpa using hm] at hmy
  refine W.k ?_
  (refine SW.l [] [0,1] ?_;refine bA 2 ?_)
  refine W.cq hmy ?_ (hpre:=fun w2 hs=>Rd.own (Hc:=[]) hSe hs inferInstance)
  (refine SL.l [3,4,5,10,11,12,13] ?_;(first|refine dB 6 rfl ?_;refine SG.l [7,8,9,14,15,16] ?_|refine bA 6 ?_))
  refine W.k ?_
  refine rM Ht [.int .u64 0,.slice none 0 0] ?_
  exact⟨[],hnone,rfl⟩
end
end Go.Proofs.YtnhnpjokpelkbaaGreat
