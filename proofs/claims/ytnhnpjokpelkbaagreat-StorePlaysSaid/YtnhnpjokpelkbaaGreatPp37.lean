/- The steps of a Commit: may it be, the log is written, it counts, the blocks are laid, the log is scrubbed. (A draft: not built yet.) -/
import Derived.Test.YtnhnpjokpelkbaaGreatPp36
set_option linter.unusedVariables false
set_option linter.unusedSimpArgs false
set_option linter.unusedSectionVars false
set_option maxHeartbeats 4000000
namespace Go.Proofs.YtnhnpjokpelkbaaGreat
open Go Go.Proofs.Tryz
section
attribute [local irreducible] SW SL SQ SH SA SS Pu Fin bT aQ
theorem aOp{sp d tr s bk p t:Nat}(h:Gm.Ok p t){x:So}{r:Rg}(hr:r.Ok){ev tv:Value}(o0:One ev)(o1:One tv)(lv:Value)(us:List Value)(l:List Ent)(hL:LE us l)(hn:l.length≤1000000) :
  Tri prog 56 [ptv sp,lv] [(sp,cl (fT d tr s bk p t ev tv x.w x.st) 98),(tr,cl (trc d r) 201)] (fun w=>Rd [sp,tr] w 2 lv (eD us l))
  (fun v H=>v=.int .i64 (lQ p t r x l)∧H=[(sp,cl (fT d tr s bk p t ev tv x.w x.st) 98),(tr,cl (trc d r) 201)]):=by
 refine Tri.mk func56 rfl ntmps56 rfl fun w hw=>?_
 have hw2:=hw
 obtain⟨a,la,ca,rfl,hl1,hc1,-⟩:=hw.get
 rw [fI us l hL.1] at hl1
 obtain rfl:la=l.length:=by omega
 have hst:=aF1 (sp:=sp) (F0:=fT d tr s bk p t ev tv x.w x.st) (st:=x.st) rfl
 have hlast:=aJU tr d r hr
 have hmy:=fun c=>aGB h c (.slice a l.length ca) us l hL hn
 have hm0:=hmy 0
 have ht:=h.2.2.2
 by_cases h0:x.st≠0
 ·have e:lQ p t r x l=x.st:=by unfold lQ;rw [if_pos h0]
  rw [e]
  refine W.k ?_
  refine W.cw hst ?_
  refine W.cw hst ?_
  refine Fin.to [(sp,cl (fT d tr s bk p t ev tv x.w x.st) 98),(tr,cl (trc d r) 201)] ?_
  exact F.f1 ⟨rfl,rfl⟩
 have h0':x.st=0:=Decidable.not_not.1 h0
 cases hwr:x.w with
 | false=>
  have e:lQ p t r x l=29:=by unfold lQ;rw [if_neg h0,if_pos hwr]
  rw [e]
  rw [hwr] at hst
  refine W.k ?_
  refine W.cw hst ?_
  refine Fin.to [(sp,cl (fT d tr s bk p t ev tv false x.st) 98),(tr,cl (trc d r) 201)] ?_
  exact F.f1 ⟨rfl,rfl⟩
 | true=>
  rw [hwr] at hst
  by_cases hc:r.c=18446744073709551615
  ·have e:lQ p t r x l=21:=by unfold lQ;rw [if_neg h0,if_neg (by rw [hwr];decide),if_pos hc]
   rw [e]
   rw [decide_eq_true hc] at hlast
   refine W.k ?_
   refine W.cw hst ?_
   refine W.cw hlast ?_
   refine Fin.to [(sp,cl (fT d tr s bk p t ev tv true x.st) 98),(tr,cl (trc d r) 201)] ?_
   exact F.f1 ⟨rfl,rfl⟩
  ·rw [decide_eq_false hc] at hlast
   by_cases hlt:t<l.length
   ·have e:lQ p t r x l=28:=by unfold lQ;rw [if_neg h0,if_neg (by rw [hwr];decide),if_neg hc,if_pos hlt]
    rw [e]
    refine W.k ?_
    refine W.cw hst ?_
    refine W.cw hlast ?_
    refine Fin.to [(sp,cl (fT d tr s bk p t ev tv true x.st) 98),(tr,cl (trc d r) 201)] ?_
    exact F.f1 ⟨rfl,rfl⟩
   ·have e:lQ p t r x l=if l≠[]∧mR p (-1) l=false then 1 else 0:=by unfold lQ;rw [if_neg h0,if_neg (by rw [hwr];decide),if_neg hc,if_neg hlt]
    by_cases hl0:l.length=0
    ·obtain rfl:l=[]:=bJ hl0
     rw [if_neg (fun hh=>hh.1 rfl)] at e
     rw [e]
     refine W.k ?_
     refine W.cw hst ?_
     refine W.cw hlast ?_
     refine Fin.to [(sp,cl (fT d tr s bk p t ev tv true x.st) 98),(tr,cl (trc d r) 201)] ?_
     exact F.f1 ⟨rfl,rfl⟩
    ·have hne:l≠[]:=fun hh=>hl0 (by rw [hh];rfl)
     have em:gH p t l=mR p (-1) l:=by unfold gH;rw [decide_eq_true (show 1≤l.length∧l.length≤t by omega),iY]
     rw [em] at hm0
     cases hml:mR p (-1) l with
     | false=>
      rw [hml] at hm0
      rw [if_pos ⟨hne,hml⟩] at e
      rw [e]
      refine W.k ?_
      refine W.cw hst ?_
      refine W.cw hlast ?_
      refine W.cw hm0 ?_ (hpre:=fun w2 hs=>hw2.ro (Hc:=[]) hs)
      refine Fin.to [(sp,cl (fT d tr s bk p t ev tv true x.st) 98),(tr,cl (trc d r) 201)] ?_
      exact F.f1 ⟨rfl,rfl⟩
     | true=>
      rw [hml] at hm0
      rw [if_neg (fun hh=>by rw [hml] at hh;cases hh.2)] at e
      rw [e]
      refine W.k ?_
      refine W.cw hst ?_
      refine W.cw hlast ?_
      refine W.cw hm0 ?_ (hpre:=fun w2 hs=>hw2.ro (Hc:=[]) hs)
      refine Fin.to [(sp,cl (fT d tr s bk p t ev tv true x.st) 98),(tr,cl (trc d r) 201)] ?_
      exact F.f1 ⟨rfl,rfl⟩
abbrev chC(sp:Nat)(cnt:Int)(Lv bv nv tv tp:Value)(g:Rg):List Value:=[ptv sp,.int .u64 cnt,Lv,bv,nv,tv,tp]++rgc g
theorem aIg{cp sp d tr s bk p t:Nat}(h:Gm.Ok p t){cnt st:Int}{Lv bv nv tv tp ev tt:Value}{wt:Bool}{g:Rg}{bss:List (List UInt8)}{σ:Dv}{Hd Hb:Hp}(hD:fD d σ Hd)(h8:σ.ws.length%8=0)(hB:Bls bv bss Hb)(o1:One Lv)(o2:One nv)(o3:One tv)(o4:One tp)(o5:One ev)(o6:One tt)(hn:bss.length≤1+t)(hn1:1≤bss.length)(hb:∀ b∈bss,b.length=256) :
  Tri prog 59 [ptv cp] ((cp,cl (chC sp cnt Lv bv nv tv tp g) 227)::(sp,cl (fT d tr s bk p t ev tt wt st) 98)::(Hd++Hb)) (fun _=>True)
  (fun r H=>r=.int .i64 ((putL (fR (Gm.leaves p) bss)).and feS σ).1∧∃ Hd',fD d ((putL (fR (Gm.leaves p) bss)).and feS σ).2 Hd'∧H=(cp,cl (chC sp cnt Lv bv nv tv tp g) 227)::(sp,cl (fT d tr s bk p t ev tt wt st) 98)::(Hd'++Hb)):=by
 obtain⟨vs,Hv,Ht,hS,hR,rfl⟩:=hB
 have hbo:=hS.isOne
 have hvl:=hR.1
 have hll:=Gm.leaves_le h
 have ht:=h.2.2.2
 rcases hS with ⟨-,hz,-⟩|⟨bb,len,cap,junk,rfl,hxl,hj,hlc,rfl⟩
 ·rw [hz] at hvl;simp at hvl;omega
 obtain rfl:len=bss.length:=by omega
 refine Tri.mk func59 rfl ntmps59 rfl fun w hw=>?_
 refine W.j ?_
 refine bQ [0] Hd (fun _:Dv×Hp=>[]) (fun x=>x.2) (fun x=>fD d x.1 x.2∧putL (fR (Gm.leaves p) bss) σ=(0,x.1)) ?_ ?_
 ·refine W.k ?_
  refine bF [0,9,10] (fun x:Nat×Dv×Hp=>[(11,.int .i64 (x.1:Int))]) (fun x=>x.2.2) (fun x=>bss.length-x.1) (fun x=>x.1≤bss.length∧fD d x.2.1 x.2.2∧putL ((fR (Gm.leaves p) bss).take x.1) σ=(0,x.2.1)) (0,σ,Hd) ⟨Nat.zero_le _,hD,by rw [cT];rfl⟩ ?_
  rintro⟨k,σ2,Hd⟩ ⟨hk,hD,hp⟩
  dsimp only at hk hD hp ⊢
  by_cases hkn:k<bss.length
  ·have hbk:=aA hkn
   have hbl:=hb _ (cE hkn)
   have hrow:(fR (Gm.leaves p) bss)[k]?=some (Gm.leaves p+k,bss[k]):=by unfold fR;rw [dC,hbk];rfl
   obtain⟨hs1,hs2⟩:=rK hp hrow
   dsimp only at hs1 hs2
   have hwl:σ2.ws.length=σ.ws.length:=by have:=jD ((fR (Gm.leaves p) bss).take k) σ;rw [hp] at this;exact this
   have hla:=aCj h (k:Int)
   rw [show Gm.atK (1+t) (Gm.leaves p) (k:Int)=((Gm.leaves p+k:Nat):Int) by unfold Gm.atK;rw [if_pos oQ];omega] at hla
   obtain⟨u,hu1,hu2⟩:=hR.2 k _ hbk
   have hv:(vs++junk)[k]?=some u:=by rw [aL oQ];exact hu1
   have huo:=hu2.one
   have hpt:=aFP (tr:=tr) (s:=s) (bk:=bk) (p:=p) (t:=t) hD (by rw [hwl];exact h8) (Gm.leaves p+k) oQ u bss[k] oQ
   generalize bss[k]=b at *
   refine W.k ?_
   (refine SW.l [18] [0,1,2,3,4,5,6,7,8,9,10,11,12,13,14,15,17] ?_;refine bA 16 ?_)
   refine W.cq hla ?_
   (refine bC [] ?_;refine bO 18 ?_)
   refine aF hpt ?_ (hpre:=fun w2 hs=>hu2.rd (Hc:=Hd) hs)
   rintro _ Hd2 ⟨rfl,hD2⟩
   (refine SL.l [19,20] ?_)
   by_cases h0:(fH (Gm.leaves p+k) b σ2).1=0
   ·rw [if_pos h0] at hs1
    refine W.k ?_
    refine aQ.mk (k+1,(fH (Gm.leaves p+k) b σ2).2,Hd2) ?_
    exact⟨hkn,hD2,hs1⟩
   ·have he:=hs2 h0
    have hwd:(putL (fR (Gm.leaves p) bss)).and feS σ=fH (Gm.leaves p+k) b σ2:=by
     unfold DS.and
     rw [he,if_neg h0]
    rw [hwd]
    refine W.k ?_
    refine Fin.to ((cp,cl (chC sp cnt Lv (.slice (some ⟨bb,0,none⟩) bss.length cap) nv tv tp g) 227)::(sp,cl (fT d tr s bk p t ev tt wt st) 98)::(Hd2++([(bb,cl (vs++junk) 23)]++Ht))) ?_
    exact F.f1 ⟨rfl,Hd2,hD2,rfl⟩
  ·have hkn:k=bss.length:=oQ
   rw [aAo (by unfold fR;rw [lL];omega)] at hp
   subst hkn
   refine W.k ?_
   refine bT.mk (σ2,Hd) ?_
   exact⟨hD,hp⟩
 rintro⟨σ2,Hd⟩ ⟨hD,hp⟩
 dsimp only at hD hp ⊢
 have hwd:(putL (fR (Gm.leaves p) bss)).and feS σ=feS σ2:=DS.and_eq hp
 have hfe:=aBE hD
 rw [hwd]
 refine W.k ?_
 refine aF hfe ?_
 rintro _ Hd2 ⟨rfl,hD2⟩
 refine W.k ?_
 refine Fin.to ((cp,cl (chC sp cnt Lv (.slice (some ⟨bb,0,none⟩) bss.length cap) nv tv tp g) 227)::(sp,cl (fT d tr s bk p t ev tt wt st) 98)::(Hd2++([(bb,cl (vs++junk) 23)]++Ht))) ?_
 exact F.f1 ⟨rfl,Hd2,hD2,rfl⟩
theorem aIc{cp sp d tr s bk p t:Nat}{cnt st:Int}{Lv bv nv tv tp ev tt:Value}{wt:Bool}{r g:Rg}(hr:r.Ok)(hg:g.Ok){σ:Dv}{Hd:Hp}(hD:fD d σ Hd)(o0:One bv)(o1:One Lv)(o2:One nv)(o3:One tv)(o4:One tp)(o5:One ev)(o6:One tt) :
  Tri prog 60 [ptv cp] ((cp,cl (chC sp cnt Lv bv nv tv tp g) 227)::(sp,cl (fT d tr s bk p t ev tt wt st) 98)::(tr,cl (trc d r) 201)::Hd) (fun _=>True)
  (fun v H=>v=.int .i64 (kB g (σ,r)).1∧∃ Hd',fD d (kB g (σ,r)).2.1 Hd'∧H=(cp,cl (chC sp cnt Lv bv nv tv tp g) 227)::(sp,cl (if (kB g (σ,r)).1=0 then fT d tr s bk p t nv tp wt st else fT d tr s bk p t ev tt wt st) 98)::(tr,cl (trc d (kB g (σ,r)).2.2) 201)::Hd'):=by
 refine Tri.mk func60 rfl ntmps60 rfl fun w hw=>?_
 have hs:=aKK tr d r g hr hg hD
 have c7:((chC sp cnt Lv bv nv tv tp g).drop (0+7)).take 33=rgc g:=by
  show (rgc g).take 33=rgc g
  rw [aK (by simp [rgc,hg.len])]
 have cl40:(chC sp cnt Lv bv nv tv tp g).length=40:=by simp [rgc,hg.len]
 have cg:(rgc g).length=33:=by simp [rgc,hg.len]
 refine W.k ?_
 (refine SW.l [12] [0,1,2,3,4,5,6,7,8,9,10,11] ?_;refine bO 12 ?_)
 refine aF hs ?_
 rintro _ _ ⟨rfl,H2,rfl,hD2⟩
 (refine SL.l [13,14] ?_)
 have e:(kB g (σ,r)).1=qO σ r g:=rfl
 by_cases h0:qO σ r g=0
 ·rw [e,if_pos h0]
  refine W.k ?_
  (refine SW.l [18,21] [0,1,2,3,4,5,6,7,8,9,10,11,12,13,14,15,16,17] ?_;refine bO 18 ?_;refine W.i ?_;refine SG.l [19,20] ?_;refine bO 21 ?_;refine W.i ?_;refine SS.dn ?_)
  refine W.k ?_
  rw [show ((fT d tr s bk p t ev tt wt st).set 6 nv).set 7 tp=fT d tr s bk p t nv tp wt st from rfl]
  refine Fin.to ((cp,cl (chC sp cnt Lv bv nv tv tp g) 227)::(sp,cl (fT d tr s bk p t nv tp wt st) 98)::(tr,cl (trc d (oI σ r g)) 201)::H2) ?_
  exact F.f1 ⟨by rw [h0],H2,hD2,rfl⟩
 ·rw [e,if_neg h0]
  refine W.k ?_
  refine Fin.to ((cp,cl (chC sp cnt Lv bv nv tv tp g) 227)::(sp,cl (fT d tr s bk p t ev tt wt st) 98)::(tr,cl (trc d (oI σ r g)) 201)::H2) ?_
  exact F.f1 ⟨rfl,H2,hD2,rfl⟩
theorem aLJ(c:UInt64)(a:Option Addr)(n cap:Nat)(hn:n≤1000000):Tri prog 125 [.agg #[eG c,.slice a n cap]] [] (fun _=>True) (fun v H=>v=.int .i64 ((1+n:Nat):Int)∧H=[]):=by
 refine Tri.mk func125 rfl ntmps125 rfl fun w hw=>?_
 refine W.k fun b_=>?_
 refine Fin.to [] ?_
 exact F.f1 ⟨by congr 1,rfl⟩
theorem aFh{cp sp d tr s bk p t n cap:Nat}(h:Gm.Ok p t){st:Int}{c:UInt64}{a:Option Addr}{bv nv tv tp ev tt:Value}{wt:Bool}{g:Rg}{σ:Dv}{Hd:Hp}(hD:fD d σ Hd)(h8:σ.ws.length%8=0)(hn:n≤t)(o0:One bv)(o2:One nv)(o3:One tv)(o4:One tp)(o5:One ev)(o6:One tt) :
  Tri prog 62 [ptv cp] ((cp,cl (chC sp (c.toNat:Int) (.slice a n cap) bv nv tv tp g) 227)::(sp,cl (fT d tr s bk p t ev tt wt st) 98)::Hd) (fun _=>True)
  (fun v H=>v=.int .i64 (gB (Gm.leaves p) (1+n) σ).1∧∃ Hd',fD d (gB (Gm.leaves p) (1+n) σ).2 Hd'∧H=(cp,cl (chC sp (c.toNat:Int) (.slice a n cap) bv nv tv tp g) 227)::(sp,cl (fT d tr s bk p t ev tt wt st) 98)::Hd'):=by
 have ht:=h.2.2.2
 have hsz:=aLJ c a n cap oQ
 have hsc:=aHR (tr:=tr) (s:=s) (bk:=bk) h hD h8 (1+n) oQ
 refine Tri.mk func62 rfl ntmps62 rfl fun w hw=>?_
 refine W.k ?_
 (refine SW.l [12] [0,1,2,3,4,5,6,7,8,9,10] ?_;refine bA 11 ?_)
 refine W.cq hsz ?_
 (refine bC [] ?_;refine bO 12 ?_)
 refine aF hsc ?_
 rintro _ Hd2 ⟨rfl,hD2⟩
 (refine SL.l [13,14] ?_)
 refine W.k ?_
 refine Fin.to ((cp,cl (chC sp (c.toNat:Int) (.slice a n cap) bv nv tv tp g) 227)::(sp,cl (fT d tr s bk p t ev tt wt st) 98)::Hd2) ?_
 exact F.f1 ⟨rfl,Hd2,hD2,rfl⟩
theorem aHq{p:Nat}(es:List UInt64){l:List Ent}{k:Nat}{x:Ent}(h:l[k]?=some x):(nN p es l)[k]?=some (Ks p x.1.toNat,x.2):=by
 have hk:=(aE.1 h).1
 unfold nN
 rw [aL (by rw [aD];exact hk),aJ,h]
 rfl
theorem aFw{p:Nat}(es:List UInt64){l:List Ent}{k q:Nat}(h:(cZ l)[k]?=some q):(nN p es l)[l.length+k]?=some (1+q,epB q es):=by
 unfold nN
 rw [aY (by rw [aD];omega),aD,show l.length+k-l.length=k by omega,aJ,h]
 rfl
theorem aFv(p:Nat)(es:List UInt64)(l:List Ent):(nN p es l).length=l.length+(cZ l).length:=by unfold nN;rw [aB,aD,aD]
theorem aLu{cp sp d tr s bk p t:Nat}(h:Gm.Ok p t){cnt st:Int}{Lv bv nx tv tp ev tt:Value}{wt:Bool}{g:Rg}{us:List Value}{l:List Ent}{es:List UInt64}{σ:Dv}{Hd He Ht Hn Hq:Hp}(hD:fD d σ Hd)(h8:σ.ws.length%8=0)(hm:gH p t l=true)(hLe:Sl 136 2 Lv (eD us l) He)(hR:RB Ht us (l.map Prod.snd))(hE:Sl 33 1 nx (uv es) Hn)(hes:es.length=Gm.sealed p)(hT:Sl 3 1 tv (nv (cZ l)) Hq)(o0:One bv)(o4:One tp)(o5:One ev)(o6:One tt) :
  Tri prog 61 [ptv cp] ((cp,cl (chC sp cnt Lv bv nx tv tp g) 227)::(sp,cl (fT d tr s bk p t ev tt wt st) 98)::(Hd++((He++Ht)++(Hn++Hq)))) (fun _=>True)
  (fun v H=>v=.int .i64 (uY p es l σ).1∧∃ Hd',fD d (uY p es l σ).2 Hd'∧H=(cp,cl (chC sp cnt Lv bv nx tv tp g) 227)::(sp,cl (fT d tr s bk p t ev tt wt st) 98)::(Hd'++((He++Ht)++(Hn++Hq)))):=by
 have hll:=Gm.leaves_le h
 have hsl:=Gm.sealed_le h
 have hel:=Gm.epochs_le h
 have hLq:Gm.leaves p=1+Gm.epochs p+Gm.sealed p:=rfl
 have ht:=h.2.2.2
 have hesl:1≤l.length∧l.length≤t:=by unfold gH at hm;rw [bM,decide_eq_true_iff] at hm;exact hm.1
 have hmall:∀ (k:Nat) (x:Ent),l[k]?=some x → -1<x.1∧x.1<(Gm.sealed p:Nat)∧x.2.length=256:=by unfold gH at hm;rw [bM] at hm;exact lX hm.2
 have htlt:=rE hm
 have htle:=pX l
 have hul:us.length=l.length:=by rw [hR.1,aD]
 have hoc:=hR.oc
 have hel2:=fI us l hul
 have hE1:=hE.isOne
 have hT1:=hT.isOne
 obtain⟨ta,tl,tc2,rfl,htl⟩:=hT.form
 rw [Nat.mul_one,aD] at htl
 subst htl
 rcases hLe with ⟨-,hz,-⟩|⟨eb,elen,ecap,ejunk,rfl,hexl,hej,hec,rfl⟩
 ·rw [hz] at hel2;simp at hel2;omega
 obtain rfl:elen=l.length:=by omega
 have hlay:uY p es l=(putL (nN p es l)).and feS:=rfl
 rw [hlay]
 have hlen:=aFv p es l
 have hat:=fun k x hx=>aHq (p:=p) es (l:=l) (k:=k) (x:=x) hx
 have htab:=fun k q hx=>aFw (p:=p) es (l:=l) (k:=k) (q:=q) hx
 generalize nN p es l=rows at *
 refine Tri.mk func61 rfl ntmps61 rfl fun w hw=>?_
 refine W.j ?_
 refine bQ [0] Hd (fun _:Dv×Hp=>[]) (fun x=>x.2) (fun x=>fD d x.1 x.2∧putL (rows.take l.length) σ=(0,x.1)) ?_ ?_
 ·refine W.k ?_
  refine bF [0,14,15] (fun x:Nat×Dv×Hp=>[(16,.int .i64 (x.1:Int))]) (fun x=>x.2.2) (fun x=>l.length-x.1) (fun x=>x.1≤l.length∧fD d x.2.1 x.2.2∧putL (rows.take x.1) σ=(0,x.2.1)) (0,σ,Hd) ⟨Nat.zero_le _,hD,by rw [cT];rfl⟩ ?_
  rintro⟨k,σ2,Hd⟩ ⟨hk,hD,hp⟩
  dsimp only at hk hD hp ⊢
  by_cases hkn:k<l.length
  ·have hx:=aA hkn
   obtain⟨u,huk,hru⟩:=hR.2 k l[k].2 (by rw [aJ,hx];rfl)
   have hrow:=uS (junk:=ejunk) hul huk hx
   obtain⟨hx1,hx2,hx3⟩:=hmall k _ hx
   obtain⟨hs1,hs2⟩:=rK hp (hat k _ hx)
   dsimp only at hs1 hs2
   have huo:=hru.one
   have hwl:σ2.ws.length=σ.ws.length:=by have:=jD (rows.take k) σ;rw [hp] at this;exact this
   generalize l[k]=x at *
   obtain⟨K,hKK⟩:∃ K:Nat,x.1=(K:Int):=⟨x.1.toNat,by omega⟩
   rw [hKK] at hrow
   rw [show x.1.toNat=K by omega] at hs1 hs2
   have hsa:=qH h (K:Int)
   rw [show Gm.atK (Gm.sealed p) (1+Gm.epochs p) (K:Int)=((Ks p K:Nat):Int) by unfold Gm.atK;rw [if_pos oQ];show _=((1+Gm.epochs p+K:Nat):Int);omega] at hsa
   have hpt:=aFP (tr:=tr) (s:=s) (bk:=bk) (p:=p) (t:=t) hD (by rw [hwl];exact h8) (Ks p K) (by show 1+Gm.epochs p+K<_;omega) u x.2 oQ
   refine W.k fun b_=>?_
   (refine SW.l [20] [0,1,2,3,4,5,6,7,8,9,10,11,12,13,14,15,16,18,19] ?_;refine bA 17 ?_)
   refine W.cq hsa ?_
   (refine bC [] ?_;refine bO 20 ?_)
   refine aF hpt ?_ (hpre:=fun w2 hs=>hru.rd (Hc:=Hd) hs)
   rintro _ Hd2 ⟨rfl,hD2⟩
   (refine SL.l [21,22] ?_)
   by_cases h0:(fH (Ks p K) x.2 σ2).1=0
   ·rw [if_pos h0] at hs1
    refine W.k ?_
    refine aQ.mk (k+1,(fH (Ks p K) x.2 σ2).2,Hd2) ?_
    exact⟨hkn,hD2,hs1⟩
   ·have hwd:(putL rows).and feS σ=fH (Ks p K) x.2 σ2:=by
     unfold DS.and
     rw [hs2 h0,if_neg h0]
    rw [hwd]
    refine W.k ?_
    refine Fin.to ((cp,cl (chC sp cnt (.slice (some ⟨eb,0,none⟩) l.length ecap) bv nx (.slice ta (cZ l).length tc2) tp g) 227)::(sp,cl (fT d tr s bk p t ev tt wt st) 98)::(Hd2++(([(eb,cl (eD us l++ejunk) 136)]++Ht)++(Hn++Hq)))) ?_
    exact F.f1 ⟨rfl,Hd2,hD2,rfl⟩
  ·have hkl:k=l.length:=oQ
   subst hkl
   refine W.k ?_
   refine bT.mk (σ2,Hd) ?_
   exact⟨hD,hp⟩
 rintro⟨σ1,Hd⟩ ⟨hD,hp1⟩
 dsimp only at hD hp1 ⊢
 have hwl1:σ1.ws.length=σ.ws.length:=by have:=jD (rows.take l.length) σ;rw [hp1] at this;exact this
 refine W.j ?_
 refine bQ [0] Hd (fun _:Dv×Hp=>[]) (fun x=>x.2) (fun x=>fD d x.1 x.2∧putL rows σ=(0,x.1)) ?_ ?_
 ·refine W.k ?_
  refine bF [0,48,49] (fun x:Nat×Dv×Hp=>[(50,.int .i64 (x.1:Int))]) (fun x=>x.2.2) (fun x=>(cZ l).length-x.1) (fun x=>x.1≤(cZ l).length∧fD d x.2.1 x.2.2∧putL (rows.take (l.length+x.1)) σ=(0,x.2.1)) (0,σ1,Hd) ⟨Nat.zero_le _,hD,hp1⟩ ?_
  rintro⟨k,σ2,Hd⟩ ⟨hk,hD,hp⟩
  dsimp only at hk hD hp ⊢
  by_cases hkn:k<(cZ l).length
  ·rcases hT with ⟨hz,hz2,-⟩|⟨qb,qlen,qcap,qjunk,hz,hqxl,hqj,hqc,rfl⟩
   ·simp only [Value.slice.injEq] at hz;omega
   simp only [Value.slice.injEq] at hz
   obtain⟨rfl,rfl,rfl⟩:=hz
   have hx:=aA hkn
   have hlu:(nv (cZ l)++qjunk)[k]?=some (.int .i64 (((cZ l)[k]:Nat):Int)):=by
    rw [aL (by rw [aD];exact hkn),aJ,hx];rfl
   have hlt:=htlt _ (cE hkn)
   obtain⟨hs1,hs2⟩:=rK hp (htab k _ hx)
   dsimp only at hs1 hs2
   rw [mA] at hs1
   have hwl:σ2.ws.length=σ.ws.length:=by have:=jD (rows.take (l.length+k)) σ;rw [hp] at this;exact this
   generalize (cZ l)[k]=q at *
   have hsb:=aAB h q hlt nx es hes
   have hea:=uW h (q:Int)
   rw [show Gm.atK (Gm.epochs p) 1 (q:Int)=((1+q:Nat):Int) by unfold Gm.atK;rw [if_pos oQ];omega] at hea
   refine W.k ?_
   (refine SW.l [13] [0,1,2,3,4,5,6,7,8,9,10,11,12] ?_;refine bO 13 ?_)
   refine aF hsb ?_ (hpre:=fun w2 hs=>Rd.own (Hc:=[]) hE hs inferInstance)
   rintro _ _ ⟨b5,rfl,rfl⟩
   have h5:Sl 5 1 (.slice (some ⟨b5,0,none⟩) 256 256) (cbs (epB q es)) [(b5,cl (cbs (epB q es)) 5)]:=Sl.own _ _ _ (len:=256) (by rw [aI,nA])
   have hpt:=aFP (tr:=tr) (s:=s) (bk:=bk) (p:=p) (t:=t) hD (by rw [hwl];exact h8) (1+q) oQ (.slice (some ⟨b5,0,none⟩) 256 256) (epB q es) (by rw [nA];decide)
   generalize epB q es=eb5 at *
   (refine SL.l [14,15,16,17,18,19] ?_)
   refine W.k ?_
   (refine SW.l [18] [0,1,2,3,4,5,6,7,8,9,10,11,12,13,14,15,17] ?_;refine bA 16 ?_)
   refine W.cq hea ?_
   (refine bC [] ?_;refine bO 18 ?_)
   refine aF hpt ?_ (hpre:=fun w2 hs=>Rd.own (Hc:=Hd) h5 hs inferInstance)
   rintro _ Hd2 ⟨rfl,hD2⟩
   (refine SL.l [19,20] ?_)
   by_cases h0:(fH (1+q) eb5 σ2).1=0
   ·rw [if_pos h0] at hs1
    refine W.k ?_
    refine aQ.mk (k+1,(fH (1+q) eb5 σ2).2,Hd2) ?_
    exact⟨hkn,hD2,hs1⟩
   ·have hwd:(putL rows).and feS σ=fH (1+q) eb5 σ2:=by
     unfold DS.and
     rw [hs2 h0,if_neg h0]
    rw [hwd]
    refine W.k ?_
    refine Fin.to ((cp,cl (chC sp cnt (.slice (some ⟨eb,0,none⟩) l.length ecap) bv nx (.slice (some ⟨qb,0,none⟩) (cZ l).length tc2) tp g) 227)::(sp,cl (fT d tr s bk p t ev tt wt st) 98)::(Hd2++(([(eb,cl (eD us l++ejunk) 136)]++Ht)++(Hn++[(qb,cl (nv (cZ l)++qjunk) 3)])))) ?_
    exact F.f1 ⟨rfl,Hd2,hD2,rfl⟩
  ·have hkl:k=(cZ l).length:=oQ
   rw [aAo oQ] at hp
   subst hkl
   refine W.k ?_
   refine bT.mk (σ2,Hd) ?_
   exact⟨hD,hp⟩
 rintro⟨σ2,Hd⟩ ⟨hD,hp⟩
 dsimp only at hD hp ⊢
 have hwd:(putL rows).and feS σ=feS σ2:=DS.and_eq hp
 have hfe:=aBE hD
 rw [hwd]
 refine W.k ?_
 refine aF hfe ?_
 rintro _ Hd2 ⟨rfl,hD2⟩
 refine W.k ?_
 refine Fin.to ((cp,cl (chC sp cnt (.slice (some ⟨eb,0,none⟩) l.length ecap) bv nx (.slice ta (cZ l).length tc2) tp g) 227)::(sp,cl (fT d tr s bk p t ev tt wt st) 98)::(Hd2++(([(eb,cl (eD us l++ejunk) 136)]++Ht)++(Hn++Hq)))) ?_
 exact F.f1 ⟨rfl,Hd2,hD2,rfl⟩
theorem aN5{sp d tr p t:Nat}(h:Gm.Ok p t){c:UInt64}{Lv nx:Value}{us:List Value}{l:List Ent}{es:List UInt64}{σ:Dv}{Hd He Ht Hn:Hp}(hD:iA d σ Hd)(h8:σ.ws.length%8=0)(hm:gH p t l=true)(hLe:Sl 72 2 Lv (eD us l) He)(hR:RB Ht us (l.map Prod.snd))(hE:Sl 33 1 nx (uv es) Hn) :
  Tri prog 206 [qV d tr sp p t,.agg #[eG c,Lv],nx] (Hd++((He++Ht)++Hn)) (fun _=>True)
  (fun v H=>v=.int .i64 (uY p es l σ).1∧∃ Hd',iA d (uY p es l σ).2 Hd'∧H=Hd'++((He++Ht)++Hn)):=by
 have hll:=Gm.leaves_le h
 have hsl:=Gm.sealed_le h
 have hel:=Gm.epochs_le h
 have hLq:Gm.leaves p=1+Gm.epochs p+Gm.sealed p:=rfl
 have ht:=h.2.2.2
 have hesl:1≤l.length∧l.length≤t:=by unfold gH at hm;rw [bM,decide_eq_true_iff] at hm;exact hm.1
 have hmL:mR p (-1) l=true:=by unfold gH at hm;rw [bM] at hm;exact hm.2
 have hmall:∀ (k:Nat) (x:Ent),l[k]?=some x → -1<x.1∧x.1<(Gm.sealed p:Nat)∧x.2.length=256:=lX hmL
 have htlt:=rE hm
 have htle:=pX l
 have hul:us.length=l.length:=by rw [hR.1,aD]
 have hoc:=hR.oc
 have hel2:=fI us l hul
 have hE1:=hE.isOne
 obtain⟨na,nl,nc,rfl,-⟩:=hE.form
 have hmt:=fun v=>aA7 (p:=p) v us l hul hoc hmL oQ oQ
 have hLe0:=hLe
 rcases hLe with ⟨-,hz,-⟩|⟨eb,elen,ecap,ejunk,rfl,hexl,hej,hec,rfl⟩
 ·rw [hz] at hel2;simp at hel2;omega
 obtain rfl:elen=l.length:=by omega
 have hlay:uY p es l=(putL (nN p es l)).and feS:=rfl
 rw [hlay]
 have hlen:=aFv p es l
 have hat:=fun k x hx=>aHq (p:=p) es (l:=l) (k:=k) (x:=x) hx
 have htab:=fun k q hx=>aFw (p:=p) es (l:=l) (k:=k) (q:=q) hx
 generalize nN p es l=rows at *
 clear hm hmL
 refine Tri.mk func206 rfl ntmps206 rfl fun w hw=>?_
 refine W.j fun _ b_=>?_
 rename_i b1
 generalize b_=b2
 refine bQ [2,3,4] Hd (fun _:Dv×Hp=>[]) (fun x=>x.2) (fun x=>iA d x.1 x.2∧putL (rows.take l.length) σ=(0,x.1)) ?_ ?_
 ·refine W.k ?_
  refine bF [2,3,4,14,15] (fun x:Nat×Dv×Hp=>[(16,.int .i64 (x.1:Int))]) (fun x=>x.2.2) (fun x=>l.length-x.1) (fun x=>x.1≤l.length∧iA d x.2.1 x.2.2∧putL (rows.take x.1) σ=(0,x.2.1)) (0,σ,Hd) ⟨Nat.zero_le _,hD,by rw [cT];rfl⟩ ?_
  rintro⟨k,σ2,Hd⟩ ⟨hk,hD,hp⟩
  dsimp only at hk hD hp ⊢
  by_cases hkn:k<l.length
  ·have hx:=aA hkn
   obtain⟨u,huk,hru⟩:=hR.2 k l[k].2 (by rw [aJ,hx];rfl)
   have hrow:=uS (junk:=ejunk) hul huk hx
   obtain⟨hx1,hx2,hx3⟩:=hmall k _ hx
   obtain⟨hs1,hs2⟩:=rK hp (hat k _ hx)
   dsimp only at hs1 hs2
   have huo:=hru.one
   have hwl:σ2.ws.length=σ.ws.length:=by have:=jD (rows.take k) σ;rw [hp] at this;exact this
   generalize l[k]=x at *
   obtain⟨K,hKK⟩:∃ K:Nat,x.1=(K:Int):=⟨x.1.toNat,by omega⟩
   rw [hKK] at hrow
   rw [show x.1.toNat=K by omega] at hs1 hs2
   have hsa:=aKo h (show (K:Int)<_ by omega)
   have hpt:=aBd (tr:=tr) (s:=sp) (p:=p) (t:=t) hD (by rw [hwl];exact h8) (Ks p K) (by show 1+Gm.epochs p+K<_;omega) u x.2 oQ
   refine W.k fun b_=>?_
   generalize b_=b3
   (refine SW.l [8] [0,1,2,3,4,6,7] ?_;refine bA 5 ?_)
   refine W.cq hsa ?_
   (refine bC [] ?_;refine bO 8 ?_)
   refine aF hpt ?_ (hpre:=fun w2 hs=>hru.rd (Hc:=Hd) hs)
   rintro _ Hd2 ⟨rfl,hD2⟩
   (refine SL.l [9,10] ?_)
   by_cases h0:(fH (Ks p K) x.2 σ2).1=0
   ·rw [if_pos h0] at hs1
    refine W.k ?_
    refine aQ.mk (k+1,(fH (Ks p K) x.2 σ2).2,Hd2) ?_
    exact⟨hkn,hD2,hs1⟩
   ·have hwd:(putL rows).and feS σ=fH (Ks p K) x.2 σ2:=by
     unfold DS.and
     rw [hs2 h0,if_neg h0]
    rw [hwd]
    refine W.k ?_
    refine Fin.to (Hd2++(([(eb,cl (eD us l++ejunk) 72)]++Ht)++Hn)) ?_
    exact F.f1 ⟨rfl,Hd2,hD2,rfl⟩
  ·have hkl:k=l.length:=oQ
   subst hkl
   refine W.k ?_
   refine bT.mk (σ2,Hd) ?_
   exact⟨hD,hp⟩
 rintro⟨σ1,Hd⟩ ⟨hD,hp1⟩
 dsimp only at hD hp1 ⊢
 have hwl1:σ1.ws.length=σ.ws.length:=by have:=jD (rows.take l.length) σ;rw [hp1] at this;exact this
 refine W.k ?_
 refine aF (hmt _) ?_ (hpre:=fun w2 hs=>Rd.own (Hc:=[]) hLe0 hs inferInstance)
 rintro _ Hq hT
 have hT1:=hT.isOne
 obtain⟨ta,tl,tc2,rfl,htl⟩:=hT.form
 rw [Nat.mul_one,aD] at htl
 subst htl
 refine W.j ?_
 refine bQ [3] Hd (fun _:Dv×Hp=>[]) (fun x=>x.2) (fun x=>iA d x.1 x.2∧putL rows σ=(0,x.1)) ?_ ?_
 ·refine W.k ?_
  refine bF [2,3,35,36] (fun x:Nat×Dv×Hp=>[(37,.int .i64 (x.1:Int))]) (fun x=>x.2.2) (fun x=>(cZ l).length-x.1) (fun x=>x.1≤(cZ l).length∧iA d x.2.1 x.2.2∧putL (rows.take (l.length+x.1)) σ=(0,x.2.1)) (0,σ1,Hd) ⟨Nat.zero_le _,hD,hp1⟩ ?_
  rintro⟨k,σ2,Hd⟩ ⟨hk,hD,hp⟩
  dsimp only at hk hD hp ⊢
  by_cases hkn:k<(cZ l).length
  ·rcases hT with ⟨hz,hz2,-⟩|⟨qb,qlen,qcap,qjunk,hz,hqxl,hqj,hqc,rfl⟩
   ·simp only [Value.slice.injEq] at hz;omega
   simp only [Value.slice.injEq] at hz
   obtain⟨rfl,rfl,rfl⟩:=hz
   have hx:=aA hkn
   have hlu:(nv (cZ l)++qjunk)[k]?=some (.int .i64 (((cZ l)[k]:Nat):Int)):=by
    rw [aL (by rw [aD];exact hkn),aJ,hx];rfl
   have hlt:=htlt _ (cE hkn)
   obtain⟨hs1,hs2⟩:=rK hp (htab k _ hx)
   dsimp only at hs1 hs2
   rw [mA] at hs1
   have hwl:σ2.ws.length=σ.ws.length:=by have:=jD (rows.take (l.length+k)) σ;rw [hp] at this;exact this
   generalize (cZ l)[k]=q at *
   have hsb:=aAp q oQ (.slice na nl nc) es
   have hea:=aKn h hlt
   have hpt:=fun v=>aBd (tr:=tr) (s:=sp) (p:=p) (t:=t) hD (by rw [hwl];exact h8) (1+q) oQ v (epB q es) (by rw [nA];decide)
   generalize epB q es=eb5 at *
   refine W.k ?_
   (refine SW.l [8] [0,1,2,3,5,6] ?_;refine bA 4 ?_)
   refine W.cq hea ?_
   (refine bC [] ?_;refine bA 7 ?_)
   refine aF hsb ?_ (hpre:=fun w2 hs=>Rd.own (Hc:=[]) hE hs inferInstance)
   rintro v5 H5 h5
   have h51:=h5.isOne
   (refine bC [] ?_;refine bO 8 ?_)
   refine aF (hpt v5) ?_ (hpre:=fun w2 hs=>Rd.own (Hc:=Hd) h5 hs inferInstance)
   rintro _ Hd2 ⟨rfl,hD2⟩
   (refine SL.l [9,10] ?_)
   by_cases h0:(fH (1+q) eb5 σ2).1=0
   ·rw [if_pos h0] at hs1
    refine W.k ?_
    refine aQ.mk (k+1,(fH (1+q) eb5 σ2).2,Hd2) ?_
    exact⟨hkn,hD2,hs1⟩
   ·have hwd:(putL rows).and feS σ=fH (1+q) eb5 σ2:=by
     unfold DS.and
     rw [hs2 h0,if_neg h0]
    rw [hwd]
    refine W.k ?_
    refine Fin.to (Hd2++(([(eb,cl (eD us l++ejunk) 72)]++Ht)++Hn)) ?_
    exact F.f1 ⟨rfl,Hd2,hD2,rfl⟩
  ·have hkl:k=(cZ l).length:=oQ
   rw [aAo oQ] at hp
   subst hkl
   refine W.k ?_
   refine bT.mk (σ2,Hd) ?_
   exact⟨hD,hp⟩
 rintro⟨σ2,Hd⟩ ⟨hD,hp⟩
 dsimp only at hD hp ⊢
 have hwd:(putL rows).and feS σ=feS σ2:=DS.and_eq hp
 have hfe:=wP hD
 rw [hwd]
 refine W.k ?_
 refine aF hfe ?_
 rintro _ Hd2 ⟨rfl,hD2⟩
 refine W.k ?_
 refine Fin.to (Hd2++(([(eb,cl (eD us l++ejunk) 72)]++Ht)++Hn)) ?_
 exact F.f1 ⟨rfl,Hd2,hD2,rfl⟩
end
end Go.Proofs.YtnhnpjokpelkbaaGreat
