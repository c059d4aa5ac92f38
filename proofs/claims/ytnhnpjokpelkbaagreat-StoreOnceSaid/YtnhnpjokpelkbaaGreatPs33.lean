/- The steps of a Commit: may it be, the log is written, it counts, the blocks are laid, the log is scrubbed. (A draft: not built yet.) -/
import Derived.Test.YtnhnpjokpelkbaaGreatPs32
set_option linter.unusedVariables false
set_option linter.unusedSimpArgs false
set_option linter.unusedSectionVars false
set_option maxHeartbeats 4000000
namespace Go.Proofs.YtnhnpjokpelkbaaGreat
open Go Go.Proofs.Tryz
section
attribute [local irreducible] SW SL SQ SH SA SS Pu Fin bZ aQ
theorem aOE{sp d tr s bk p t:Nat}(h:Gm.Ok p t){x:So}{r:Rg}(hr:r.Ok){ev tv:Value}(o0:One ev)(o1:One tv)(lv:Value)(us:List Value)(l:List Ent)(hL:LE us l)(hn:l.length≤1000000) :
  Tri prog 56 [ptv sp,lv] [(sp,cl (gI d tr s bk p t ev tv x.w x.st) 98),(tr,cl (trc d r) 201)] (fun w=>Rd [sp,tr] w 2 lv (eW us l))
  (fun v H=>v=.int .i64 (nI p t r x l)∧H=[(sp,cl (gI d tr s bk p t ev tv x.w x.st) 98),(tr,cl (trc d r) 201)]):=by
 refine Tri.mk func56 rfl ntmps56 rfl fun w hw=>?_
 have hw2:=hw
 obtain⟨a,la,ca,rfl,hl1,hc1,-⟩:=hw.get
 rw [gE us l hL.1] at hl1
 obtain rfl:la=l.length:=by omega
 have hst:=aAP (sp:=sp) (F0:=gI d tr s bk p t ev tv x.w x.st) (st:=x.st) rfl
 have hlast:=aJY tr d r hr
 have hmy:=fun c=>aGB h c (.slice a l.length ca) us l hL hn
 have hm0:=hmy 0
 have ht:=h.2.2.2
 by_cases h0:x.st≠0
 ·have e:nI p t r x l=x.st:=by unfold nI;rw [if_pos h0]
  rw [e]
  (refine W.k ?_;repeat intro b_)
  refine W.cw hst ?_;repeat intro b_
  refine W.cw hst ?_;repeat intro b_
  refine Fin.to [(sp,cl (gI d tr s bk p t ev tv x.w x.st) 98),(tr,cl (trc d r) 201)] ?_
  exact F.f1 ⟨rfl,rfl⟩
 have h0':x.st=0:=Decidable.not_not.1 h0
 cases hwr:x.w with
 | false=>
  have e:nI p t r x l=29:=by unfold nI;rw [if_neg h0,if_pos hwr]
  rw [e]
  rw [hwr] at hst
  (refine W.k ?_;repeat intro b_)
  refine W.cw hst ?_;repeat intro b_
  refine Fin.to [(sp,cl (gI d tr s bk p t ev tv false x.st) 98),(tr,cl (trc d r) 201)] ?_
  exact F.f1 ⟨rfl,rfl⟩
 | true=>
  rw [hwr] at hst
  by_cases hc:r.c=18446744073709551615
  ·have e:nI p t r x l=21:=by unfold nI;rw [if_neg h0,if_neg (by rw [hwr];decide),if_pos hc]
   rw [e]
   rw [decide_eq_true hc] at hlast
   (refine W.k ?_;repeat intro b_)
   refine W.cw hst ?_;repeat intro b_
   refine W.cw hlast ?_;repeat intro b_
   refine Fin.to [(sp,cl (gI d tr s bk p t ev tv true x.st) 98),(tr,cl (trc d r) 201)] ?_
   exact F.f1 ⟨rfl,rfl⟩
  ·rw [decide_eq_false hc] at hlast
   by_cases hlt:t<l.length
   ·have e:nI p t r x l=28:=by unfold nI;rw [if_neg h0,if_neg (by rw [hwr];decide),if_neg hc,if_pos hlt]
    rw [e]
    (refine W.k ?_;repeat intro b_)
    refine W.cw hst ?_;repeat intro b_
    refine W.cw hlast ?_;repeat intro b_
    refine Fin.to [(sp,cl (gI d tr s bk p t ev tv true x.st) 98),(tr,cl (trc d r) 201)] ?_
    exact F.f1 ⟨rfl,rfl⟩
   ·have e:nI p t r x l=if l≠[]∧oM p (-1) l=false then 1 else 0:=by unfold nI;rw [if_neg h0,if_neg (by rw [hwr];decide),if_neg hc,if_neg hlt]
    by_cases hl0:l.length=0
    ·obtain rfl:l=[]:=bL hl0
     rw [if_neg (fun hh=>hh.1 rfl)] at e
     rw [e]
     (refine W.k ?_;repeat intro b_)
     refine W.cw hst ?_;repeat intro b_
     refine W.cw hlast ?_;repeat intro b_
     refine Fin.to [(sp,cl (gI d tr s bk p t ev tv true x.st) 98),(tr,cl (trc d r) 201)] ?_
     exact F.f1 ⟨rfl,rfl⟩
    ·have hne:l≠[]:=fun hh=>hl0 (by rw [hh];rfl)
     have em:gV p t l=oM p (-1) l:=by unfold gV;rw [decide_eq_true (show 1≤l.length∧l.length≤t by omega),jA]
     rw [em] at hm0
     cases hml:oM p (-1) l with
     | false=>
      rw [hml] at hm0
      rw [if_pos ⟨hne,hml⟩] at e
      rw [e]
      (refine W.k ?_;repeat intro b_)
      refine W.cw hst ?_;repeat intro b_
      refine W.cw hlast ?_;repeat intro b_
      refine W.cw hm0 ?_ (hpre:=fun w2 hs=>hw2.ro (Hc:=[]) hs);repeat intro b_
      refine Fin.to [(sp,cl (gI d tr s bk p t ev tv true x.st) 98),(tr,cl (trc d r) 201)] ?_
      exact F.f1 ⟨rfl,rfl⟩
     | true=>
      rw [hml] at hm0
      rw [if_neg (fun hh=>by rw [hml] at hh;cases hh.2)] at e
      rw [e]
      (refine W.k ?_;repeat intro b_)
      refine W.cw hst ?_;repeat intro b_
      refine W.cw hlast ?_;repeat intro b_
      refine W.cw hm0 ?_ (hpre:=fun w2 hs=>hw2.ro (Hc:=[]) hs);repeat intro b_
      refine Fin.to [(sp,cl (gI d tr s bk p t ev tv true x.st) 98),(tr,cl (trc d r) 201)] ?_
      exact F.f1 ⟨rfl,rfl⟩
abbrev chC(sp:Nat)(cnt:Int)(Lv bv nv tv tp:Value)(g:Rg):List Value:=[ptv sp,.int .u64 cnt,Lv,bv,nv,tv,tp]++rgc g
theorem aIn{cp sp d tr s bk p t:Nat}(h:Gm.Ok p t){cnt st:Int}{Lv bv nv tv tp ev tt:Value}{wt:Bool}{g:Rg}{bss:List (List UInt8)}{σ:Dv}{Hd Hb:Hp}(hD:fS d σ Hd)(h8:σ.ws.length%8=0)(hB:Bls bv bss Hb)(o1:One Lv)(o2:One nv)(o3:One tv)(o4:One tp)(o5:One ev)(o6:One tt)(hn:bss.length≤1+t)(hn1:1≤bss.length)(hb:∀ b∈bss,b.length=256) :
  Tri prog 59 [ptv cp] ((cp,cl (chC sp cnt Lv bv nv tv tp g) 227)::(sp,cl (gI d tr s bk p t ev tt wt st) 98)::(Hd++Hb)) (fun _=>True)
  (fun r H=>r=.int .i64 ((putL (fM (Gm.leaves p) bss)).and feS σ).1∧∃ Hd',fS d ((putL (fM (Gm.leaves p) bss)).and feS σ).2 Hd'∧H=(cp,cl (chC sp cnt Lv bv nv tv tp g) 227)::(sp,cl (gI d tr s bk p t ev tt wt st) 98)::(Hd'++Hb)):=by
 obtain⟨vs,Hv,Ht,hS,hR,rfl⟩:=hB
 have hbo:=hS.isOne
 have hvl:=hR.1
 have hll:=Gm.leaves_le h
 have ht:=h.2.2.2
 rcases hS with ⟨-,hz,-⟩|⟨bb,len,cap,junk,rfl,hxl,hj,hlc,rfl⟩
 ·rw [hz] at hvl;simp at hvl;omega
 obtain rfl:len=bss.length:=by omega
 refine Tri.mk func59 rfl ntmps59 rfl fun w hw=>?_
 (refine W.j ?_;repeat intro b_)
 refine bW [0] Hd (fun _:Dv×Hp=>[]) (fun x=>x.2) (fun x=>fS d x.1 x.2∧putL (fM (Gm.leaves p) bss) σ=(0,x.1)) ?_ ?_
 ·(refine W.k ?_;repeat intro b_)
  refine bF [0,9,10] (fun x:Nat×Dv×Hp=>[(11,.int .i64 (x.1:Int))]) (fun x=>x.2.2) (fun x=>bss.length-x.1) (fun x=>x.1≤bss.length∧fS d x.2.1 x.2.2∧putL ((fM (Gm.leaves p) bss).take x.1) σ=(0,x.2.1)) (0,σ,Hd) ⟨Nat.zero_le _,hD,by rw [cU];rfl⟩ ?_
  rintro⟨k,σ2,Hd⟩ ⟨hk,hD,hp⟩
  dsimp only at hk hD hp ⊢
  by_cases hkn:k<bss.length
  ·have hbk:=aA hkn
   have hbl:=hb _ (cP hkn)
   have hrow:(fM (Gm.leaves p) bss)[k]?=some (Gm.leaves p+k,bss[k]):=by unfold fM;rw [dB,hbk];rfl
   obtain⟨hs1,hs2⟩:=aBo hp hrow
   dsimp only at hs1 hs2
   have hwl:σ2.ws.length=σ.ws.length:=by have:=kL ((fM (Gm.leaves p) bss).take k) σ;rw [hp] at this;exact this
   have hla:=aCt h (k:Int)
   rw [show Gm.atK (1+t) (Gm.leaves p) (k:Int)=((Gm.leaves p+k:Nat):Int) by unfold Gm.atK;rw [if_pos oQ];omega] at hla
   obtain⟨u,hu1,hu2⟩:=hR.2 k _ hbk
   have hv:(vs++junk)[k]?=some u:=by rw [aO oQ];exact hu1
   have huo:=hu2.one
   have hpt:=aFE (tr:=tr) (s:=s) (bk:=bk) (p:=p) (t:=t) hD (by rw [hwl];exact h8) (Gm.leaves p+k) oQ u bss[k] oQ
   generalize bss[k]=b at *
   (refine W.k ?_;repeat intro b_)
   (refine SW.l [18] [0,1,2,3,4,5,6,7,8,9,10,11,12,13,14,15,17] ?_;refine aX 16 ?_)
   refine W.cq hla ?_
   (refine bK [] ?_;refine bV 18 ?_)
   refine aG hpt ?_ (hpre:=fun w2 hs=>hu2.rd (Hc:=Hd) hs)
   rintro _ Hd2 ⟨rfl,hD2⟩
   (refine SL.l [19,20] ?_)
   by_cases h0:(eY (Gm.leaves p+k) b σ2).1=0
   ·rw [if_pos h0] at hs1
    (refine W.k ?_;repeat intro b_)
    refine aQ.mk (k+1,(eY (Gm.leaves p+k) b σ2).2,Hd2) ?_
    exact⟨hkn,hD2,hs1⟩
   ·have he:=hs2 h0
    have hwd:(putL (fM (Gm.leaves p) bss)).and feS σ=eY (Gm.leaves p+k) b σ2:=by
     unfold DS.and
     rw [he,if_neg h0]
    rw [hwd]
    (refine W.k ?_;repeat intro b_)
    refine Fin.to ((cp,cl (chC sp cnt Lv (.slice (some ⟨bb,0,none⟩) bss.length cap) nv tv tp g) 227)::(sp,cl (gI d tr s bk p t ev tt wt st) 98)::(Hd2++([(bb,cl (vs++junk) 23)]++Ht))) ?_
    exact F.f1 ⟨rfl,Hd2,hD2,rfl⟩
  ·have hkn:k=bss.length:=oQ
   rw [aFD (by unfold fM;rw [nO];omega)] at hp
   subst hkn
   (refine W.k ?_;repeat intro b_)
   refine bZ.mk (σ2,Hd) ?_
   exact⟨hD,hp⟩
 rintro⟨σ2,Hd⟩ ⟨hD,hp⟩
 dsimp only at hD hp ⊢
 have hwd:(putL (fM (Gm.leaves p) bss)).and feS σ=feS σ2:=DS.and_eq hp
 have hfe:=aBY hD
 rw [hwd]
 (refine W.k ?_;repeat intro b_)
 refine aG hfe ?_
 rintro _ Hd2 ⟨rfl,hD2⟩
 (refine W.k ?_;repeat intro b_)
 refine Fin.to ((cp,cl (chC sp cnt Lv (.slice (some ⟨bb,0,none⟩) bss.length cap) nv tv tp g) 227)::(sp,cl (gI d tr s bk p t ev tt wt st) 98)::(Hd2++([(bb,cl (vs++junk) 23)]++Ht))) ?_
 exact F.f1 ⟨rfl,Hd2,hD2,rfl⟩
theorem aIh{cp sp d tr s bk p t:Nat}{cnt st:Int}{Lv bv nv tv tp ev tt:Value}{wt:Bool}{r g:Rg}(hr:r.Ok)(hg:g.Ok){σ:Dv}{Hd:Hp}(hD:fS d σ Hd)(o0:One bv)(o1:One Lv)(o2:One nv)(o3:One tv)(o4:One tp)(o5:One ev)(o6:One tt) :
  Tri prog 60 [ptv cp] ((cp,cl (chC sp cnt Lv bv nv tv tp g) 227)::(sp,cl (gI d tr s bk p t ev tt wt st) 98)::(tr,cl (trc d r) 201)::Hd) (fun _=>True)
  (fun v H=>v=.int .i64 (mT g (σ,r)).1∧∃ Hd',fS d (mT g (σ,r)).2.1 Hd'∧H=(cp,cl (chC sp cnt Lv bv nv tv tp g) 227)::(sp,cl (if (mT g (σ,r)).1=0 then gI d tr s bk p t nv tp wt st else gI d tr s bk p t ev tt wt st) 98)::(tr,cl (trc d (mT g (σ,r)).2.2) 201)::Hd'):=by
 refine Tri.mk func60 rfl ntmps60 rfl fun w hw=>?_
 have hs:=aKU tr d r g hr hg hD
 have c7:((chC sp cnt Lv bv nv tv tp g).drop (0+7)).take 33=rgc g:=by
  show (rgc g).take 33=rgc g
  rw [aJ (by simp [rgc,hg.len])]
 have cl40:(chC sp cnt Lv bv nv tv tp g).length=40:=by simp [rgc,hg.len]
 have cg:(rgc g).length=33:=by simp [rgc,hg.len]
 (refine W.k ?_;repeat intro b_)
 (refine SW.l [12] [0,1,2,3,4,5,6,7,8,9,10,11] ?_;refine bV 12 ?_)
 refine aG hs ?_
 rintro _ _ ⟨rfl,H2,rfl,hD2⟩
 (refine SL.l [13,14] ?_)
 have e:(mT g (σ,r)).1=sS σ r g:=rfl
 by_cases h0:sS σ r g=0
 ·rw [e,if_pos h0]
  (refine W.k ?_;repeat intro b_)
  (refine SW.l [18,21] [0,1,2,3,4,5,6,7,8,9,10,11,12,13,14,15,16,17] ?_;refine bV 18 ?_;(refine W.i ?_;repeat intro b_);refine SG.l [19,20] ?_;refine bV 21 ?_;(refine W.i ?_;repeat intro b_);refine SS.dn ?_)
  (refine W.k ?_;repeat intro b_)
  rw [show ((gI d tr s bk p t ev tt wt st).set 6 nv).set 7 tp=gI d tr s bk p t nv tp wt st from rfl]
  refine Fin.to ((cp,cl (chC sp cnt Lv bv nv tv tp g) 227)::(sp,cl (gI d tr s bk p t nv tp wt st) 98)::(tr,cl (trc d (qX σ r g)) 201)::H2) ?_
  exact F.f1 ⟨by rw [h0],H2,hD2,rfl⟩
 ·rw [e,if_neg h0]
  (refine W.k ?_;repeat intro b_)
  refine Fin.to ((cp,cl (chC sp cnt Lv bv nv tv tp g) 227)::(sp,cl (gI d tr s bk p t ev tt wt st) 98)::(tr,cl (trc d (qX σ r g)) 201)::H2) ?_
  exact F.f1 ⟨rfl,H2,hD2,rfl⟩
theorem aLW(c:UInt64)(a:Option Addr)(n cap:Nat)(hn:n≤1000000):Tri prog 125 [.agg #[eX c,.slice a n cap]] [] (fun _=>True) (fun v H=>v=.int .i64 ((1+n:Nat):Int)∧H=[]):=by
 refine Tri.mk func125 rfl ntmps125 rfl fun w hw=>?_
 (refine W.k ?_;repeat intro b_)
 refine Fin.to [] ?_
 exact F.f1 ⟨by congr 1,rfl⟩
theorem aE8{cp sp d tr s bk p t n cap:Nat}(h:Gm.Ok p t){st:Int}{c:UInt64}{a:Option Addr}{bv nv tv tp ev tt:Value}{wt:Bool}{g:Rg}{σ:Dv}{Hd:Hp}(hD:fS d σ Hd)(h8:σ.ws.length%8=0)(hn:n≤t)(o0:One bv)(o2:One nv)(o3:One tv)(o4:One tp)(o5:One ev)(o6:One tt) :
  Tri prog 62 [ptv cp] ((cp,cl (chC sp (c.toNat:Int) (.slice a n cap) bv nv tv tp g) 227)::(sp,cl (gI d tr s bk p t ev tt wt st) 98)::Hd) (fun _=>True)
  (fun v H=>v=.int .i64 (gH (Gm.leaves p) (1+n) σ).1∧∃ Hd',fS d (gH (Gm.leaves p) (1+n) σ).2 Hd'∧H=(cp,cl (chC sp (c.toNat:Int) (.slice a n cap) bv nv tv tp g) 227)::(sp,cl (gI d tr s bk p t ev tt wt st) 98)::Hd'):=by
 have ht:=h.2.2.2
 have hsz:=aLW c a n cap oQ
 have hsc:=aHY (tr:=tr) (s:=s) (bk:=bk) h hD h8 (1+n) oQ
 refine Tri.mk func62 rfl ntmps62 rfl fun w hw=>?_
 (refine W.k ?_;repeat intro b_)
 (refine SW.l [12] [0,1,2,3,4,5,6,7,8,9,10] ?_;refine aX 11 ?_)
 refine W.cq hsz ?_
 (refine bK [] ?_;refine bV 12 ?_)
 refine aG hsc ?_
 rintro _ Hd2 ⟨rfl,hD2⟩
 (refine SL.l [13,14] ?_)
 (refine W.k ?_;repeat intro b_)
 refine Fin.to ((cp,cl (chC sp (c.toNat:Int) (.slice a n cap) bv nv tv tp g) 227)::(sp,cl (gI d tr s bk p t ev tt wt st) 98)::Hd2) ?_
 exact F.f1 ⟨rfl,Hd2,hD2,rfl⟩
theorem aLY{p:Nat}(es:List UInt64){l:List Ent}{k:Nat}{x:Ent}(h:l[k]?=some x):(oK p es l)[k]?=some (Ks p x.1.toNat,x.2):=by
 have hk:=(aE.1 h).1
 unfold oK
 rw [aO (by rw [aD];exact hk),aH,h]
 rfl
theorem aJ0{p:Nat}(es:List UInt64){l:List Ent}{k q:Nat}(h:(dW l)[k]?=some q):(oK p es l)[l.length+k]?=some (1+q,epB q es):=by
 unfold oK
 rw [bB (by rw [aD];omega),aD,show l.length+k-l.length=k by omega,aH,h]
 rfl
theorem aJZ(p:Nat)(es:List UInt64)(l:List Ent):(oK p es l).length=l.length+(dW l).length:=by unfold oK;rw [aB,aD,aD]
theorem aLJ{cp sp d tr s bk p t:Nat}(h:Gm.Ok p t){cnt st:Int}{Lv bv nx tv tp ev tt:Value}{wt:Bool}{g:Rg}{us:List Value}{l:List Ent}{es:List UInt64}{σ:Dv}{Hd He Ht Hn Hq:Hp}(hD:fS d σ Hd)(h8:σ.ws.length%8=0)(hm:gV p t l=true)(hLe:Sl 136 2 Lv (eW us l) He)(hR:RB Ht us (l.map Prod.snd))(hE:Sl 33 1 nx (uv es) Hn)(hes:es.length=Gm.sealed p)(hT:Sl 3 1 tv (nv (dW l)) Hq)(o0:One bv)(o4:One tp)(o5:One ev)(o6:One tt) :
  Tri prog 61 [ptv cp] ((cp,cl (chC sp cnt Lv bv nx tv tp g) 227)::(sp,cl (gI d tr s bk p t ev tt wt st) 98)::(Hd++((He++Ht)++(Hn++Hq)))) (fun _=>True)
  (fun v H=>v=.int .i64 (aBf p es l σ).1∧∃ Hd',fS d (aBf p es l σ).2 Hd'∧H=(cp,cl (chC sp cnt Lv bv nx tv tp g) 227)::(sp,cl (gI d tr s bk p t ev tt wt st) 98)::(Hd'++((He++Ht)++(Hn++Hq)))):=by
 have hll:=Gm.leaves_le h
 have hsl:=Gm.sealed_le h
 have hel:=Gm.epochs_le h
 have hLq:Gm.leaves p=1+Gm.epochs p+Gm.sealed p:=rfl
 have ht:=h.2.2.2
 have hesl:1≤l.length∧l.length≤t:=by unfold gV at hm;rw [bX,decide_eq_true_iff] at hm;exact hm.1
 have hmall:∀ (k:Nat) (x:Ent),l[k]?=some x → -1<x.1∧x.1<(Gm.sealed p:Nat)∧x.2.length=256:=by unfold gV at hm;rw [bX] at hm;exact mP hm.2
 have htlt:=vQ hm
 have htle:=tG l
 have hul:us.length=l.length:=by rw [hR.1,aD]
 have hoc:=hR.oc
 have hel2:=gE us l hul
 have hE1:=hE.isOne
 have hT1:=hT.isOne
 obtain⟨ta,tl,tc2,rfl,htl⟩:=hT.form
 rw [Nat.mul_one,aD] at htl
 subst htl
 rcases hLe with ⟨-,hz,-⟩|⟨eb,elen,ecap,ejunk,rfl,hexl,hej,hec,rfl⟩
 ·rw [hz] at hel2;simp at hel2;omega
 obtain rfl:elen=l.length:=by omega
 have hlay:aBf p es l=(putL (oK p es l)).and feS:=rfl
 rw [hlay]
 have hlen:=aJZ p es l
 have hat:=fun k x hx=>aLY (p:=p) es (l:=l) (k:=k) (x:=x) hx
 have htab:=fun k q hx=>aJ0 (p:=p) es (l:=l) (k:=k) (q:=q) hx
 generalize oK p es l=rows at *
 refine Tri.mk func61 rfl ntmps61 rfl fun w hw=>?_
 (refine W.j ?_;repeat intro b_)
 refine bW [0] Hd (fun _:Dv×Hp=>[]) (fun x=>x.2) (fun x=>fS d x.1 x.2∧putL (rows.take l.length) σ=(0,x.1)) ?_ ?_
 ·(refine W.k ?_;repeat intro b_)
  refine bF [0,14,15] (fun x:Nat×Dv×Hp=>[(16,.int .i64 (x.1:Int))]) (fun x=>x.2.2) (fun x=>l.length-x.1) (fun x=>x.1≤l.length∧fS d x.2.1 x.2.2∧putL (rows.take x.1) σ=(0,x.2.1)) (0,σ,Hd) ⟨Nat.zero_le _,hD,by rw [cU];rfl⟩ ?_
  rintro⟨k,σ2,Hd⟩ ⟨hk,hD,hp⟩
  dsimp only at hk hD hp ⊢
  by_cases hkn:k<l.length
  ·have hx:=aA hkn
   obtain⟨u,huk,hru⟩:=hR.2 k l[k].2 (by rw [aH,hx];rfl)
   have hrow:=xQ (junk:=ejunk) hul huk hx
   obtain⟨hx1,hx2,hx3⟩:=hmall k _ hx
   obtain⟨hs1,hs2⟩:=aBo hp (hat k _ hx)
   dsimp only at hs1 hs2
   have huo:=hru.one
   have hwl:σ2.ws.length=σ.ws.length:=by have:=kL (rows.take k) σ;rw [hp] at this;exact this
   generalize l[k]=x at *
   obtain⟨K,hKK⟩:∃ K:Nat,x.1=(K:Int):=⟨x.1.toNat,by omega⟩
   rw [hKK] at hrow
   rw [show x.1.toNat=K by omega] at hs1 hs2
   have hsa:=qJ h (K:Int)
   rw [show Gm.atK (Gm.sealed p) (1+Gm.epochs p) (K:Int)=((Ks p K:Nat):Int) by unfold Gm.atK;rw [if_pos oQ];show _=((1+Gm.epochs p+K:Nat):Int);omega] at hsa
   have hpt:=aFE (tr:=tr) (s:=s) (bk:=bk) (p:=p) (t:=t) hD (by rw [hwl];exact h8) (Ks p K) (by show 1+Gm.epochs p+K<_;omega) u x.2 oQ
   (refine W.k ?_;repeat intro b_)
   (refine SW.l [20] [0,1,2,3,4,5,6,7,8,9,10,11,12,13,14,15,16,18,19] ?_;refine aX 17 ?_)
   refine W.cq hsa ?_
   (refine bK [] ?_;refine bV 20 ?_)
   refine aG hpt ?_ (hpre:=fun w2 hs=>hru.rd (Hc:=Hd) hs)
   rintro _ Hd2 ⟨rfl,hD2⟩
   (refine SL.l [21,22] ?_)
   by_cases h0:(eY (Ks p K) x.2 σ2).1=0
   ·rw [if_pos h0] at hs1
    (refine W.k ?_;repeat intro b_)
    refine aQ.mk (k+1,(eY (Ks p K) x.2 σ2).2,Hd2) ?_
    exact⟨hkn,hD2,hs1⟩
   ·have hwd:(putL rows).and feS σ=eY (Ks p K) x.2 σ2:=by
     unfold DS.and
     rw [hs2 h0,if_neg h0]
    rw [hwd]
    (refine W.k ?_;repeat intro b_)
    refine Fin.to ((cp,cl (chC sp cnt (.slice (some ⟨eb,0,none⟩) l.length ecap) bv nx (.slice ta (dW l).length tc2) tp g) 227)::(sp,cl (gI d tr s bk p t ev tt wt st) 98)::(Hd2++(([(eb,cl (eW us l++ejunk) 136)]++Ht)++(Hn++Hq)))) ?_
    exact F.f1 ⟨rfl,Hd2,hD2,rfl⟩
  ·have hkl:k=l.length:=oQ
   subst hkl
   (refine W.k ?_;repeat intro b_)
   refine bZ.mk (σ2,Hd) ?_
   exact⟨hD,hp⟩
 rintro⟨σ1,Hd⟩ ⟨hD,hp1⟩
 dsimp only at hD hp1 ⊢
 have hwl1:σ1.ws.length=σ.ws.length:=by have:=kL (rows.take l.length) σ;rw [hp1] at this;exact this
 (refine W.j ?_;repeat intro b_)
 refine bW [0] Hd (fun _:Dv×Hp=>[]) (fun x=>x.2) (fun x=>fS d x.1 x.2∧putL rows σ=(0,x.1)) ?_ ?_
 ·(refine W.k ?_;repeat intro b_)
  refine bF [0,48,49] (fun x:Nat×Dv×Hp=>[(50,.int .i64 (x.1:Int))]) (fun x=>x.2.2) (fun x=>(dW l).length-x.1) (fun x=>x.1≤(dW l).length∧fS d x.2.1 x.2.2∧putL (rows.take (l.length+x.1)) σ=(0,x.2.1)) (0,σ1,Hd) ⟨Nat.zero_le _,hD,hp1⟩ ?_
  rintro⟨k,σ2,Hd⟩ ⟨hk,hD,hp⟩
  dsimp only at hk hD hp ⊢
  by_cases hkn:k<(dW l).length
  ·rcases hT with ⟨hz,hz2,-⟩|⟨qb,qlen,qcap,qjunk,hz,hqxl,hqj,hqc,rfl⟩
   ·simp only [Value.slice.injEq] at hz;omega
   simp only [Value.slice.injEq] at hz
   obtain⟨rfl,rfl,rfl⟩:=hz
   have hx:=aA hkn
   have hlu:(nv (dW l)++qjunk)[k]?=some (.int .i64 (((dW l)[k]:Nat):Int)):=by
    rw [aO (by rw [aD];exact hkn),aH,hx];rfl
   have hlt:=htlt _ (cP hkn)
   obtain⟨hs1,hs2⟩:=aBo hp (htab k _ hx)
   dsimp only at hs1 hs2
   rw [nH] at hs1
   have hwl:σ2.ws.length=σ.ws.length:=by have:=kL (rows.take (l.length+k)) σ;rw [hp] at this;exact this
   generalize (dW l)[k]=q at *
   have hsb:=aAN h q hlt nx es hes
   have hea:=vJ h (q:Int)
   rw [show Gm.atK (Gm.epochs p) 1 (q:Int)=((1+q:Nat):Int) by unfold Gm.atK;rw [if_pos oQ];omega] at hea
   (refine W.k ?_;repeat intro b_)
   (refine SW.l [13] [0,1,2,3,4,5,6,7,8,9,10,11,12] ?_;refine bV 13 ?_)
   refine aG hsb ?_ (hpre:=fun w2 hs=>Rd.own (Hc:=[]) hE hs inferInstance)
   rintro _ _ ⟨b5,rfl,rfl⟩
   have h5:Sl 5 1 (.slice (some ⟨b5,0,none⟩) 256 256) (cbs (epB q es)) [(b5,cl (cbs (epB q es)) 5)]:=Sl.own _ _ _ (len:=256) (by rw [aI,oU])
   have hpt:=aFE (tr:=tr) (s:=s) (bk:=bk) (p:=p) (t:=t) hD (by rw [hwl];exact h8) (1+q) oQ (.slice (some ⟨b5,0,none⟩) 256 256) (epB q es) (by rw [oU];decide)
   generalize epB q es=eb5 at *
   (refine SL.l [14,15,16,17,18,19] ?_)
   (refine W.k ?_;repeat intro b_)
   (refine SW.l [18] [0,1,2,3,4,5,6,7,8,9,10,11,12,13,14,15,17] ?_;refine aX 16 ?_)
   refine W.cq hea ?_
   (refine bK [] ?_;refine bV 18 ?_)
   refine aG hpt ?_ (hpre:=fun w2 hs=>Rd.own (Hc:=Hd) h5 hs inferInstance)
   rintro _ Hd2 ⟨rfl,hD2⟩
   (refine SL.l [19,20] ?_)
   by_cases h0:(eY (1+q) eb5 σ2).1=0
   ·rw [if_pos h0] at hs1
    (refine W.k ?_;repeat intro b_)
    refine aQ.mk (k+1,(eY (1+q) eb5 σ2).2,Hd2) ?_
    exact⟨hkn,hD2,hs1⟩
   ·have hwd:(putL rows).and feS σ=eY (1+q) eb5 σ2:=by
     unfold DS.and
     rw [hs2 h0,if_neg h0]
    rw [hwd]
    (refine W.k ?_;repeat intro b_)
    refine Fin.to ((cp,cl (chC sp cnt (.slice (some ⟨eb,0,none⟩) l.length ecap) bv nx (.slice (some ⟨qb,0,none⟩) (dW l).length tc2) tp g) 227)::(sp,cl (gI d tr s bk p t ev tt wt st) 98)::(Hd2++(([(eb,cl (eW us l++ejunk) 136)]++Ht)++(Hn++[(qb,cl (nv (dW l)++qjunk) 3)])))) ?_
    exact F.f1 ⟨rfl,Hd2,hD2,rfl⟩
  ·have hkl:k=(dW l).length:=oQ
   rw [aFD oQ] at hp
   subst hkl
   (refine W.k ?_;repeat intro b_)
   refine bZ.mk (σ2,Hd) ?_
   exact⟨hD,hp⟩
 rintro⟨σ2,Hd⟩ ⟨hD,hp⟩
 dsimp only at hD hp ⊢
 have hwd:(putL rows).and feS σ=feS σ2:=DS.and_eq hp
 have hfe:=aBY hD
 rw [hwd]
 (refine W.k ?_;repeat intro b_)
 refine aG hfe ?_
 rintro _ Hd2 ⟨rfl,hD2⟩
 (refine W.k ?_;repeat intro b_)
 refine Fin.to ((cp,cl (chC sp cnt (.slice (some ⟨eb,0,none⟩) l.length ecap) bv nx (.slice ta (dW l).length tc2) tp g) 227)::(sp,cl (gI d tr s bk p t ev tt wt st) 98)::(Hd2++(([(eb,cl (eW us l++ejunk) 136)]++Ht)++(Hn++Hq)))) ?_
 exact F.f1 ⟨rfl,Hd2,hD2,rfl⟩
end
end Go.Proofs.YtnhnpjokpelkbaaGreat
