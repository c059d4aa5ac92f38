/- The steps of a Commit: may it be, the log is written, it counts, the blocks are laid, the log is scrubbed. (A draft: not built yet.) -/
import Derived.Test.YtdfclocfackkmaaGreatPm36
set_option linter.unusedVariables false
set_option linter.unusedSimpArgs false
set_option linter.unusedSectionVars false
set_option maxHeartbeats 4000000
namespace Go.Proofs.YtdfclocfackkmaaGreat
open Go Go.Proofs.Tryz
section
attribute [local irreducible] SW SL SQ SH SA SS Pu Fin bS aN
theorem aO9{sp d tr s bk p t:Nat}(h:Gm.Ok p t){x:So}{r:Rg}(hr:r.Ok){ev tv:Value}(o0:One ev)(o1:One tv)(lv:Value)(us:LV)(l:List Ent)(hL:LE us l)(hn:l.length<=1000000):Tri prog 96 [ptv sp,lv] [(sp,cl (fP d tr s bk p t ev tv x.w x.st) 231),(tr,cl (trc d r) 201)] (fun w=>Rd [sp,tr] w 2 lv (eH us l)) (fun v H=>v=.int .i64 (nA p t r x l)/\H=[(sp,cl (fP d tr s bk p t ev tv x.w x.st) 231),(tr,cl (trc d r) 201)]):=by
 refine Tri.mt func96 ntmps96 fun w hw=>?_;have hw2:=hw;obtain⟨a,la,ca,rfl,hl1,hc1,-⟩:=hw.get;rw [fL us l hL.1] at hl1;obtain rfl:la=l.length:=by omega
 have hst:=aGw (sp:=sp) (F0:=fP d tr s bk p t ev tv x.w x.st) (st:=x.st) rfl;have hlast:=aKr tr d r hr;have hmy:=fun c=>aG6 h c (.slice a l.length ca) us l hL hn;have hm0:=hmy 0;have ht:=h.2.2.2;by_cases h0:x.st≠0
 ·have e:nA p t r x l=x.st:=by unfold nA;rw [if_pos h0]
  rw [e];refine W.k ?_;refine W.cw hst ?_;refine W.cw hst ?_;refine Fin.to [(sp,cl (fP d tr s bk p t ev tv x.w x.st) 231),(tr,cl (trc d r) 201)] ?_;exact F.f1 ⟨rfl,rfl⟩
 have h0':x.st=0:=Decidable.not_not.1 h0;cases hwr:x.w with
 | false=>
  have e:nA p t r x l=29:=by unfold nA;rw [if_neg h0,if_pos hwr]
  rw [e]
  rw [hwr] at hst
  refine W.k ?_
  refine W.cw hst ?_
  refine Fin.to [(sp,cl (fP d tr s bk p t ev tv false x.st) 231),(tr,cl (trc d r) 201)] ?_
  exact F.f1 ⟨rfl,rfl⟩
 | true=>
  rw [hwr] at hst
  by_cases hc:r.c=18446744073709551615
  ·have e:nA p t r x l=21:=by unfold nA;rw [if_neg h0,if_neg (by rw [hwr];decide),if_pos hc]
   rw [e]
   rw [decide_eq_true hc] at hlast
   refine W.k ?_
   refine W.cw hst ?_
   refine W.cw hlast ?_
   refine Fin.to [(sp,cl (fP d tr s bk p t ev tv true x.st) 231),(tr,cl (trc d r) 201)] ?_
   exact F.f1 ⟨rfl,rfl⟩
  ·rw [decide_eq_false hc] at hlast
   by_cases hlt:t<l.length
   ·have e:nA p t r x l=28:=by unfold nA;rw [if_neg h0,if_neg (by rw [hwr];decide),if_neg hc,if_pos hlt]
    rw [e]
    refine W.k ?_
    refine W.cw hst ?_
    refine W.cw hlast ?_
    refine Fin.to [(sp,cl (fP d tr s bk p t ev tv true x.st) 231),(tr,cl (trc d r) 201)] ?_
    exact F.f1 ⟨rfl,rfl⟩
   ·have e:nA p t r x l=if l≠[]/\nE p (-1) l=false then 1 else 0:=by unfold nA;rw [if_neg h0,if_neg (by rw [hwr];decide),if_neg hc,if_neg hlt]
    by_cases hl0:l.length=0
    ·obtain rfl:l=[]:=bI hl0
     rw [if_neg (fun hh=>hh.1 rfl)] at e
     rw [e]
     refine W.k ?_
     refine W.cw hst ?_
     refine W.cw hlast ?_
     refine Fin.to [(sp,cl (fP d tr s bk p t ev tv true x.st) 231),(tr,cl (trc d r) 201)] ?_
     exact F.f1 ⟨rfl,rfl⟩
    ·have hne:l≠[]:=fun hh=>hl0 (by rw [hh];rfl)
     have em:iY p t l=nE p (-1) l:=by unfold iY;rw [decide_eq_true (show 1<=l.length/\l.length<=t by omega),jO]
     rw [em] at hm0
     cases hml:nE p (-1) l with
     | false=>
      rw [hml] at hm0
      rw [if_pos ⟨hne,hml⟩] at e
      rw [e]
      refine W.k ?_
      refine W.cw hst ?_
      refine W.cw hlast ?_
      refine W.cw hm0 ?_ (hpre:=fun w2 hs=>hw2.ro (Hc:=[]) hs)
      refine Fin.to [(sp,cl (fP d tr s bk p t ev tv true x.st) 231),(tr,cl (trc d r) 201)] ?_
      exact F.f1 ⟨rfl,rfl⟩
     | true=>
      rw [hml] at hm0
      rw [if_neg (fun hh=>by rw [hml] at hh;cases hh.2)] at e
      rw [e]
      refine W.k ?_
      refine W.cw hst ?_
      refine W.cw hlast ?_
      refine W.cw hm0 ?_ (hpre:=fun w2 hs=>hw2.ro (Hc:=[]) hs)
      refine Fin.to [(sp,cl (fP d tr s bk p t ev tv true x.st) 231),(tr,cl (trc d r) 201)] ?_
      exact F.f1 ⟨rfl,rfl⟩
abbrev chC(sp:Nat)(cnt:Int)(Lv bv nv tv tp:Value)(g:Rg):LV:=[ptv sp,.int .u64 cnt,Lv,bv,nv,tv,tp]++rgc g
theorem aIK{cp sp d tr s bk p t:Nat}(h:Gm.Ok p t){cnt st:Int}{Lv bv nv tv tp ev tt:Value}{wt:Bool}{g:Rg}{bss:LL}{C:Dv}{Hd Hb:Hp}(hD:eX d C Hd)(h8:C.ws.length%8=0)(hB:Bls bv bss Hb)(o1:One Lv)(o2:One nv)(o3:One tv)(o4:One tp)(o5:One ev)(o6:One tt)(hn:bss.length<=1+t)(hn1:1<=bss.length)(hb:∀ b∈bss,b.length=256):Tri prog 99 [ptv cp] ((cp,cl (chC sp cnt Lv bv nv tv tp g) 279)::(sp,cl (fP d tr s bk p t ev tt wt st) 231)::(Hd++Hb)) NT (fun r H=>r=.int .i64 ((putL (gB (Gm.leaves p) bss)).and feS C).1/\∃ Hd',eX d ((putL (gB (Gm.leaves p) bss)).and feS C).2 Hd'/\H=(cp,cl (chC sp cnt Lv bv nv tv tp g) 279)::(sp,cl (fP d tr s bk p t ev tt wt st) 231)::(Hd'++Hb)):=by
 obtain⟨vs,Hv,Ht,hS,hR,rfl⟩:=hB;have hbo:=hS.isOne;have hvl:=hR.1;have hll:=Gm.leaves_le h;have ht:=h.2.2.2;rcases hS with ⟨-,hz,-⟩|⟨bb,len,cap,junk,rfl,hxl,hj,hlc,rfl⟩
 ·rw [hz] at hvl;simp at hvl;omega
 obtain rfl:len=bss.length:=by omega
 refine Tri.mt func99 ntmps99 fun w hw=>?_;refine W.j ?_;refine bP [0] Hd (fun _:Dv×Hp=>[]) (fun x=>x.2) (fun x=>eX d x.1 x.2/\putL (gB (Gm.leaves p) bss) C=(0,x.1)) ?_ ?_
 ·refine W.k ?_;refine bE [0,9,10] (fun x:Nat×Dv×Hp=>[(11,.int .i64 (x.1:Int))]) (fun x=>x.2.2) (fun x=>bss.length-x.1) (fun x=>x.1<=bss.length/\eX d x.2.1 x.2.2/\putL ((gB (Gm.leaves p) bss).take x.1) C=(0,x.2.1)) (0,C,Hd) ⟨Nat.zero_le _,hD,by rw [cU];rfl⟩ ?_;rintro⟨k,σ2,Hd⟩ ⟨hk,hD,hp⟩;dsimp only at hk hD hp |-;by_cases hkn:k<bss.length
  ·have hbk:=aA hkn;have hbl:=hb _ (dG hkn);have hrow:(gB (Gm.leaves p) bss)[k]?=some (Gm.leaves p+k,bss[k]):=by unfold gB;rw [fD,hbk];rfl
   obtain⟨hs1,hs2⟩:=rD hp hrow;dsimp only at hs1 hs2;have hwl:σ2.ws.length=C.ws.length:=by have:=iZ ((gB (Gm.leaves p) bss).take k) C;rw [hp] at this;exact this
   have hla:=aCx h (k:Int);rw [show Gm.atK (1+t) (Gm.leaves p) (k:Int)=((Gm.leaves p+k:Nat):Int) by unfold Gm.atK;rw [if_pos oQ];omega] at hla;obtain⟨u,hu1,hu2⟩:=hR.2 k _ hbk;have hv:(vs++junk)[k]?=some u:=by rw [aJ oQ];exact hu1
   have huo:=hu2.one;have hpt:=aGj (tr:=tr) (s:=s) (bk:=bk) (p:=p) (t:=t) hD (by rw [hwl];exact h8) (Gm.leaves p+k) oQ u bss[k] oQ;generalize bss[k]=b at *;refine W.k ?_;(refine SW.l [18] [0,1,2,3,4,5,6,7,8,9,10,11,12,13,14,15,17] ?_;refine aX 16 ?_);refine W.cq hla ?_;(refine bB [] ?_;refine bL 18 ?_);refine aF hpt ?_ (hpre:=fun w2 hs=>hu2.rd (Hc:=Hd) hs);rintro _ Hd2 ⟨rfl,hD2⟩;(refine SL.l [19,20] ?_);by_cases h0:(fM (Gm.leaves p+k) b σ2).1=0
   ·rw [if_pos h0] at hs1;refine W.k ?_;refine aN.mk (k+1,(fM (Gm.leaves p+k) b σ2).2,Hd2) ?_;exact⟨hkn,hD2,hs1⟩
   have he:=hs2 h0;have hwd:(putL (gB (Gm.leaves p) bss)).and feS C=fM (Gm.leaves p+k) b σ2:=by unfold DS.and;rw [he,if_neg h0]
   rw [hwd];refine W.k ?_;refine Fin.to ((cp,cl (chC sp cnt Lv (.slice (some ⟨bb,0,none⟩) bss.length cap) nv tv tp g) 279)::(sp,cl (fP d tr s bk p t ev tt wt st) 231)::(Hd2++([(bb,cl (vs++junk) 31)]++Ht))) ?_;exact F.f1 ⟨rfl,Hd2,hD2,rfl⟩
  have hkn:k=bss.length:=oQ;rw [aAt (by unfold gB;rw [nI];omega)] at hp;subst hkn;refine W.k ?_;refine bS.mk (σ2,Hd) ?_;exact⟨hD,hp⟩
 rintro⟨σ2,Hd⟩ ⟨hD,hp⟩;dsimp only at hD hp |-;have hwd:(putL (gB (Gm.leaves p) bss)).and feS C=feS σ2:=DS.and_eq hp;have hfe:=aBS hD;rw [hwd];refine W.k ?_;refine aF hfe ?_;rintro _ Hd2 ⟨rfl,hD2⟩;refine W.k ?_;refine Fin.to ((cp,cl (chC sp cnt Lv (.slice (some ⟨bb,0,none⟩) bss.length cap) nv tv tp g) 279)::(sp,cl (fP d tr s bk p t ev tt wt st) 231)::(Hd2++([(bb,cl (vs++junk) 31)]++Ht))) ?_;exact F.f1 ⟨rfl,Hd2,hD2,rfl⟩
theorem aII{cp sp d tr s bk p t:Nat}{cnt st:Int}{Lv bv nv tv tp ev tt:Value}{wt:Bool}{r g:Rg}(hr:r.Ok)(hg:g.Ok){C:Dv}{Hd:Hp}(hD:eX d C Hd)(o0:One bv)(o1:One Lv)(o2:One nv)(o3:One tv)(o4:One tp)(o5:One ev)(o6:One tt):Tri prog 100 [ptv cp] ((cp,cl (chC sp cnt Lv bv nv tv tp g) 279)::(sp,cl (fP d tr s bk p t ev tt wt st) 231)::(tr,cl (trc d r) 201)::Hd) NT (fun v H=>v=.int .i64 (jX g (C,r)).1/\∃ Hd',eX d (jX g (C,r)).2.1 Hd'/\H=(cp,cl (chC sp cnt Lv bv nv tv tp g) 279)::(sp,cl (if (jX g (C,r)).1=0 then fP d tr s bk p t nv tp wt st else fP d tr s bk p t ev tt wt st) 231)::(tr,cl (trc d (jX g (C,r)).2.2) 201)::Hd'):=by
 refine Tri.mt func100 ntmps100 fun w hw=>?_;have hs:=aLm tr d r g hr hg hD;have c7:((chC sp cnt Lv bv nv tv tp g).drop (0+7)).take 33=rgc g:=by show (rgc g).take 33=rgc g;rw [aK (by simp [rgc,hg.len])]
 have cl40:(chC sp cnt Lv bv nv tv tp g).length=40:=by simp [rgc,hg.len]
 have cg:(rgc g).length=33:=by simp [rgc,hg.len]
 refine W.k ?_;(refine SW.l [12] [0,1,2,3,4,5,6,7,8,9,10,11] ?_;refine bL 12 ?_);refine aF hs ?_;rintro _ _ ⟨rfl,H2,rfl,hD2⟩;(refine SL.l [13,14] ?_);have e:(jX g (C,r)).1=qL C r g:=rfl;by_cases h0:qL C r g=0
 ·rw [e,if_pos h0];refine W.k ?_;(refine SW.l [18,21] [0,1,2,3,4,5,6,7,8,9,10,11,12,13,14,15,16,17] ?_;refine bL 18 ?_;refine W.i ?_;refine SG.l [19,20] ?_;refine bL 21 ?_;refine W.i ?_;refine SS.dn ?_);refine W.k ?_;rw [show ((fP d tr s bk p t ev tt wt st).set 6 nv).set 7 tp=fP d tr s bk p t nv tp wt st from rfl];refine Fin.to ((cp,cl (chC sp cnt Lv bv nv tv tp g) 279)::(sp,cl (fP d tr s bk p t nv tp wt st) 231)::(tr,cl (trc d (oM C r g)) 201)::H2) ?_;exact F.f1 ⟨by rw [h0],H2,hD2,rfl⟩
 rw [e,if_neg h0];refine W.k ?_;refine Fin.to ((cp,cl (chC sp cnt Lv bv nv tv tp g) 279)::(sp,cl (fP d tr s bk p t ev tt wt st) 231)::(tr,cl (trc d (oM C r g)) 201)::H2) ?_;exact F.f1 ⟨rfl,H2,hD2,rfl⟩
theorem aMp(c:UInt64)(a:Option Addr)(n cap:Nat)(hn:n<=1000000):Tri prog 179 [.agg #[dZ c,.slice a n cap]] [] NT (fun v H=>v=.int .i64 ((1+n:Nat):Int)/\H=[]):=by refine Tri.mt func179 ntmps179 fun w hw=>?_;refine W.k fun b_=>?_;refine Fin.to [] ?_;exact F.f1 ⟨by congr 1,rfl⟩
theorem aFI{cp sp d tr s bk p t n cap:Nat}(h:Gm.Ok p t){st:Int}{c:UInt64}{a:Option Addr}{bv nv tv tp ev tt:Value}{wt:Bool}{g:Rg}{C:Dv}{Hd:Hp}(hD:eX d C Hd)(h8:C.ws.length%8=0)(hn:n<=t)(o0:One bv)(o2:One nv)(o3:One tv)(o4:One tp)(o5:One ev)(o6:One tt):Tri prog 102 [ptv cp] ((cp,cl (chC sp (c.toNat:Int) (.slice a n cap) bv nv tv tp g) 279)::(sp,cl (fP d tr s bk p t ev tt wt st) 231)::Hd) NT (fun v H=>v=.int .i64 (fU (Gm.leaves p) (1+n) C).1/\∃ Hd',eX d (fU (Gm.leaves p) (1+n) C).2 Hd'/\H=(cp,cl (chC sp (c.toNat:Int) (.slice a n cap) bv nv tv tp g) 279)::(sp,cl (fP d tr s bk p t ev tt wt st) 231)::Hd'):=by have ht:=h.2.2.2;have hsz:=aMp c a n cap oQ;have hsc:=aIp (tr:=tr) (s:=s) (bk:=bk) h hD h8 (1+n) oQ;refine Tri.mt func102 ntmps102 fun w hw=>?_;refine W.k ?_;(refine SW.l [12] [0,1,2,3,4,5,6,7,8,9,10] ?_;refine aX 11 ?_);refine W.cq hsz ?_;(refine bB [] ?_;refine bL 12 ?_);refine aF hsc ?_;rintro _ Hd2 ⟨rfl,hD2⟩;(refine SL.l [13,14] ?_);refine W.k ?_;refine Fin.to ((cp,cl (chC sp (c.toNat:Int) (.slice a n cap) bv nv tv tp g) 279)::(sp,cl (fP d tr s bk p t ev tt wt st) 231)::Hd2) ?_;exact F.f1 ⟨rfl,Hd2,hD2,rfl⟩
theorem aHT{p:Nat}(es:List UInt64){l:List Ent}{k:Nat}{x:Ent}(h:l[k]?=some x):(aAk p es l)[k]?=some (Ks p x.1.toNat,x.2):=by have hk:=(aD.1 h).1;unfold aAk;rw [aJ (by rw [aC];exact hk),aL,h];rfl
theorem aFW{p:Nat}(es:List UInt64){l:List Ent}{k q:Nat}(h:(dA l)[k]?=some q):(aAk p es l)[l.length+k]?=some (1+q,epB q es):=by unfold aAk;rw [aV (by rw [aC];omega),aC,show l.length+k-l.length=k by omega,aL,h];rfl
theorem aFV(p:Nat)(es:List UInt64)(l:List Ent):(aAk p es l).length=l.length+(dA l).length:=by unfold aAk;rw [aB,aC,aC]
theorem aL8{cp sp d tr s bk p t:Nat}(h:Gm.Ok p t){cnt st:Int}{Lv bv nx tv tp ev tt:Value}{wt:Bool}{g:Rg}{us:LV}{l:List Ent}{es:List UInt64}{C:Dv}{Hd He Ht Hn Hq:Hp}(hD:eX d C Hd)(h8:C.ws.length%8=0)(hm:iY p t l=true)(hLe:Sl 112 2 Lv (eH us l) He)(hR:RB Ht us (l.map Prod.snd))(hE:Sl 23 1 nx (uv es) Hn)(hes:es.length=Gm.sealed p)(hT:Sl 3 1 tv (nv (dA l)) Hq)(o0:One bv)(o4:One tp)(o5:One ev)(o6:One tt):Tri prog 101 [ptv cp] ((cp,cl (chC sp cnt Lv bv nx tv tp g) 279)::(sp,cl (fP d tr s bk p t ev tt wt st) 231)::(Hd++((He++Ht)++(Hn++Hq)))) NT (fun v H=>v=.int .i64 (uN p es l C).1/\∃ Hd',eX d (uN p es l C).2 Hd'/\H=(cp,cl (chC sp cnt Lv bv nx tv tp g) 279)::(sp,cl (fP d tr s bk p t ev tt wt st) 231)::(Hd'++((He++Ht)++(Hn++Hq)))):=by
 have hll:=Gm.leaves_le h;have hsl:=Gm.sealed_le h;have hel:=Gm.epochs_le h;have hLq:Gm.leaves p=1+Gm.epochs p+Gm.sealed p:=rfl;have ht:=h.2.2.2;have hesl:1<=l.length/\l.length<=t:=by unfold iY at hm;rw [bR,decide_eq_true_iff] at hm;exact hm.1
 have hmall:∀ (k:Nat) (x:Ent),l[k]?=some x -> -1<x.1/\x.1<(Gm.sealed p:Nat)/\x.2.length=256:=by unfold iY at hm;rw [bR] at hm;exact nF hm.2
 have htlt:=uW hm;have htle:=oH l;have hul:us.length=l.length:=by rw [hR.1,aC]
 have hoc:=hR.oc;have hel2:=fL us l hul;have hE1:=hE.isOne;have hT1:=hT.isOne;obtain⟨ta,tl,tc2,rfl,htl⟩:=hT.form;rw [Nat.mul_one,aC] at htl;subst htl;rcases hLe with ⟨-,hz,-⟩|⟨eb,elen,ecap,ejunk,rfl,hexl,hej,hec,rfl⟩
 ·rw [hz] at hel2;simp at hel2;omega
 obtain rfl:elen=l.length:=by omega
 have hlay:uN p es l=(putL (aAk p es l)).and feS:=rfl;rw [hlay];have hlen:=aFV p es l;have hat:=fun k x hx=>aHT (p:=p) es (l:=l) (k:=k) (x:=x) hx;have htab:=fun k q hx=>aFW (p:=p) es (l:=l) (k:=k) (q:=q) hx;generalize aAk p es l=rows at *;refine Tri.mt func101 ntmps101 fun w hw=>?_;refine W.j ?_;refine bP [0] Hd (fun _:Dv×Hp=>[]) (fun x=>x.2) (fun x=>eX d x.1 x.2/\putL (rows.take l.length) C=(0,x.1)) ?_ ?_
 ·refine W.k ?_;refine bE [0,14,15] (fun x:Nat×Dv×Hp=>[(16,.int .i64 (x.1:Int))]) (fun x=>x.2.2) (fun x=>l.length-x.1) (fun x=>x.1<=l.length/\eX d x.2.1 x.2.2/\putL (rows.take x.1) C=(0,x.2.1)) (0,C,Hd) ⟨Nat.zero_le _,hD,by rw [cU];rfl⟩ ?_;rintro⟨k,σ2,Hd⟩ ⟨hk,hD,hp⟩;dsimp only at hk hD hp |-;by_cases hkn:k<l.length
  ·have hx:=aA hkn;obtain⟨u,huk,hru⟩:=hR.2 k l[k].2 (by rw [aL,hx];rfl);have hrow:=uG (junk:=ejunk) hul huk hx;obtain⟨hx1,hx2,hx3⟩:=hmall k _ hx;obtain⟨hs1,hs2⟩:=rD hp (hat k _ hx);dsimp only at hs1 hs2;have huo:=hru.one;have hwl:σ2.ws.length=C.ws.length:=by have:=iZ (rows.take k) C;rw [hp] at this;exact this
   generalize l[k]=x at *;obtain⟨K,hKK⟩:∃ K:Nat,x.1=(K:Int):=⟨x.1.toNat,oQ⟩;rw [hKK] at hrow;rw [show x.1.toNat=K by omega] at hs1 hs2;have hsa:=qD h (K:Int);rw [show Gm.atK (Gm.sealed p) (1+Gm.epochs p) (K:Int)=((Ks p K:Nat):Int) by unfold Gm.atK;rw [if_pos oQ];show _=((1+Gm.epochs p+K:Nat):Int);omega] at hsa;have hpt:=aGj (tr:=tr) (s:=s) (bk:=bk) (p:=p) (t:=t) hD (by rw [hwl];exact h8) (Ks p K) (by show 1+Gm.epochs p+K<_;omega) u x.2 oQ;refine W.k fun b_=>?_;(refine SW.l [20] [0,1,2,3,4,5,6,7,8,9,10,11,12,13,14,15,16,18,19] ?_;refine aX 17 ?_);refine W.cq hsa ?_;(refine bB [] ?_;refine bL 20 ?_);refine aF hpt ?_ (hpre:=fun w2 hs=>hru.rd (Hc:=Hd) hs);rintro _ Hd2 ⟨rfl,hD2⟩;(refine SL.l [21,22] ?_);by_cases h0:(fM (Ks p K) x.2 σ2).1=0
   ·rw [if_pos h0] at hs1;refine W.k ?_;refine aN.mk (k+1,(fM (Ks p K) x.2 σ2).2,Hd2) ?_;exact⟨hkn,hD2,hs1⟩
   have hwd:(putL rows).and feS C=fM (Ks p K) x.2 σ2:=by unfold DS.and;rw [hs2 h0,if_neg h0]
   rw [hwd];refine W.k ?_;refine Fin.to ((cp,cl (chC sp cnt (.slice (some ⟨eb,0,none⟩) l.length ecap) bv nx (.slice ta (dA l).length tc2) tp g) 279)::(sp,cl (fP d tr s bk p t ev tt wt st) 231)::(Hd2++(([(eb,cl (eH us l++ejunk) 112)]++Ht)++(Hn++Hq)))) ?_;exact F.f1 ⟨rfl,Hd2,hD2,rfl⟩
  have hkl:k=l.length:=oQ;subst hkl;refine W.k ?_;refine bS.mk (σ2,Hd) ?_;exact⟨hD,hp⟩
 rintro⟨σ1,Hd⟩ ⟨hD,hp1⟩;dsimp only at hD hp1 |-;have hwl1:σ1.ws.length=C.ws.length:=by have:=iZ (rows.take l.length) C;rw [hp1] at this;exact this
 refine W.j ?_;refine bP [0] Hd (fun _:Dv×Hp=>[]) (fun x=>x.2) (fun x=>eX d x.1 x.2/\putL rows C=(0,x.1)) ?_ ?_
 ·refine W.k ?_;refine bE [0,48,49] (fun x:Nat×Dv×Hp=>[(50,.int .i64 (x.1:Int))]) (fun x=>x.2.2) (fun x=>(dA l).length-x.1) (fun x=>x.1<=(dA l).length/\eX d x.2.1 x.2.2/\putL (rows.take (l.length+x.1)) C=(0,x.2.1)) (0,σ1,Hd) ⟨Nat.zero_le _,hD,hp1⟩ ?_;rintro⟨k,σ2,Hd⟩ ⟨hk,hD,hp⟩;dsimp only at hk hD hp |-;by_cases hkn:k<(dA l).length
  ·rcases hT with ⟨hz,hz2,-⟩|⟨qb,qlen,qcap,qjunk,hz,hqxl,hqj,hqc,rfl⟩
   ·simp only [Value.slice.injEq] at hz;omega
   simp only [Value.slice.injEq] at hz;obtain⟨rfl,rfl,rfl⟩:=hz;have hx:=aA hkn;have hlu:(nv (dA l)++qjunk)[k]?=some (.int .i64 (((dA l)[k]:Nat):Int)):=by rw [aJ (by rw [aC];exact hkn),aL,hx];rfl
   have hlt:=htlt _ (dG hkn);obtain⟨hs1,hs2⟩:=rD hp (htab k _ hx);dsimp only at hs1 hs2;rw [lQ] at hs1;have hwl:σ2.ws.length=C.ws.length:=by have:=iZ (rows.take (l.length+k)) C;rw [hp] at this;exact this
   generalize (dA l)[k]=q at *;have hsb:=aAF h q hlt nx es hes;have hea:=uK h (q:Int);rw [show Gm.atK (Gm.epochs p) 1 (q:Int)=((1+q:Nat):Int) by unfold Gm.atK;rw [if_pos oQ];omega] at hea;refine W.k ?_;(refine SW.l [13] [0,1,2,3,4,5,6,7,8,9,10,11,12] ?_;refine bL 13 ?_);refine aF hsb ?_ (hpre:=fun w2 hs=>Rd.own (Hc:=[]) hE hs inferInstance);rintro _ _ ⟨b5,rfl,rfl⟩;have h5:Sl 5 1 (.slice (some ⟨b5,0,none⟩) 256 256) (cbs (epB q es)) [(b5,cl (cbs (epB q es)) 5)]:=Sl.own _ _ _ (len:=256) (by rw [aI,pP]);have hpt:=aGj (tr:=tr) (s:=s) (bk:=bk) (p:=p) (t:=t) hD (by rw [hwl];exact h8) (1+q) oQ (.slice (some ⟨b5,0,none⟩) 256 256) (epB q es) (by rw [pP];decide);generalize epB q es=eb5 at *;(refine SL.l [14,15,16,17,18,19] ?_);refine W.k ?_;(refine SW.l [18] [0,1,2,3,4,5,6,7,8,9,10,11,12,13,14,15,17] ?_;refine aX 16 ?_);refine W.cq hea ?_;(refine bB [] ?_;refine bL 18 ?_);refine aF hpt ?_ (hpre:=fun w2 hs=>Rd.own (Hc:=Hd) h5 hs inferInstance);rintro _ Hd2 ⟨rfl,hD2⟩;(refine SL.l [19,20] ?_);by_cases h0:(fM (1+q) eb5 σ2).1=0
   ·rw [if_pos h0] at hs1;refine W.k ?_;refine aN.mk (k+1,(fM (1+q) eb5 σ2).2,Hd2) ?_;exact⟨hkn,hD2,hs1⟩
   have hwd:(putL rows).and feS C=fM (1+q) eb5 σ2:=by unfold DS.and;rw [hs2 h0,if_neg h0]
   rw [hwd];refine W.k ?_;refine Fin.to ((cp,cl (chC sp cnt (.slice (some ⟨eb,0,none⟩) l.length ecap) bv nx (.slice (some ⟨qb,0,none⟩) (dA l).length tc2) tp g) 279)::(sp,cl (fP d tr s bk p t ev tt wt st) 231)::(Hd2++(([(eb,cl (eH us l++ejunk) 112)]++Ht)++(Hn++[(qb,cl (nv (dA l)++qjunk) 3)])))) ?_;exact F.f1 ⟨rfl,Hd2,hD2,rfl⟩
  have hkl:k=(dA l).length:=oQ;rw [aAt oQ] at hp;subst hkl;refine W.k ?_;refine bS.mk (σ2,Hd) ?_;exact⟨hD,hp⟩
 rintro⟨σ2,Hd⟩ ⟨hD,hp⟩;dsimp only at hD hp |-;have hwd:(putL rows).and feS C=feS σ2:=DS.and_eq hp;have hfe:=aBS hD;rw [hwd];refine W.k ?_;refine aF hfe ?_;rintro _ Hd2 ⟨rfl,hD2⟩;refine W.k ?_;refine Fin.to ((cp,cl (chC sp cnt (.slice (some ⟨eb,0,none⟩) l.length ecap) bv nx (.slice ta (dA l).length tc2) tp g) 279)::(sp,cl (fP d tr s bk p t ev tt wt st) 231)::(Hd2++(([(eb,cl (eH us l++ejunk) 112)]++Ht)++(Hn++Hq)))) ?_;exact F.f1 ⟨rfl,Hd2,hD2,rfl⟩
theorem aOP{sp d tr p t:Nat}(h:Gm.Ok p t){c:UInt64}{Lv nx:Value}{us:LV}{l:List Ent}{es:List UInt64}{C:Dv}{Hd He Ht Hn:Hp}(hD:gS d C Hd)(h8:C.ws.length%8=0)(hm:iY p t l=true)(hLe:Sl 166 2 Lv (eH us l) He)(hR:RB Ht us (l.map Prod.snd))(hE:Sl 23 1 nx (uv es) Hn):Tri prog 180 [qS d tr sp p t,.agg #[dZ c,Lv],nx] (Hd++((He++Ht)++Hn)) NT (fun v H=>v=.int .i64 (uN p es l C).1/\∃ Hd',gS d (uN p es l C).2 Hd'/\H=Hd'++((He++Ht)++Hn)):=by
 have hll:=Gm.leaves_le h;have hsl:=Gm.sealed_le h;have hel:=Gm.epochs_le h;have hLq:Gm.leaves p=1+Gm.epochs p+Gm.sealed p:=rfl;have ht:=h.2.2.2;have hesl:1<=l.length/\l.length<=t:=by unfold iY at hm;rw [bR,decide_eq_true_iff] at hm;exact hm.1
 have hmL:nE p (-1) l=true:=by unfold iY at hm;rw [bR] at hm;exact hm.2
 have hmall:∀ (k:Nat) (x:Ent),l[k]?=some x -> -1<x.1/\x.1<(Gm.sealed p:Nat)/\x.2.length=256:=nF hmL;have htlt:=uW hm;have htle:=oH l;have hul:us.length=l.length:=by rw [hR.1,aC]
 have hoc:=hR.oc;have hel2:=fL us l hul;have hE1:=hE.isOne;obtain⟨na,nl,nc,rfl,-⟩:=hE.form;have hmt:=fun v=>aBj (p:=p) v us l hul hoc hmL oQ oQ;have hLe0:=hLe;rcases hLe with ⟨-,hz,-⟩|⟨eb,elen,ecap,ejunk,rfl,hexl,hej,hec,rfl⟩
 ·rw [hz] at hel2;simp at hel2;omega
 obtain rfl:elen=l.length:=by omega
 have hlay:uN p es l=(putL (aAk p es l)).and feS:=rfl;rw [hlay];have hlen:=aFV p es l;have hat:=fun k x hx=>aHT (p:=p) es (l:=l) (k:=k) (x:=x) hx;have htab:=fun k q hx=>aFW (p:=p) es (l:=l) (k:=k) (q:=q) hx;generalize aAk p es l=rows at *;clear hm hmL;refine Tri.mt func180 ntmps180 fun w hw=>?_;refine W.j fun _ b_=>?_;rename_i b1;generalize b_=b2;refine bP [2,3,4] Hd (fun _:Dv×Hp=>[]) (fun x=>x.2) (fun x=>gS d x.1 x.2/\putL (rows.take l.length) C=(0,x.1)) ?_ ?_
 ·refine W.k ?_;refine bE [2,3,4,14,15] (fun x:Nat×Dv×Hp=>[(16,.int .i64 (x.1:Int))]) (fun x=>x.2.2) (fun x=>l.length-x.1) (fun x=>x.1<=l.length/\gS d x.2.1 x.2.2/\putL (rows.take x.1) C=(0,x.2.1)) (0,C,Hd) ⟨Nat.zero_le _,hD,by rw [cU];rfl⟩ ?_;rintro⟨k,σ2,Hd⟩ ⟨hk,hD,hp⟩;dsimp only at hk hD hp |-;by_cases hkn:k<l.length
  ·have hx:=aA hkn;obtain⟨u,huk,hru⟩:=hR.2 k l[k].2 (by rw [aL,hx];rfl);have hrow:=uG (junk:=ejunk) hul huk hx;obtain⟨hx1,hx2,hx3⟩:=hmall k _ hx;obtain⟨hs1,hs2⟩:=rD hp (hat k _ hx);dsimp only at hs1 hs2;have huo:=hru.one;have hwl:σ2.ws.length=C.ws.length:=by have:=iZ (rows.take k) C;rw [hp] at this;exact this
   generalize l[k]=x at *;obtain⟨K,hKK⟩:∃ K:Nat,x.1=(K:Int):=⟨x.1.toNat,oQ⟩;rw [hKK] at hrow;rw [show x.1.toNat=K by omega] at hs1 hs2;have hsa:=aKY h (show (K:Int)<_ by omega);have hpt:=aBq (tr:=tr) (s:=sp) (p:=p) (t:=t) hD (by rw [hwl];exact h8) (Ks p K) (by show 1+Gm.epochs p+K<_;omega) u x.2 oQ;refine W.k fun b_=>?_;generalize b_=b3;(refine SW.l [8] [0,1,2,3,4,6,7] ?_;refine aX 5 ?_);refine W.cq hsa ?_;(refine bB [] ?_;refine bL 8 ?_);refine aF hpt ?_ (hpre:=fun w2 hs=>hru.rd (Hc:=Hd) hs);rintro _ Hd2 ⟨rfl,hD2⟩;(refine SL.l [9,10] ?_);by_cases h0:(fM (Ks p K) x.2 σ2).1=0
   ·rw [if_pos h0] at hs1;refine W.k ?_;refine aN.mk (k+1,(fM (Ks p K) x.2 σ2).2,Hd2) ?_;exact⟨hkn,hD2,hs1⟩
   have hwd:(putL rows).and feS C=fM (Ks p K) x.2 σ2:=by unfold DS.and;rw [hs2 h0,if_neg h0]
   rw [hwd];refine W.k ?_;refine Fin.to (Hd2++(([(eb,cl (eH us l++ejunk) 166)]++Ht)++Hn)) ?_;exact F.f1 ⟨rfl,Hd2,hD2,rfl⟩
  have hkl:k=l.length:=oQ;subst hkl;refine W.k ?_;refine bS.mk (σ2,Hd) ?_;exact⟨hD,hp⟩
 rintro⟨σ1,Hd⟩ ⟨hD,hp1⟩;dsimp only at hD hp1 |-;have hwl1:σ1.ws.length=C.ws.length:=by have:=iZ (rows.take l.length) C;rw [hp1] at this;exact this
 refine W.k ?_;refine aF (hmt _) ?_ (hpre:=fun w2 hs=>Rd.own (Hc:=[]) hLe0 hs inferInstance);rintro _ Hq hT;have hT1:=hT.isOne;obtain⟨ta,tl,tc2,rfl,htl⟩:=hT.form;rw [Nat.mul_one,aC] at htl;subst htl;refine W.j ?_;refine bP [3] Hd (fun _:Dv×Hp=>[]) (fun x=>x.2) (fun x=>gS d x.1 x.2/\putL rows C=(0,x.1)) ?_ ?_
 ·refine W.k ?_;refine bE [2,3,35,36] (fun x:Nat×Dv×Hp=>[(37,.int .i64 (x.1:Int))]) (fun x=>x.2.2) (fun x=>(dA l).length-x.1) (fun x=>x.1<=(dA l).length/\gS d x.2.1 x.2.2/\putL (rows.take (l.length+x.1)) C=(0,x.2.1)) (0,σ1,Hd) ⟨Nat.zero_le _,hD,hp1⟩ ?_;rintro⟨k,σ2,Hd⟩ ⟨hk,hD,hp⟩;dsimp only at hk hD hp |-;by_cases hkn:k<(dA l).length
  ·rcases hT with ⟨hz,hz2,-⟩|⟨qb,qlen,qcap,qjunk,hz,hqxl,hqj,hqc,rfl⟩
   ·simp only [Value.slice.injEq] at hz;omega
   simp only [Value.slice.injEq] at hz;obtain⟨rfl,rfl,rfl⟩:=hz;have hx:=aA hkn;have hlu:(nv (dA l)++qjunk)[k]?=some (.int .i64 (((dA l)[k]:Nat):Int)):=by rw [aJ (by rw [aC];exact hkn),aL,hx];rfl
   have hlt:=htlt _ (dG hkn);obtain⟨hs1,hs2⟩:=rD hp (htab k _ hx);dsimp only at hs1 hs2;rw [lQ] at hs1;have hwl:σ2.ws.length=C.ws.length:=by have:=iZ (rows.take (l.length+k)) C;rw [hp] at this;exact this
   generalize (dA l)[k]=q at *;have hsb:=aAu q oQ (.slice na nl nc) es;have hea:=aKX h hlt;have hpt:=fun v=>aBq (tr:=tr) (s:=sp) (p:=p) (t:=t) hD (by rw [hwl];exact h8) (1+q) oQ v (epB q es) (by rw [pP];decide);generalize epB q es=eb5 at *;refine W.k ?_;(refine SW.l [8] [0,1,2,3,5,6] ?_;refine aX 4 ?_);refine W.cq hea ?_;(refine bB [] ?_;refine aX 7 ?_);refine aF hsb ?_ (hpre:=fun w2 hs=>Rd.own (Hc:=[]) hE hs inferInstance);rintro v5 H5 h5;have h51:=h5.isOne;(refine bB [] ?_;refine bL 8 ?_);refine aF (hpt v5) ?_ (hpre:=fun w2 hs=>Rd.own (Hc:=Hd) h5 hs inferInstance);rintro _ Hd2 ⟨rfl,hD2⟩;(refine SL.l [9,10] ?_);by_cases h0:(fM (1+q) eb5 σ2).1=0
   ·rw [if_pos h0] at hs1;refine W.k ?_;refine aN.mk (k+1,(fM (1+q) eb5 σ2).2,Hd2) ?_;exact⟨hkn,hD2,hs1⟩
   have hwd:(putL rows).and feS C=fM (1+q) eb5 σ2:=by unfold DS.and;rw [hs2 h0,if_neg h0]
   rw [hwd];refine W.k ?_;refine Fin.to (Hd2++(([(eb,cl (eH us l++ejunk) 166)]++Ht)++Hn)) ?_;exact F.f1 ⟨rfl,Hd2,hD2,rfl⟩
  have hkl:k=(dA l).length:=oQ;rw [aAt oQ] at hp;subst hkl;refine W.k ?_;refine bS.mk (σ2,Hd) ?_;exact⟨hD,hp⟩
 rintro⟨σ2,Hd⟩ ⟨hD,hp⟩;dsimp only at hD hp |-;have hwd:(putL rows).and feS C=feS σ2:=DS.and_eq hp;have hfe:=wO hD;rw [hwd];refine W.k ?_;refine aF hfe ?_;rintro _ Hd2 ⟨rfl,hD2⟩;refine W.k ?_;refine Fin.to (Hd2++(([(eb,cl (eH us l++ejunk) 166)]++Ht)++Hn)) ?_;exact F.f1 ⟨rfl,Hd2,hD2,rfl⟩
end
end Go.Proofs.YtdfclocfackkmaaGreat
