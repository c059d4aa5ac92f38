/- A head's names and block: the document's. -/
import Derived.Test.YtnigolgkkjidiaaGreatPr12
import Derived.Test.YtnigolgkkjidiaaGreatPr8
set_option linter.unusedVariables false
set_option linter.unusedSimpArgs false
set_option linter.unusedSectionVars false
set_option maxHeartbeats 4000000
namespace Go.Proofs.YtnigolgkkjidiaaGreat
open Go Go.Proofs.Tryz
section
attribute [local irreducible] SW SL SQ SH SA SS Pu Fin bZ aT
theorem aLD{a b s:Int}(ha:0≤a)(hb:0≤b)(hs:0≤s∧s≤281474976710655):Tri prog 220 [.agg [.int .i64 a,.int .i64 b,.int .u64 s].toArray] [] (fun _=>True) (fun v H=>v=.bool (decide (a≤63∧b≤15∧1≤s))∧H=[]):=by
 refine Tri.mk func220 rfl ntmps220 rfl fun w hw=>?_
 by_cases h1:a≤63
 ·by_cases h2:b≤15
  ·by_cases h3:1≤s
   ·rw [decide_eq_true ⟨h1,h2,h3⟩]
    refine W.k fun b_=>?_
    exact F.n
   ·rw [decide_eq_false fun h=>h3 h.2.2]
    refine W.k fun b_=>?_
    exact F.n
  ·rw [decide_eq_false fun h=>h2 h.2.1]
   refine W.k fun b_=>?_
   exact F.n
 ·rw [decide_eq_false fun h=>h1 h.1]
  refine W.k fun b_=>?_
  exact F.n
theorem aOO(m n:Int)(h0:0≤m)(h1:m<18446744073709551616)(hn:0<n):UAr .quo .u64 m n (m/n):=⟨fun P w t=>by
 have h2:0≤m/n:=pU h0 om
 have h3:m/n≤m:=oS n h0
 have hw:IntKind.u64.wrap (m.tdiv n)=m/n:=by rw [jW h0,kS];omega
 have hne:¬ n=0:=om
 simp [binOp,Op.intDiv,hne,hw]⟩
theorem aOP{h:Int}(hu:isU h):Tri prog 166 [.int .u64 h] [] (fun _=>True) (fun v H=>∃ pl:List Value,v=.tuple #[.agg pl.toArray,.bool (hOk h)]∧pl.length=3∧OC pl∧H=[]):=by
 refine Tri.mk func166 rfl ntmps166 rfl fun w hw=>?_
 obtain⟨hu1,hu2⟩:=hu
 have q1:=aOO h 281474976710656 hu1 hu2 dc
 have q2:=aOO (h/281474976710656) 256 om om dc
 have i1:Cv .i64 (h/281474976710656/256) (h/281474976710656/256):=⟨w64 om⟩
 have i2:Cv .i64 (h/281474976710656%256) (h/281474976710656%256):=⟨w64 om⟩
 have hm:=aLD (a:=h/281474976710656/256) (b:=h/281474976710656%256) (s:=h%281474976710656) om om om
 have hk:decide (h/281474976710656/256≤63∧h/281474976710656%256≤15∧1≤h%281474976710656)=hOk h:=by
  unfold hOk
  exact decide_eq_decide.2 om
 rw [hk] at hm
 have hb1:bQ (fun i=>[(0,1),(1,1),(2,1)][i]?) ([.int .i64 0]++[.int .i64 0]++[.int .u64 0]) [(0,.int .i64 (h/281474976710656/256)),(1,.int .i64 (h/281474976710656%256)),(2,.int .u64 (h%281474976710656))]=some [.int .i64 (h/281474976710656/256),.int .i64 (h/281474976710656%256),.int .u64 (h%281474976710656)]:=rfl
 have hb0:bQ (fun i=>[(0,1),(1,1),(2,1)][i]?) ([.int .i64 0]++[.int .i64 0]++[.int .u64 0]) []=some [.int .i64 0,.int .i64 0,.int .u64 0]:=rfl
 cases hkk:hOk h with
 | true=>
  rw [hkk] at hm
  refine W.k fun _ b_=>?_
  refine W.cw hm ?_
  exact F.ct [] [.int .i64 (h/281474976710656/256),.int .i64 (h/281474976710656%256),.int .u64 (h%281474976710656)] ⟨_,rfl,rfl,inferInstance,rfl⟩
 | false=>
  rw [hkk] at hm
  refine W.k fun _ b_=>?_
  refine W.cw hm ?_
  exact F.ct [] [.int .i64 0,.int .i64 0,.int .u64 0] ⟨_,rfl,rfl,inferInstance,rfl⟩
theorem aFh{n:Int}{l:List Int}(hl:l.length=16)(hu:∀ h∈l,isU h)(hn:0≤n):Tri prog 97 [.agg (bP n l).toArray] [] (fun _=>True) (fun v H=>v=.bool (rOk n l)∧H=[]):=by
 refine Tri.mk func97 rfl ntmps97 rfl fun w hw=>?_
 have f1:(bP n l).length=17:=by rw [bU,hl]
 have o1:OC (bP n l):=inferInstance
 have g0:(bP n l)[0]?=some (.int .u64 n):=rfl
 have t1:((bP n l).drop 1).take 16=l.map fun h=>(.int .u64 h:Value):=by
  show (l.map fun h=>(.int .u64 h:Value)).take 16=_
  rw [aB (by rw [aE,hl];omega)]
 have hll:(l.map fun h=>(.int .u64 h:Value)).length=16:=by rw [aE,hl]
 generalize bP n l=Z at *
 refine W.j fun b_=>?_
 refine SW.block ?_
 refine W.j ?_
 refine bV [1,8] [b_] (fun i:Nat=>[(9,.int .i64 (i:Int))]) (fun _=>[(b_,cl Z 79)]) (fun i=>16-i) (fun i=>i≤16∧(l.take i).all vY=true) 0 ⟨by decide,rfl⟩ ?_
 rintro i ⟨hi,hall⟩
 by_cases hin:i<16
 ·obtain⟨h,hh⟩:∃ h,l[i]?=some h:=⟨_,aA om⟩
  have hidx:(l.map fun h=>(.int .u64 h:Value))[i]?=some (.int .u64 h):=by rw [aH,hh];rfl
  have hp:=aOP (hu h (aP hh))
  generalize (l.map fun h=>(.int .u64 h:Value))=Y at *
  refine W.k ?_
  refine aL hp ?_
  rintro _ _ ⟨pl,rfl,hpl,hpo,rfl⟩
  by_cases h0:h=0
  ·refine W.k fun b_=>?_
   refine aT.mk (i+1) ?_
   refine⟨hin,?_⟩
   rw [aO,hh,gR,hall]
   simp [vY,h0]
  ·cases hk:hOk h with
   | true=>
    refine W.k fun b_=>?_
    refine aT.mk (i+1) ?_
    refine⟨hin,?_⟩
    rw [aO,hh,gR,hall]
    simp [vY,hk]
   | false=>
    have hno:rOk n l=false:=by
     have:l.all vY=false:=mE.2 ⟨h,aP hh,by simp [vY,hk,h0]⟩
     unfold rOk
     rw [this];rfl
    rw [hno]
    refine W.k fun b_=>?_
    exact F.n
 ·have h16:i=16:=om
  subst h16
  rw [aB om] at hall
  by_cases h1:1≤n
  ·by_cases h2:n≤281474976710656
   ·rw [show rOk n l=true by rw [rOk,hall,decide_eq_true ⟨h1,h2⟩];rfl]
    refine W.k ?_
    exact F.n
   ·rw [show rOk n l=false by rw [rOk,hall,decide_eq_false fun h=>h2 h.2];rfl]
    refine W.k ?_
    exact F.n
  ·rw [show rOk n l=false by rw [rOk,hall,decide_eq_false fun h=>h1 h.1];rfl]
   refine W.k ?_
   exact F.n
theorem aDl{n:Int}{l:List Int}(hl:l.length=16)(hu:∀ h∈l,isU h)(hn:isU n):Tri prog 85 [.agg (bP n l).toArray] [] (fun _=>True) (fun v H=>Sl 5 1 v (cbs (gC n l)) H):=by
 refine Tri.mk func85 rfl ntmps85 rfl fun w hw=>?_
 have f1:(bP n l).length=17:=by rw [bU,hl]
 have o1:OC (bP n l):=inferInstance
 have g0:(bP n l)[0]?=some (.int .u64 n):=rfl
 have t1:((bP n l).drop 1).take 16=l.map fun h=>(.int .u64 h:Value):=by
  show (l.map fun h=>(.int .u64 h:Value)).take 16=_
  rw [aB (by rw [aE,hl];omega)]
 have hll:(l.map fun h=>(.int .u64 h:Value)).length=16:=by rw [aE,hl]
 have hp0:=pA 8 (u64 n) om
 unfold eK at hp0
 rw [oO hn] at hp0
 have hB:gC n l=pad 256 (kW n l):=rfl
 have h00:kW n (l.take 0)=leN 8 (u64 n):=by rw [kW,cQ];simp
 generalize bP n l=Z at *
 refine W.j fun b_=>?_
 refine aL hp0 ?_
 intro v0 Hv0 hv0
 have hv01:=hv0.isOne
 rw [← h00] at hv0
 refine W.j ?_
 refine SW.block ?_
 refine W.j ?_
 refine bN [10] (fun x:Nat×Value×Hp=>[(3,x.2.1),(11,.int .i64 (x.1:Int))]) (fun x=>x.2.2) (fun x=>16-x.1) (fun x=>x.1≤16∧Sl 5 1 x.2.1 (cbs (kW n (l.take x.1))) x.2.2) (0,v0,Hv0) ⟨Nat.zero_le _,hv0⟩ ?_
 rintro⟨i,bv,Hb⟩ ⟨hi,hS⟩
 dsimp only at hi hS ⊢
 have hS1:=hS.isOne
 by_cases hin:i<16
 ·obtain⟨h,hh⟩:∃ h,l[i]?=some h:=⟨_,aA om⟩
  have hidx:(l.map fun h=>(.int .u64 h:Value))[i]?=some (.int .u64 h):=by rw [aH,hh];rfl
  have huh:=hu h (aP hh)
  have hp1:=pA 8 (u64 h) om
  unfold eK at hp1
  rw [oO huh] at hp1
  have hst:kW n (l.take (i+1))=kW n (l.take i)++leN 8 (u64 h):=by
   rw [kW,kW,aO,hh,show (some h).toList=[h] from rfl,aEZ,bE]
  have hsl:=qP n (l.take i)
  rw [aD] at hsl
  have k8:(leN 8 (u64 h)).length=8:=cJ ..
  generalize (l.map fun h=>(.int .u64 h:Value))=Y at *
  generalize leN 8 (u64 h)=L8 at *
  generalize kW n (l.take i)=B at *
  refine W.k ?_
  refine aL hp1 ?_
  intro q4 Hq4 hq4
  have hq41:=hq4.isOne
  obtain⟨a4,l4,c4,rfl,hl4⟩:=hq4.form
  rw [aI,k8] at hl4
  have g4:l4=8:=om
  subst g4
  refine W.k ?_
  refine W.ap hS (ys:=cbs L8) (mm:=8) (fun w2 hs=>hq4.srcAt hs inferInstance) (fun v3 H3 h3=>?_) (hys:=by rw [aI,k8]) (hbytes:=by rw [aI,aI,hsl,k8];omega)
  have h31:=h3.isOne
  rw [← gT,← hst] at h3
  refine W.k ?_
  refine aT.mk (i+1,v3,H3) ?_
  exact⟨hin,h3⟩
 ·have h16:i=16:=om
  subst h16
  rw [aB om] at hS
  rw [hB]
  generalize kW n l=B at *
  refine W.k ?_
  refine aL (aD8 bv B 256 dc) ?_ (hpre:=fun w2 hs=>Rd.own (Hc:=[]) hS hs inferInstance)
  intro v6 H6 h6
  have h61:=h6.isOne
  refine W.k ?_
  refine Fin.to H6 ?_
  exact F.f1 h6
theorem nz8(m:Nat):List.replicate m (Value.int .u8 0)=cbs (List.replicate m 0):=by simp [cbs]
theorem aH6{Ht:Hp}{v:Value}(bs:List UInt8)(h256:bs.length=256)(hv:RdH Ht v bs):Tri prog 88 [v] Ht (fun _=>True) (fun r H=>r=(match vZ bs with|none=>.tuple #[.agg (bP 0 z16).toArray,.bool false]|some x=>.tuple #[.agg (bP x.1 x.2).toArray,.bool true])∧H=Ht):=by
 refine Tri.mk func88 rfl ntmps88 rfl fun w hw=>?_
 have hv0:=hv
 obtain⟨a,len,cap,rfl,hl,hc,hr⟩:=hv
 rw [h256] at hl
 subst hl
 obtain⟨b,o,lv,T,fz,rfl,-,-⟩:=hr.resolve_left dc
 have hbd:∀ x:Int,bQ (fun i=>[(0,1),(1,16)][i]?) ([.int .u64 0]++List.replicate 16 (.int .u64 0)) [(0,.int .u64 x)]=some (bP x z16):=fun _=>rfl
 have hbn:=hbd (nOf bs)
 have hrl:(bP (nOf bs) z16).length=17:=rfl
 have hro:OC (bP (nOf bs) z16):=inferInstance
 have g0:=uO (.slice (some ⟨b,o,none⟩) 8 cap) (bs.take 8) (by rw [aD];omega)
 have s0:∀ w2 w0 K r,St K w0 r w2→[hp:fI r Ht []]→True:=fun _ _ _ _ _=>trivial
 refine W.k fun b_=>?_
 refine W.cq g0 ?_ (hpre:=fun w2 hs=>by simpa using (hv0.rd (Hc:=[]) hs).sub 0 8 cap om om om)
 rw [show ((eP (bs.take 8):Nat):Int)=nOf bs from rfl]
 refine W.j fun b_=>?_
 refine SW.block ?_
 refine W.j ?_
 refine bV [0,2,4] [b_] (fun x:Nat×List Int=>[(14,.int .i64 (x.1:Int))]) (fun x=>[(b_,cl (bP (nOf bs) x.2) 79)]) (fun x=>16-x.1) (fun x=>x.1≤16∧x.2.length=16∧x.2.take x.1=(lOf bs).take x.1) (0,z16) ⟨by decide,rfl,rfl⟩ ?_
 rintro⟨i,k⟩ ⟨hi,hk,hkl⟩
 dsimp only at hi hk hkl ⊢
 have fk:(bP (nOf bs) k).length=17:=by rw [bU,hk]
 have ok:OC (bP (nOf bs) k):=inferInstance
 by_cases hin:i<16
 ·have hset:=yS (nOf bs) k i (lAt bs i)
  have hlt:1+i<(bP (nOf bs) k).length:=by rw [fk];omega
  have e1:(8:Int)+8*(i:Int)=((8+8*i:Nat):Int):=om
  have e2:(16:Int)+8*(i:Int)=((16+8*i:Nat):Int):=om
  have hsub:∀ K w2,Rd K w2 1 (.slice (some ⟨b,o,none⟩) 256 cap) (cbs bs)→Rd K w2 1 (.slice (some ⟨b,o+(8+8*i),none⟩) (16+8*i-(8+8*i)) (cap-(8+8*i))) (cbs ((bs.drop (8+8*i)).take 8)):=fun K w2 hh=>by
   have:=hh.sub (8+8*i) (16+8*i) (cap-(8+8*i)) om om om
   rw [show 16+8*i-(8+8*i)=8 by omega] at this ⊢
   exact this
  have g1:=uO (.slice (some ⟨b,o+(8+8*i),none⟩) (16+8*i-(8+8*i)) (cap-(8+8*i))) ((bs.drop (8+8*i)).take 8) (by rw [aD];omega)
  refine W.k ?_
  refine W.cq g1 ?_ (hpre:=fun w2 hs=>hsub _ _ (hv0.rd (Hc:=[]) hs))
  rw [show ((eP ((bs.drop (8+8*i)).take 8):Nat):Int)=lAt bs i from rfl]
  refine W.k ?_
  rw [hset]
  refine aT.mk (i+1,k.set i (lAt bs i)) ?_
  refine⟨hin,by dsimp only;rw [cP];exact hk,?_⟩
  dsimp only
  rw [aO,aO,aDL bs hin,iG om,nF (Nat.le_refl _),hkl]
 ·have h16:i=16:=om
  subst h16
  have hke:k=lOf bs:=by
   rw [← aB (l:=k) (i:=16) om,← aB (l:=lOf bs) (i:=16) (by rw [rZ];omega)];exact hkl
  subst hke
  have hB:=aDl (rZ bs) (aGT bs) (aGZ bs)
  have hR:=aFh (rZ bs) (aGT bs) (aGZ bs).1
  have hr0:(bP 0 z16).length=17:=rfl
  have ho0:OC (bP 0 z16):=inferInstance
  have hr1:(bP 1 z16).length=17:=rfl
  have ho1:OC (bP 1 z16):=inferInstance
  have hb0:bQ (fun i=>[(0,1),(1,16)][i]?) ([.int .u64 0]++List.replicate 16 (.int .u64 0)) []=some (bP 0 z16):=rfl
  have hb1:=hbd 1
  have q1:=wK (nOf bs) (lOf bs) (rZ bs)
  have q2:=wK 0 z16 rfl
  have hinj:=@xF (nOf bs) 0 (lOf bs) z16
  have hPd:vZ bs=if bs=List.replicate 256 0 then some (1,z16) else if rOk (nOf bs) (lOf bs)=true∧gC (nOf bs) (lOf bs)=bs then some (nOf bs,lOf bs) else none:=rfl
  have hone:(bP (nOf bs) (lOf bs)).length=17:=fk
  have hz1:bs=List.replicate 256 0→bP (nOf bs) (lOf bs)=bP 0 z16:=fun h=>by rw [h,show nOf (List.replicate 256 0)=0 by decide +kernel,show lOf (List.replicate 256 0)=z16 by decide +kernel]
  have hz2:bP (nOf bs) (lOf bs)=bP 0 z16→rOk (nOf bs) (lOf bs)=false:=fun h=>by rw [(hinj h).1,(hinj h).2];decide +kernel
  have hb3:rOk (nOf bs) (lOf bs)=true→bs≠List.replicate 256 0:=fun h1 h2=>by rw [hz2 (hz1 h2)] at h1;cases h1
  generalize hZ:bP (nOf bs) (lOf bs)=Z at *
  generalize hZ0:bP 0 z16=Z0 at *
  generalize hZ1:bP 1 z16=Z1 at *
  refine W.k ?_
  by_cases hz:Z=Z0
  ·have hRf:=hz2 hz
   rw [hRf] at hR
   by_cases h0:bs=List.replicate 256 0
   ·rw [if_pos h0] at hPd
    (refine SW.l [] [0,1] ?_;refine dL 2 rfl (lS rfl rfl rfl q1 q2 hz) ?_;refine SG.l [3,4] ?_;(first|refine cI 5 rfl ?_|refine oE hv0 5 [] rfl ?_);(first|refine cI 6 rfl ?_;refine SG.l [7,8,9,10] ?_|refine aX 6 ?_))
    refine W.ma fun bz=>?_
    rw [lK,nz8]
    have hzs:Sl 5 1 (.slice (some ⟨bz,0,none⟩) 256 256) (cbs (List.replicate 256 0)) [(bz,cl (cbs (List.replicate 256 0)) 5)]:=Sl.own _ _ _ (len:=256) (by rw [aI,aM])
    generalize List.replicate 256 (0:UInt8)=zz at *
    (refine bO [] ?_;(first|refine cI 7 rfl ?_|refine zD hzs 7 [] rfl ?_);(first|refine cI 8 rfl ?_|refine dL 8 rfl (aD0 rfl rfl rfl) ?_);refine SG.l [9,10] ?_)
    rw [decide_eq_true h0]
    refine W.k ?_
    exact F.ct Ht Z1 ⟨by rw [hPd,← hZ1],rfl⟩
   ·rw [if_neg h0,if_neg (fun hh=>by rw [hRf] at hh;cases hh.1)] at hPd
    (refine SW.l [] [0,1] ?_;refine dL 2 rfl (lS rfl rfl rfl q1 q2 hz) ?_;refine SG.l [3,4] ?_;(first|refine cI 5 rfl ?_|refine oE hv0 5 [] rfl ?_);(first|refine cI 6 rfl ?_;refine SG.l [7,8,9,10] ?_|refine aX 6 ?_))
    refine W.ma fun bz=>?_
    rw [lK,nz8]
    have hzs:Sl 5 1 (.slice (some ⟨bz,0,none⟩) 256 256) (cbs (List.replicate 256 0)) [(bz,cl (cbs (List.replicate 256 0)) 5)]:=Sl.own _ _ _ (len:=256) (by rw [aI,aM])
    generalize List.replicate 256 (0:UInt8)=zz at *
    (refine bO [] ?_;(first|refine cI 7 rfl ?_|refine zD hzs 7 [] rfl ?_);(first|refine cI 8 rfl ?_|refine dL 8 rfl (aD0 rfl rfl rfl) ?_);refine SG.l [9,10] ?_)
    rw [decide_eq_false h0]
    refine W.k ?_
    (refine SW.l [1] [0] ?_;refine cB 1 ?_)
    refine W.cq hR ?_
    (refine SL.l [2,3,4,7,8] ?_;(first|refine cI 5 rfl ?_;refine SG.l [6,9,10,11] ?_|refine aX 5 ?_))
    refine W.k ?_
    exact F.ct Ht Z0 ⟨by rw [hPd,← hZ0],rfl⟩
  ·have h0:¬ bs=List.replicate 256 0:=fun h=>hz (hz1 h)
   rw [if_neg h0] at hPd
   cases hrr:rOk (nOf bs) (lOf bs) with
   | false=>
    rw [if_neg (fun hh=>by rw [hrr] at hh;cases hh.1)] at hPd
    rw [hrr] at hR
    (refine SW.l [] [0,1] ?_;refine dL 2 rfl (nC rfl rfl rfl q1 q2 hz) ?_;refine SG.l [3,4,5] ?_;(first|refine cI 6 rfl ?_;refine SG.l [7,8,9,10] ?_|refine aX 6 ?_))
    refine W.k ?_
    (refine SW.l [1] [0] ?_;refine cB 1 ?_)
    refine W.cq hR ?_
    (refine SL.l [2,3,4,7,8] ?_;(first|refine cI 5 rfl ?_;refine SG.l [6,9,10,11] ?_|refine aX 5 ?_))
    refine W.k ?_
    exact F.ct Ht Z0 ⟨by rw [hPd,← hZ0],rfl⟩
   | true=>
    rw [hrr] at hR
    by_cases he:gC (nOf bs) (lOf bs)=bs
    ·rw [if_pos ⟨hrr,he⟩] at hPd
     rw [he] at hB
     (refine SW.l [] [0,1] ?_;refine dL 2 rfl (nC rfl rfl rfl q1 q2 hz) ?_;refine SG.l [3,4,5] ?_;(first|refine cI 6 rfl ?_;refine SG.l [7,8,9,10] ?_|refine aX 6 ?_))
     refine W.k ?_
     (refine SW.l [1] [0] ?_;refine cB 1 ?_)
     refine W.cq hR ?_
     (refine SL.l [2,3,4,7] ?_;(first|refine cI 8 rfl ?_|refine oE hv0 8 [] rfl ?_);(first|refine cI 5 rfl ?_;refine SG.l [6,9,10,11] ?_|refine aX 5 ?_))
     refine aL hB ?_
     intro v6 H6 h6
     have h61:=h6.isOne
     (refine bO [] ?_;(first|refine cI 6 rfl ?_|refine zD h6 6 [] rfl ?_);(first|refine cI 9 rfl ?_|refine dL 9 rfl (aD2 rfl rfl rfl rfl) ?_);refine SG.l [10,11] ?_)
     refine W.k ?_
     exact F.ct Ht Z ⟨by rw [hPd,← hZ],rfl⟩
    ·rw [if_neg (fun hh=>he hh.2)] at hPd
     (refine SW.l [] [0,1] ?_;refine dL 2 rfl (nC rfl rfl rfl q1 q2 hz) ?_;refine SG.l [3,4,5] ?_;(first|refine cI 6 rfl ?_;refine SG.l [7,8,9,10] ?_|refine aX 6 ?_))
     refine W.k ?_
     (refine SW.l [1] [0] ?_;refine cB 1 ?_)
     refine W.cq hR ?_
     (refine SL.l [2,3,4,7] ?_;(first|refine cI 8 rfl ?_|refine oE hv0 8 [] rfl ?_);(first|refine cI 5 rfl ?_;refine SG.l [6,9,10,11] ?_|refine aX 5 ?_))
     refine aL hB ?_
     intro v6 H6 h6
     have h61:=h6.isOne
     (refine bO [] ?_;(first|refine cI 6 rfl ?_|refine zD h6 6 [] rfl ?_);(first|refine cI 9 rfl ?_|refine dL 9 rfl (aG8 rfl rfl rfl he) ?_);refine SG.l [10,11] ?_)
     refine W.k ?_
     exact F.ct Ht Z0 ⟨by rw [hPd,← hZ0],rfl⟩
end
end Go.Proofs.YtnigolgkkjidiaaGreat
