/- Blocks that are hidden: the program's. -/
import Derived.Test.YtdfclocfackkmaaGreatPm19
set_option linter.unusedVariables false
set_option linter.unusedSimpArgs false
set_option linter.unusedSectionVars false
set_option maxHeartbeats 1000000
namespace Go.Proofs.YtdfclocfackkmaaGreat
open Go Go.Proofs.Tryz
section
def noQ(l:LV):Prop:=(∃ n,(l.drop 0).take 1=[.int .u64 n])/\(∃ n,(l.drop (0+1)).take 1=[.int .i64 n])/\l.length=2
instance noEq:EqS prog 36 noQ where
 under:=by kernel_rfl
 held:=by kernel_rfl
 guard:=by kernel_rfl
 cov:=by
  refine⟨_,1,2,underlying36,dQ,?_⟩
  unfold noQ
  refine Cov.cons (n:=1) (D':=1) (agg:=false) (p:=fun l=>∃ n,l=[.int .u64 n]) ?_ rfl ?_ ?_ ?_
  ·decide
  ·exact xV.int (t:=23) underlying23
  ·decide
  refine Cov.cons (n:=1) (D':=1) (agg:=false) (p:=fun l=>∃ n,l=[.int .i64 n]) ?_ rfl ?_ ?_ ?_
  ·decide
  ·exact xV.int (t:=3) underlying3
  ·decide
  exact Cov.nil 2
abbrev No:=UInt64×Nat
def noC(x:No):LV:=[.int .u64 (x.1.toNat:Int),.int .i64 (x.2:Int)]
instance(x:No):OC (noC x):=by unfold noC;infer_instance
instance noKey:aLF prog 36 No noC where
 eqs:=⟨noQ,noEq,fun a=>⟨⟨_,rfl⟩,⟨_,rfl⟩,rfl⟩⟩
 inj:=fun a b h=>by
  unfold noC at h
  simp only [qP,Value.int.injEq,and_true,true_and] at h
  obtain⟨h1,h2⟩:=h
  exact Prod.ext (sY.1 oQ) oQ
 chk:=fun em a w=>by
  have h:=underlying36
  have h1:(Go.part 23 (noC a).toArray 0).run prog w=.ok (.int .u64 (a.1.toNat:Int)) w:=aEM (P:=prog) (t:=23) (noC a) 0 w (by simp [noC])
  have h2:(Go.part 3 (noC a).toArray 1).run prog w=.ok (.int .i64 (a.2:Int)) w:=aEM (P:=prog) (t:=3) (noC a) 1 w (by simp [noC])
  have k1:(Instr.checkKey em 9999 23 (.int .u64 (a.1.toNat:Int))).run prog w=.ok () w:=by unfold Instr.checkKey;simp [run_underlying underlying23]
  have k2:(Instr.checkKey em 9999 3 (.int .i64 (a.2:Int))).run prog w=.ok () w:=by unfold Instr.checkKey;simp [run_underlying underlying3]
  unfold Instr.checkKey
  simp [run_underlying h,h1,h2,k1,k2]
instance usedM:aJH prog 120 No noC (.slice none 0 0) where
 ok:=⟨36,31,underlying120,noKey,kQ⟩
attribute [local irreducible] SW SL SQ SH SA SS Pu Fin bS aN
structure Sr where
 used:List (No×LB)
 twice:Option No
def Sr.new:Sr:=⟨[],none⟩
def Sr.at(s:Sr)(x:No):Option LB:=(s.used.find? fun y=>decide (x=y.1)).map Prod.snd
def Sr.hid(s:Sr)(x:No)(b:LB):Sr:=
 match s.at x with
 | none=>{ s with used:=s.used++[(x,b)] }
 | some o=>if o≠b/\s.twice=none then { s with twice:=some x } else s
def twC(t:Option No):LV:=match t with|none=>[]|some x=>noC x
abbrev Us:=No×LB×Value
abbrev usM(us:List Us):List (No×Value):=us.map fun x=>(x.1,x.2.2)
def lL(sp c b n:Nat)(ws:LL)(s:Sr)(H:Hp):Prop:=
 ∃ m tv us Hc Hw Ht,H=(sp,cl [ptv c,.map (some m),tv] 123)::(m,moS noC (usM us))::((Hc++[(b,gK)])++(Hw++Ht)) /\
  aD4 c b n ws Hc/\Sl 36 2 tv (twC s.twice) Hw/\s.used=us.map (fun x=>(x.1,x.2.1))/\(∀ x∈us,RdH Ht x.2.2 x.2.1/\x.2.1.length=256)
theorem aNB(us:List Us)(k:No):atS (usM us) k=(us.find? fun x=>decide (k=x.1)).map fun x=>x.2.2:=by unfold atS usM;rw [rF];simp [Function.comp_def]
theorem aPn{s:Sr}{us:List Us}(h:s.used=us.map (fun x=>(x.1,x.2.1)))(k:No):s.at k=(us.find? fun x=>decide (k=x.1)).map fun x=>x.2.1:=by unfold Sr.at;rw [h,rF];simp [Function.comp_def]
structure kA(n:Nat)(ws:LL):Prop where
 four:∀ y∈ws,y.length=4
 max:ws.length<=1000
 pos:1<=n
 all:4*n+4<=ws.length
theorem aLp(sp:Nat)(k:Int)(v:Value)(x:LB):Tri prog 186 [ptv sp,.int .i64 k,v] [] (fun w=>Rd [] w 1 v (cbs x)) (fun r H=>r=.int .i64 (if 0<=k/\k<65536 then (if x.length=256 then 0 else 1) else 3)/\H=[]):=by
 refine Tri.mt func186 ntmps186 fun w hw=>?_;obtain⟨a,la,ca,rfl,hl1,hc1,hr1⟩:=hw.get;rw [aI,Nat.mul_one] at hl1;subst hl1;have hY:One (Value.slice a x.length ca):=⟨rfl⟩;by_cases h1:0<=k/\k<65536
 ·rw [if_pos h1];by_cases h2:x.length=256
  ·rw [if_pos h2];refine W.k ?_;exact F.n
  rw [if_neg h2];refine W.k ?_;exact F.n
 rw [if_neg h1];by_cases h2:k<0
 ·refine W.k ?_;exact F.n
 refine W.k ?_;exact F.n
theorem aJQ{sp c b n:Nat}{ws:LL}{s:Sr}{H:Hp}(hS:lL sp c b n ws s H)(hK:kA n ws)(e:UInt64)(k:Nat)(hk:k<65536)(v:Value)(x:LB)(hx:x.length=256):Tri prog 172 [ptv sp,dZ e,.int .i64 (k:Int),v] H (fun w=>Rd (H.map Prod.fst) w 1 v (cbs x)) (fun r H'=>∃ q Hr,r=.tuple #[.slice (some ⟨q,0,none⟩) 256 256,.int .i64 0]/\H'=(q,cl (cbs (dY (Aes.enc ws n) e k x)) 5)::Hr/\lL sp c b n ws (s.hid (e,k) x) Hr):=by
 obtain⟨m,tv,us,Hc,Hw,Ht,rfl,hC,hT,hus,hall⟩:=hS;refine Tri.mt func172 ntmps172 fun w hw=>?_;obtain⟨a,la,ca,rfl,hl1,hc1,hr1⟩:=hw.get;rw [aI,Nat.mul_one] at hl1;have hm:=aLp sp (k:Int) (.slice a la ca) x;rw [if_pos oQ,if_pos hx] at hm;have hT1:=hT.isOne;have hY:One (Value.slice a la ca):=⟨rfl⟩;have hnc:noC (e,k)=[dZ e,.int .i64 (k:Int)]:=rfl;have hbn:bV (fun i=>[(0,1),(1,1)][i]?) [.int .u64 0,.int .i64 0] [(0,dZ e),(1,.int .i64 (k:Int))]=some (noC (e,k)):=rfl;have hnl:(noC (e,k)).length=2:=rfl;refine W.k ?_;refine W.cw hm ?_ (hpre:=fun w2 hs=>hw.ro (Hc:=[]) hs);intro b_;(refine SW.l [] [0,1,2,3,4] ?_;refine aNS 5 [] rfl usedM ?_;refine SG.l [6,7,8,9,10,11] ?_);rw [aNB];have hold:=aPn hus (e,k);have hseal:s.hid (e,k) x=match (us.find? fun x=>decide ((e,k)=x.1)).map (fun x=>x.2.1) with
   | none=>{ s with used:=s.used++[((e,k),x)] }
   | some o=>if o≠x/\s.twice=none then { s with twice:=some (e,k) } else s:=by unfold Sr.hid;rw [hold]
 refine W.j ?_;refine bP [0,1,2,3] ((sp,cl [ptv c,.map (some m),tv] 123)::(m,moS noC (usM us))::(Hw++Ht)) (fun _:Value×List Us×Hp×Hp=>[]) (fun y=>(sp,cl [ptv c,.map (some m),y.1] 123)::(m,moS noC (usM y.2.1))::(y.2.2.1++y.2.2.2))
  (fun y=>Sl 36 2 y.1 (twC (s.hid (e,k) x).twice) y.2.2.1/\(s.hid (e,k) x).used=y.2.1.map (fun x=>(x.1,x.2.1))/\(∀ x∈y.2.1,RdH y.2.2.2 x.2.2 x.2.1/\x.2.1.length=256)) ?_ ?_
 ·cases hfd:us.find? fun x=>decide ((e,k)=x.1) with
  | none=>
   rw [hfd] at hseal
   dsimp only [Option.map_none,Option.getD_none,Option.isSome_none]
   dsimp only [Option.map_none] at hseal
   have hno:atS (usM us) ((e,k):No)=none:=by rw [aNB,hfd];rfl
   refine W.k ?_
   (refine SW.l [7] [0,1,2,3,4,5] ?_;refine aX 6 ?_)
   refine aF (wY _ x oQ) ?_ (hpre:=fun w2 hs=>hw.ro (Hc:=[]) hs)
   intro v1 H1 h1
   have h11:=h1.isOne
   (refine bB [] ?_;refine bL 7 ?_)
   refine aNW ?_ hno
   rw [show usM us++[((e,k),v1)]=usM (us++[((e,k),x,v1)]) by simp]
   (refine bB [] ?_;refine SS.dn ?_)
   refine W.k ?_
   refine bS.mk (tv,us++[((e,k),x,v1)],Hw,H1++Ht) ?_
   refine⟨by rw [hseal];exact hT,by rw [hseal,aZ,<-hus];rfl,fun z hz=>?_⟩
   rcases bJ.1 hz with h|h
   ·exact⟨(hall z h).1.mono fun y hy=>aM _ hy,(hall z h).2⟩
   ·rw [bW] at h
    subst h
    exact⟨(RdH.of h1).mono fun y hy=>aO _ hy,hx⟩
  | some y=>
   have hmem:=mU hfd
   obtain⟨y1,y2,yv⟩:=y
   obtain⟨hyr,hyl⟩:=hall _ hmem
   dsimp only at hyr hyl
   rw [hfd] at hseal
   dsimp only [Option.map_some,Option.getD_some,Option.isSome_some]
   dsimp only [Option.map_some] at hseal
   have hyv:=hyr.one
   obtain⟨ya,yl,yc,rfl,-⟩:=(show RdH Ht yv y2 from hyr)
   refine W.k ?_
   refine W.cq (zN (.slice ya yl yc) (.slice a la ca) y2 x) ?_ rfl (fun w2 hs=>⟨hyr.rd (Hc:=[]) hs,hw.ro (Hc:=[]) hs⟩)
   have hkeep:∀ s',s'=s->Sl 36 2 tv (twC s'.twice) Hw/\s'.used=us.map (fun x=>(x.1,x.2.1))/\(∀ x∈us,RdH Ht x.2.2 x.2.1/\x.2.1.length=256):=fun s' h=>h▸⟨hT,hus,hall⟩
   by_cases ho:y2=x
   ·rw [decide_eq_true ho]
    rw [if_neg (by simp [ho])] at hseal
    refine W.k ?_
    refine bS.mk (tv,us,Hw,Ht) ?_
    exact hkeep _ hseal
   ·rw [decide_eq_false ho]
    obtain⟨ta,tl,tc,rfl,htl⟩:=hT.form
    cases htw:s.twice with
    | none=>
     rw [htw] at hT htl
     have htl0:tl=0:=by simp [twC] at htl;omega
     subst htl0
     rw [if_pos ⟨ho,htw⟩] at hseal
     refine W.k ?_
     (refine SW.l [7,10] [0,1,2,3,4,5] ?_;refine aX 6 ?_)
     have hbs:bV (fun i=>some (i*2,2)) (zs [.int .u64 0,.int .i64 0] 1) [(0,.agg (noC (e,k)).toArray)]=some (noC (e,k)):=rfl
     refine iQ (fun b6=>?_) (hr:=hbs)
     (refine bB [] ?_;refine bL 7 ?_)
     refine W.ap (ys:=noC (e,k)) (mm:=1) hT (fun w2 hs=>(Sl.own 36 2 b6 (xs:=noC (e,k)) rfl).srcAt hs inferInstance) (fun v3 H3 h3=>?_) (hys:=rfl) (hbytes:=by simp [twC,noC])
     have h31:=h3.isOne
     (refine SL.l [8,9] ?_;refine bL 10 ?_;refine W.i ?_;refine SS.dn ?_)
     refine W.k ?_
     rw [show ([ptv c,.map (some m),.slice ta 0 tc]:LV).set 2 v3=[ptv c,.map (some m),v3] from rfl]
     refine bS.mk (v3,us,H3,Ht) ?_
     rw [hseal]
     exact⟨h3,hus,hall⟩
    | some q=>
     rw [htw] at hT htl
     have htl0:tl=1:=by simp [twC,noC] at htl;omega
     subst htl0
     rw [if_neg (by rw [htw];simp)] at hseal
     refine W.k ?_
     refine bS.mk (.slice ta 1 tc,us,Hw,Ht) ?_
     exact hkeep _ hseal
 rintro⟨tv2,us2,Hw2,Ht2⟩ ⟨h1,h2,h3⟩;dsimp only at h1 h2 h3 |-;haveI ik:Cv .u32 (k:Int) (k:Int):=⟨by rw [sO];omega⟩;refine W.k ?_;refine aF (aHw hC hK.four hK.max hK.pos hK.all e k oQ (.slice a la ca) x oQ oQ) ?_ (hpre:=fun w2 hs=>hw.ro (Hc:=Hc++[(b,gK)]) hs);rw [hx];rintro _ _ ⟨q,rfl,rfl⟩;refine W.k ?_;refine Fin.to ((q,cl (cbs (dY (Aes.enc ws n) e k x)) 5)::(sp,cl [ptv c,.map (some m),tv2] 123)::(m,moS noC (usM us2))::((Hc++[(b,gK)])++(Hw2++Ht2))) ?_;exact F.f2 ⟨q,_,rfl,rfl,m,tv2,us2,Hc,Hw2,Ht2,rfl,hC,h1,h2,h3⟩
theorem aLB{sp c b n:Nat}{ws:LL}{s:Sr}{H:Hp}(hS:lL sp c b n ws s H)(hK:kA n ws)(e:UInt64)(k:Nat)(hk:k<65536):Tri prog 193 [ptv sp,dZ e,.int .i64 (k:Int)] H NT (fun r H'=>∃ q Hr,r=.tuple #[.slice (some ⟨q,0,none⟩) 256 256,.int .i64 0]/\H'=(q,cl (cbs (dY (Aes.enc ws n) e k (List.replicate 256 0))) 5)::Hr/\lL sp c b n ws (s.hid (e,k) (List.replicate 256 0)) Hr):=by refine Tri.mt func193 ntmps193 fun w hw=>?_;have hpd:=aD5 (.slice none 0 0) [] 256 dQ dQ dQ;rw [show pad 256 []=List.replicate 256 0 by unfold pad;rw [List.nil_append,aK (by rw [bA];exact Nat.le_refl _)]] at hpd;have hx:(List.replicate 256 (0:UInt8)).length=256:=bA;generalize List.replicate 256 (0:UInt8)=x at *;refine W.k ?_;refine aF hpd ?_ (hpre:=fun w2 hs=>Rd.nil ..);rintro _ _ ⟨q0,rfl,rfl⟩;refine W.k ?_;refine aF (aJQ hS hK e k hk (.slice (some ⟨q0,0,none⟩) 256 256) x hx) ?_ (hpre:=fun w2 hs=>Rd.my (Hc:=H) (T:=5) q0 _ hs hx);rintro _ _ ⟨q,Hr,rfl,rfl,hS2⟩;refine W.k ?_;refine Fin.to ((q,cl (cbs (dY (Aes.enc ws n) e k x)) 5)::Hr) ?_;exact F.f2 ⟨q,Hr,rfl,rfl,hS2⟩
theorem aLM{sp c b n:Nat}{ws:LL}{s:Sr}{H:Hp}(hS:lL sp c b n ws s H)(hK:kA n ws)(e:UInt64)(k:Nat)(hk:k<65536)(v:Value)(x:LB)(hx:x.length=256):Tri prog 111 [ptv sp,dZ e,.int .i64 (k:Int),v] H (fun w=>Rd (H.map Prod.fst) w 1 v (cbs x)) (fun r H'=>∃ q,r=.tuple #[.slice (some ⟨q,0,none⟩) 256 256,.int .i64 0]/\H'=(q,cl (cbs (dY (Aes.enc ws n) e k x)) 5)::H):=by obtain⟨m,tv,us,Hc,Hw,Ht,rfl,hC,hT,hus,hall⟩:=hS;refine Tri.mt func111 ntmps111 fun w hw=>?_;obtain⟨a,la,ca,rfl,hl1,hc1,hr1⟩:=hw.get;rw [aI,Nat.mul_one] at hl1;have hm:=aLp sp (k:Int) (.slice a la ca) x;rw [if_pos oQ,if_pos hx] at hm;have hT1:=hT.isOne;have hY:One (Value.slice a la ca):=⟨rfl⟩;haveI ik:Cv .u32 (k:Int) (k:Int):=⟨by rw [sO];omega⟩;refine W.k ?_;refine W.cw hm ?_ (hpre:=fun w2 hs=>hw.ro (Hc:=[]) hs);refine aF (aHw hC hK.four hK.max hK.pos hK.all e k oQ (.slice a la ca) x oQ oQ) ?_ (hpre:=fun w2 hs=>hw.ro (Hc:=Hc++[(b,gK)]) hs);rw [hx];rintro _ _ ⟨q,rfl,rfl⟩;refine W.k ?_;refine Fin.to ((q,cl (cbs (dY (Aes.enc ws n) e k x)) 5)::(sp,cl [ptv c,.map (some m),tv] 123)::(m,moS noC (usM us))::((Hc++[(b,gK)])++(Hw++Ht))) ?_;exact F.f2 ⟨q,rfl,rfl⟩
end
end Go.Proofs.YtdfclocfackkmaaGreat
