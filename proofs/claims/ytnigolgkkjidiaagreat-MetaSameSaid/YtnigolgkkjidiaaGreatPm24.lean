/- Blocks that are hidden: the program's. -/
import Derived.Test.YtnigolgkkjidiaaGreatPm22
import Derived.Test.YtnigolgkkjidiaaGreatPm4
import Derived.Test.YtnigolgkkjidiaaGreatPm10
set_option linter.unusedVariables false
set_option linter.unusedSimpArgs false
set_option linter.unusedSectionVars false
set_option maxHeartbeats 1000000
namespace Go.Proofs.YtnigolgkkjidiaaGreat
open Go
def noQ(l:List Value):Prop:=(∃ n,(l.drop 0).take 1=[.int .u64 n])∧(∃ n,(l.drop (0+1)).take 1=[.int .i64 n])∧l.length=2
instance noEq:EqS Tryz.prog 375 noQ where
 under:=by kernel_rfl
 held:=by kernel_rfl
 guard:=by kernel_rfl
 cov:=by
  refine⟨_,1,2,Tryz.underlying375,by decide,?_⟩
  unfold noQ
  refine Cov.cons (n:=1) (D':=1) (agg:=false) (p:=fun l=>∃ n,l=[.int .u64 n]) ?_ rfl ?_ ?_ ?_
  ·decide
  ·exact EqOk.int (t:=28) Tryz.underlying28
  ·decide
  refine Cov.cons (n:=1) (D':=1) (agg:=false) (p:=fun l=>∃ n,l=[.int .i64 n]) ?_ rfl ?_ ?_ ?_
  ·decide
  ·exact EqOk.int (t:=3) Tryz.underlying3
  ·decide
  exact Cov.nil 2
abbrev No:=UInt64×Nat
def noC(x:No):List Value:=[.int .u64 (x.1.toNat:Int),.int .i64 (x.2:Int)]
instance(x:No):OC (noC x):=by unfold noC;infer_instance
instance noKey:KeyS Tryz.prog 375 No noC where
 eqs:=⟨noQ,noEq,fun a=>⟨⟨_,rfl⟩,⟨_,rfl⟩,rfl⟩⟩
 inj:=fun a b h=>by
  unfold noC at h
  simp only [List.cons.injEq,Value.int.injEq,and_true,true_and] at h
  obtain⟨h1,h2⟩:=h
  exact Prod.ext (UInt64.toNat_inj.1 (by omega)) (by omega)
 chk:=fun em a w=>by
  have h:=Tryz.underlying375
  have h1:(Go.part 28 (noC a).toArray 0).run Tryz.prog w=.ok (.int .u64 (a.1.toNat:Int)) w:=part_s (P:=Tryz.prog) (t:=28) (noC a) 0 w (by simp [noC])
  have h2:(Go.part 3 (noC a).toArray 1).run Tryz.prog w=.ok (.int .i64 (a.2:Int)) w:=part_s (P:=Tryz.prog) (t:=3) (noC a) 1 w (by simp [noC])
  have k1:(Instr.checkKey em 9999 28 (.int .u64 (a.1.toNat:Int))).run Tryz.prog w=.ok () w:=by unfold Instr.checkKey;simp [run_underlying Tryz.underlying28]
  have k2:(Instr.checkKey em 9999 3 (.int .i64 (a.2:Int))).run Tryz.prog w=.ok () w:=by unfold Instr.checkKey;simp [run_underlying Tryz.underlying3]
  unfold Instr.checkKey
  simp [run_underlying h,h1,h2,k1,k2]
instance usedM:MapS Tryz.prog 226 No noC (.slice none 0 0) where
 ok:=⟨375,50,Tryz.underlying226,noKey,by kernel_rfl⟩
attribute [local irreducible] SW SL SQ SH SA SS Pu Fin CutF HandF
structure Sr where
 used:List (No×List UInt8)
 twice:Option No
def Sr.new:Sr:=⟨[],none⟩
def Sr.at(s:Sr)(x:No):Option (List UInt8):=(s.used.find? fun y=>decide (x=y.1)).map Prod.snd
def Sr.hid(s:Sr)(x:No)(b:List UInt8):Sr:=
 match s.at x with
 | none=>{ s with used:=s.used++[(x,b)] }
 | some o=>if o≠b∧s.twice=none then { s with twice:=some x } else s
def twC(t:Option No):List Value:=match t with|none=>[]|some x=>noC x
abbrev Us:=No×List UInt8×Value
abbrev usM(us:List Us):List (No×Value):=us.map fun x=>(x.1,x.2.2)
def SealP(sp c b n:Nat)(ws:List (List UInt8))(s:Sr)(H:Hp):Prop:=
 ∃ m tv us Hc Hw Ht,H=(sp,cl [ptv c,.map (some m),tv] 229)::(m,moS noC (usM us))::((Hc++[(b,boxO)])++(Hw++Ht)) ∧
  CipP c b n ws Hc∧Sl 375 2 tv (twC s.twice) Hw∧s.used=us.map (fun x=>(x.1,x.2.1))∧(∀ x∈us,RdH Ht x.2.2 x.2.1∧x.2.1.length=256)
theorem us_at(us:List Us)(k:No):atS (usM us) k=(us.find? fun x=>decide (k=x.1)).map fun x=>x.2.2:=by
 unfold atS usM
 rw [List.find?_map]
 simp [Function.comp_def]
theorem us_old{s:Sr}{us:List Us}(h:s.used=us.map (fun x=>(x.1,x.2.1)))(k:No):s.at k=(us.find? fun x=>decide (k=x.1)).map fun x=>x.2.1:=by
 unfold Sr.at
 rw [h,List.find?_map]
 simp [Function.comp_def]
structure KeyOk(n:Nat)(ws:List (List UInt8)):Prop where
 four:∀ y∈ws,y.length=4
 max:ws.length≤1000
 pos:1≤n
 all:4*n+4≤ws.length
theorem smay_p(sp:Nat)(k:Int)(v:Value)(x:List UInt8):Tri Tryz.prog 144 [ptv sp,.int .i64 k,v] [] (fun w=>Rd [] w 1 v (cbs x)) (fun r H=>r=.int .i64 (if 0≤k∧k<65536 then (if x.length=256 then 0 else 1) else 3)∧H=[]):=by
 refine Tri.mk Tryz.func144 rfl Tryz.ntmps144 rfl fun w hw=>?_
 obtain⟨a,la,ca,rfl,hl1,hc1,hr1⟩:=hw.get
 rw [cbs_len,Nat.mul_one] at hl1
 subst hl1
 have hY:One (Value.slice a x.length ca):=⟨rfl⟩
 by_cases h1:0≤k∧k<65536
 ·rw [if_pos h1]
  by_cases h2:x.length=256
  ·rw [if_pos h2]
   repeat' (first|(refine W.go ?_;try intro b_)|fail)
   refine Fin.to [] ?_
   exact F.f1 ⟨rfl,rfl⟩
  ·rw [if_neg h2]
   repeat' (first|(refine W.go ?_;try intro b_)|fail)
   refine Fin.to [] ?_
   exact F.f1 ⟨rfl,rfl⟩
 ·rw [if_neg h1]
  by_cases h2:k<0
  ·repeat' (first|(refine W.go ?_;try intro b_)|fail)
   refine Fin.to [] ?_
   exact F.f1 ⟨rfl,rfl⟩
  ·repeat' (first|(refine W.go ?_;try intro b_)|fail)
   refine Fin.to [] ?_
   exact F.f1 ⟨rfl,rfl⟩
theorem Seal_p{sp c b n:Nat}{ws:List (List UInt8)}{s:Sr}{H:Hp}(hS:SealP sp c b n ws s H)(hK:KeyOk n ws)(e:UInt64)(k:Nat)(hk:k<65536)(v:Value)(x:List UInt8)(hx:x.length=256) :
  Tri Tryz.prog 192 [ptv sp,u64v e,.int .i64 (k:Int),v] H (fun w=>Rd (H.map Prod.fst) w 1 v (cbs x))
  (fun r H'=>∃ q Hr,r=.tuple #[.slice (some ⟨q,0,none⟩) 256 256,.int .i64 0]∧H'=(q,cl (cbs (ctrX (Aes.enc ws n) e k x)) 5)::Hr∧SealP sp c b n ws (s.hid (e,k) x) Hr):=by
 obtain⟨m,tv,us,Hc,Hw,Ht,rfl,hC,hT,hus,hall⟩:=hS
 refine Tri.mk Tryz.func192 rfl Tryz.ntmps192 rfl fun w hw=>?_
 obtain⟨a,la,ca,rfl,hl1,hc1,hr1⟩:=hw.get
 rw [cbs_len,Nat.mul_one] at hl1
 have hm:=smay_p sp (k:Int) (.slice a la ca) x
 rw [if_pos (by omega),if_pos hx] at hm
 have hT1:=hT.isOne
 have hY:One (Value.slice a la ca):=⟨rfl⟩
 have hnc:noC (e,k)=[u64v e,.int .i64 (k:Int)]:=rfl
 have hbn:bfill (fun i=>[(0,1),(1,1)][i]?) [.int .u64 0,.int .i64 0] [(0,u64v e),(1,.int .i64 (k:Int))]=some (noC (e,k)):=rfl
 have hnl:(noC (e,k)).length=2:=rfl
 repeat' (first|(refine W.go ?_;try intro b_)|fail)
 refine W.call hm ?_ (hpre:=fun w2 hs=>hw.ro (Hc:=[]) hs)
 rintro _ _ ⟨rfl,rfl⟩
 repeat' (first|(refine W.go ?_;try intro b_)|fail)
 (refine SW.regionS [] ?_ (by kernel_rfl);refine SS.T 0 rfl ?_;refine SS.T 1 rfl ?_;refine SS.T 2 rfl ?_;(first|refine SS.ls 3 [] rfl ?_|refine SS.sR 3 rfl ?_);(first|refine SS.lw 4 [] rfl ?_|refine SS.la 4 [] rfl ?_|refine SS.aR 4 rfl ?_);refine SS.lkS 5 [] rfl usedM ?_;refine SS.T 6 rfl ?_;refine SS.T 7 rfl ?_;refine SS.T 8 rfl ?_;refine SS.T 9 rfl ?_;refine SS.T 10 rfl ?_;refine SS.done ?_ (by kernel_rfl))
 rw [us_at]
 have hold:=us_old hus (e,k)
 have hseal:s.hid (e,k) x=match (us.find? fun x=>decide ((e,k)=x.1)).map (fun x=>x.2.1) with
   | none=>{ s with used:=s.used++[((e,k),x)] }
   | some o=>if o≠x∧s.twice=none then { s with twice:=some (e,k) } else s:=by unfold Sr.hid;rw [hold]
 repeat' (first|(refine W.gb ?_;try intro b_)|fail)
 refine SW.cutH [0,1,2,3] ((sp,cl [ptv c,.map (some m),tv] 229)::(m,moS noC (usM us))::(Hw++Ht)) (fun _:Value×List Us×Hp×Hp=>[]) (fun y=>(sp,cl [ptv c,.map (some m),y.1] 229)::(m,moS noC (usM y.2.1))::(y.2.2.1++y.2.2.2))
  (fun y=>Sl 375 2 y.1 (twC (s.hid (e,k) x).twice) y.2.2.1∧(s.hid (e,k) x).used=y.2.1.map (fun x=>(x.1,x.2.1))∧(∀ x∈y.2.1,RdH y.2.2.2 x.2.2 x.2.1∧x.2.1.length=256)) ?_ ?_
 ·cases hfd:us.find? fun x=>decide ((e,k)=x.1) with
  | none=>
   rw [hfd] at hseal
   dsimp only [Option.map_none,Option.getD_none,Option.isSome_none]
   dsimp only [Option.map_none] at hseal
   have hno:atS (usM us) ((e,k):No)=none:=by rw [us_at,hfd];rfl
   repeat' (first|(refine W.go ?_;try intro b_)|fail)
   (refine SW.regionS [7] ?_ (by kernel_rfl);refine SS.T 0 rfl ?_;refine SS.T 1 rfl ?_;refine SS.T 2 rfl ?_;(first|refine SS.ls 3 [7] rfl ?_|refine SS.sR 3 rfl ?_);(first|refine SS.lw 4 [7] rfl ?_|refine SS.la 4 [7] rfl ?_|refine SS.aR 4 rfl ?_);refine SS.T 5 rfl ?_;refine SS.effK 6 ?_ rfl (by kernel_rfl))
   refine W.call (Clone_p _ x (by omega)) ?_ (hpre:=fun w2 hs=>hw.ro (Hc:=[]) hs)
   intro v1 H1 h1
   have h11:=h1.isOne
   (refine SL.nilB ?_;refine SS.effB 7 ?_ rfl (by kernel_rfl))
   refine W.mupK ?_ hno
   rw [show usM us++[((e,k),v1)]=usM (us++[((e,k),x,v1)]) by simp]
   (refine SL.nilB ?_;refine SS.done ?_ (by kernel_rfl))
   repeat' (first|(refine W.go ?_;try intro b_)|fail)
   refine CutF.mk (tv,us++[((e,k),x,v1)],Hw,H1++Ht) ?_
   refine⟨by rw [hseal];exact hT,by rw [hseal,List.map_append,← hus];rfl,fun z hz=>?_⟩
   rcases List.mem_append.1 hz with h|h
   ·exact⟨(hall z h).1.mono fun y hy=>List.mem_append_right _ hy,(hall z h).2⟩
   ·rw [List.mem_singleton] at h
    subst h
    exact⟨(RdH.of h1).mono fun y hy=>List.mem_append_left _ hy,hx⟩
  | some y=>
   have hmem:=List.mem_of_find?_eq_some hfd
   obtain⟨y1,y2,yv⟩:=y
   obtain⟨hyr,hyl⟩:=hall _ hmem
   dsimp only at hyr hyl
   rw [hfd] at hseal
   dsimp only [Option.map_some,Option.getD_some,Option.isSome_some]
   dsimp only [Option.map_some] at hseal
   have hyv:=hyr.one
   obtain⟨ya,yl,yc,rfl,-⟩:=(show RdH Ht yv y2 from hyr)
   repeat' (first|(refine W.go ?_;try intro b_)|fail)
   refine W.call (Equal_p (.slice ya yl yc) (.slice a la ca) y2 x) ?_ rfl (fun w2 hs=>⟨hyr.rd (Hc:=[]) hs,hw.ro (Hc:=[]) hs⟩)
   rintro _ _ ⟨rfl,rfl⟩
   have hkeep:∀ s',s'=s→Sl 375 2 tv (twC s'.twice) Hw∧s'.used=us.map (fun x=>(x.1,x.2.1))∧(∀ x∈us,RdH Ht x.2.2 x.2.1∧x.2.1.length=256):=fun s' h=>h▸⟨hT,hus,hall⟩
   by_cases ho:y2=x
   ·rw [decide_eq_true ho]
    rw [if_neg (by simp [ho])] at hseal
    repeat' (first|(refine W.go ?_;try intro b_)|fail)
    refine CutF.mk (tv,us,Hw,Ht) ?_
    exact hkeep _ hseal
   ·rw [decide_eq_false ho]
    obtain⟨ta,tl,tc,rfl,htl⟩:=hT.form
    cases htw:s.twice with
    | none=>
     rw [htw] at hT htl
     have htl0:tl=0:=by simp [twC] at htl;omega
     subst htl0
     rw [if_pos ⟨ho,htw⟩] at hseal
     repeat' (first|(refine W.go ?_;try intro b_)|fail)
     (refine SW.regionS [7,10] ?_ (by kernel_rfl);refine SS.T 0 rfl ?_;refine SS.T 1 rfl ?_;refine SS.T 2 rfl ?_;refine SS.T 3 rfl ?_;(first|refine SS.ls 4 [7,10] rfl ?_|refine SS.sR 4 rfl ?_);(first|refine SS.lw 5 [6,7,10] rfl ?_|refine SS.la 5 [6,7,10] rfl ?_|refine SS.aR 5 rfl ?_);refine SS.effK 6 ?_ rfl (by kernel_rfl))
     have hbs:bfill (fun i=>some (i*2,2)) (zs [.int .u64 0,.int .i64 0] 1) [(0,.agg (noC (e,k)).toArray)]=some (noC (e,k)):=rfl
     refine W.bsl (fun b6=>?_) (hr:=hbs)
     (refine SL.nilB ?_;refine SS.effB 7 ?_ rfl (by kernel_rfl))
     refine W.ap (ys:=noC (e,k)) (mm:=1) hT (fun w2 hs=>(Sl.own 375 2 b6 (xs:=noC (e,k)) rfl).srcAt hs inferInstance) (fun v3 H3 h3=>?_) (hys:=rfl) (hbytes:=by simp [twC,noC])
     have h31:=h3.isOne
     (refine SL.nilB ?_;refine SS.T 8 rfl ?_;refine SS.T 9 rfl ?_;refine SS.effB 10 ?_ rfl (by kernel_rfl);(repeat' (first|(refine W.g1 ?_;try intro b_)|fail));refine SS.done ?_ (by kernel_rfl))
     repeat' (first|(refine W.go ?_;try intro b_)|fail)
     rw [show ([ptv c,.map (some m),.slice ta 0 tc]:List Value).set 2 v3=[ptv c,.map (some m),v3] from rfl]
     refine CutF.mk (v3,us,H3,Ht) ?_
     rw [hseal]
     exact⟨h3,hus,hall⟩
    | some q=>
     rw [htw] at hT htl
     have htl0:tl=1:=by simp [twC,noC] at htl;omega
     subst htl0
     rw [if_neg (by rw [htw];simp)] at hseal
     repeat' (first|(refine W.go ?_;try intro b_)|fail)
     refine CutF.mk (.slice ta 1 tc,us,Hw,Ht) ?_
     exact hkeep _ hseal
 rintro⟨tv2,us2,Hw2,Ht2⟩ ⟨h1,h2,h3⟩
 dsimp only at h1 h2 h3 ⊢
 haveI ik:Cv .u32 (k:Int) (k:Int):=⟨by rw [wrap32];omega⟩
 repeat' (first|(refine W.go ?_;try intro b_)|fail)
 refine W.call (Apply_p hC hK.four hK.max hK.pos hK.all e k (by omega) (.slice a la ca) x (by omega) (by omega)) ?_ (hpre:=fun w2 hs=>hw.ro (Hc:=Hc++[(b,boxO)]) hs)
 rw [hx]
 rintro _ _ ⟨q,rfl,rfl⟩
 repeat' (first|(refine W.go ?_;try intro b_)|fail)
 refine Fin.to ((q,cl (cbs (ctrX (Aes.enc ws n) e k x)) 5)::(sp,cl [ptv c,.map (some m),tv2] 229)::(m,moS noC (usM us2))::((Hc++[(b,boxO)])++(Hw2++Ht2))) ?_
 exact F.f2 ⟨q,_,rfl,rfl,m,tv2,us2,Hc,Hw2,Ht2,rfl,hC,h1,h2,h3⟩
theorem Blank_p{sp c b n:Nat}{ws:List (List UInt8)}{s:Sr}{H:Hp}(hS:SealP sp c b n ws s H)(hK:KeyOk n ws)(e:UInt64)(k:Nat)(hk:k<65536) :
  Tri Tryz.prog 133 [ptv sp,u64v e,.int .i64 (k:Int)] H (fun _=>True)
  (fun r H'=>∃ q Hr,r=.tuple #[.slice (some ⟨q,0,none⟩) 256 256,.int .i64 0]∧H'=(q,cl (cbs (ctrX (Aes.enc ws n) e k (List.replicate 256 0))) 5)::Hr∧SealP sp c b n ws (s.hid (e,k) (List.replicate 256 0)) Hr):=by
 refine Tri.mk Tryz.func133 rfl Tryz.ntmps133 rfl fun w hw=>?_
 have hpd:=Pad_p2 (.slice none 0 0) [] 256 (by decide) (by decide) (by decide)
 rw [show pad 256 []=List.replicate 256 0 by unfold pad;rw [List.nil_append,List.take_of_length_le (by rw [List.length_replicate];exact Nat.le_refl _)]] at hpd
 have hx:(List.replicate 256 (0:UInt8)).length=256:=List.length_replicate
 generalize List.replicate 256 (0:UInt8)=x at *
 repeat' (first|(refine W.go ?_;try intro b_)|fail)
 refine W.call hpd ?_ (hpre:=fun w2 hs=>Rd.nil ..)
 rintro _ _ ⟨q0,rfl,rfl⟩
 repeat' (first|(refine W.go ?_;try intro b_)|fail)
 refine W.call (Seal_p hS hK e k hk (.slice (some ⟨q0,0,none⟩) 256 256) x hx) ?_ (hpre:=fun w2 hs=>Rd.my (Hc:=H) (T:=5) q0 _ hs hx)
 rintro _ _ ⟨q,Hr,rfl,rfl,hS2⟩
 repeat' (first|(refine W.go ?_;try intro b_)|fail)
 refine Fin.to ((q,cl (cbs (ctrX (Aes.enc ws n) e k x)) 5)::Hr) ?_
 exact F.f2 ⟨q,Hr,rfl,rfl,hS2⟩
theorem SOpen_p{sp c b n:Nat}{ws:List (List UInt8)}{s:Sr}{H:Hp}(hS:SealP sp c b n ws s H)(hK:KeyOk n ws)(e:UInt64)(k:Nat)(hk:k<65536)(v:Value)(x:List UInt8)(hx:x.length=256) :
  Tri Tryz.prog 74 [ptv sp,u64v e,.int .i64 (k:Int),v] H (fun w=>Rd (H.map Prod.fst) w 1 v (cbs x))
  (fun r H'=>∃ q,r=.tuple #[.slice (some ⟨q,0,none⟩) 256 256,.int .i64 0]∧H'=(q,cl (cbs (ctrX (Aes.enc ws n) e k x)) 5)::H):=by
 obtain⟨m,tv,us,Hc,Hw,Ht,rfl,hC,hT,hus,hall⟩:=hS
 refine Tri.mk Tryz.func74 rfl Tryz.ntmps74 rfl fun w hw=>?_
 obtain⟨a,la,ca,rfl,hl1,hc1,hr1⟩:=hw.get
 rw [cbs_len,Nat.mul_one] at hl1
 have hm:=smay_p sp (k:Int) (.slice a la ca) x
 rw [if_pos (by omega),if_pos hx] at hm
 have hT1:=hT.isOne
 have hY:One (Value.slice a la ca):=⟨rfl⟩
 haveI ik:Cv .u32 (k:Int) (k:Int):=⟨by rw [wrap32];omega⟩
 repeat' (first|(refine W.go ?_;try intro b_)|fail)
 refine W.call hm ?_ (hpre:=fun w2 hs=>hw.ro (Hc:=[]) hs)
 rintro _ _ ⟨rfl,rfl⟩
 repeat' (first|(refine W.go ?_;try intro b_)|fail)
 refine W.call (Apply_p hC hK.four hK.max hK.pos hK.all e k (by omega) (.slice a la ca) x (by omega) (by omega)) ?_ (hpre:=fun w2 hs=>hw.ro (Hc:=Hc++[(b,boxO)]) hs)
 rw [hx]
 rintro _ _ ⟨q,rfl,rfl⟩
 repeat' (first|(refine W.go ?_;try intro b_)|fail)
 refine Fin.to ((q,cl (cbs (ctrX (Aes.enc ws n) e k x)) 5)::(sp,cl [ptv c,.map (some m),tv] 229)::(m,moS noC (usM us))::((Hc++[(b,boxO)])++(Hw++Ht))) ?_
 exact F.f2 ⟨q,rfl,rfl⟩
end Go.Proofs.YtnigolgkkjidiaaGreat
