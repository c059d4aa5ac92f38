/- Bytes that are filled up to a block. -/
import Derived.Test.YtnigolgkkjidiaaGreatPq11
import Derived.Test.YtnigolgkkjidiaaGreatPq40
import Derived.Test.YtnigolgkkjidiaaGreatPq6
set_option linter.unusedVariables false
set_option linter.unusedSimpArgs false
set_option linter.unusedSectionVars false
set_option maxHeartbeats 4000000
namespace Go.Proofs.YtnigolgkkjidiaaGreat
open Go
attribute [local irreducible] SW SL SQ SH SA SS Pu Fin CutF HandF
theorem Rd.lastAt{w:World}{a:Option Addr}{len cap:Nat}{bs:List UInt8}(h:Rd [] w 1 (.slice a len cap) (cbs bs))(hl:0<len):∃ (b o:Nat) (l:List Value) (T:TypeId) (fz:Nat×Nat) (c:UInt8),a=some ⟨b,o,none⟩∧w.heap[b]?=some (.cells l.toArray T fz)∧b∉([]:List Nat)∧l[o+(len-1)]?=some (.int .u8 (c.toNat:Int)):=by
 obtain⟨a',len',cap',he,hyl,hc,hr⟩:=h.get
 cases he
 rw [cbs_len,Nat.mul_one] at hyl
 obtain⟨b,o,l,T,fz,ha,hb,hk,hys⟩:=hr hl
 obtain⟨c,hc1⟩:∃ c,bs[len-1]?=some c:=⟨_,List.getElem?_eq_getElem (by omega)⟩
 refine⟨b,o,l,T,fz,c,ha,hb,hk,?_⟩
 have:((l.drop o).take (len*1))[len-1]?=(cbs bs)[len-1]?:=by rw [hys]
 rw [List.getElem?_take,if_pos (by omega),List.getElem?_drop] at this
 rw [this]
 unfold cbs
 rw [List.getElem?_map,hc1]
 rfl
theorem Full_p(v:Value)(bs:List UInt8):Tri Tryz.prog 20 [v] [] (fun w=>Rd [] w 1 v (cbs bs)) (fun v H=>∃ ys:List UInt8,ys.length=256∧Sl 5 1 v (cbs ys) H):=by
 refine Tri.mk Tryz.func20 rfl Tryz.ntmps20 rfl fun w hw=>?_
 obtain⟨a,len,cap,rfl,hl,hc,-⟩:=hw.get
 rw [cbs_len,Nat.mul_one] at hl
 by_cases hb:256<len
 ·have hR:=Rd.pre 256 hw
  rw [show min 256 len=256 by omega] at hR
  obtain⟨b0,o0,l0,T0,fz0,c,rfl,hbq,hbk,hcell⟩:=hR.lastAt (by omega)
  repeat' (first|(refine W.gb ?_;try intro b_)|fail)
  have h0:Sl 5 1 (.slice (some ⟨b_,0,none⟩) 0 0) [] [(b_,cl ([]:List Value) 5)]:=Sl.mk (xs:=[]) (junk:=[]) (len:=0) (cap:=0) rfl rfl (Nat.le_refl _)
  have hml:(bs.take 256).length=256:=by first|exact hl|(rw [List.length_take];omega)
  refine W.ap h0 (fun w2 hs=>hR.srcAt hs) (fun v1 H1 h1=>?_) (hys:=by rw [cbs_len,Nat.mul_one];exact hml) (hbytes:=by rw [cbs_len,hml];simp <;> omega)
  have h11:=h1.isOne
  rw [List.nil_append] at h1
  repeat' (first|(refine W.gb ?_;try intro b_)|fail)
  refine SW.cutH [] H1 (fun x:Value×Hp×List UInt8=>[(3,x.1)]) (fun x=>x.2.1) (fun x=>x.2.2.length=256∧Sl 5 1 x.1 (cbs x.2.2) x.2.1) ?_ ?_
  ·repeat' (first|(refine W.go ?_;try intro b_)|fail)
   refine SW.loopF [0] (fun x:List UInt8×Value×Hp=>[(3,x.2.1)]) (fun x=>x.2.2) (fun x=>256-x.1.length) (fun x=>x.1.length≤256∧Sl 5 1 x.2.1 (cbs x.1) x.2.2) (bs.take 256,v1,H1) ⟨by rw [hml];omega,h1⟩ ?_
   rintro⟨ys,v2,H2⟩ ⟨hy,h2⟩
   dsimp only at hy h2 ⊢
   have h21:=h2.isOne
   obtain⟨a2,l2,c2,rfl,hl2⟩:=h2.form
   rw [cbs_len,Nat.mul_one] at hl2
   by_cases hlt:ys.length<256
   ·have hbf:bfill (fun i=>some (i*1,1)) (zs [.int .u8 0] 1) [(0,.int .u8 (c.toNat:Int))]=some (cbs [c]):=rfl
    have hN:NatI (((256:Nat):Int)-1) (256-1):=⟨by omega⟩
    repeat' (first|(refine W.go ?_;try intro b_)|fail)
    refine W.ap (ys:=cbs [c]) (mm:=1) h2 (fun w2 hs=>(Sl.own 5 1 b_ (xs:=cbs [c]) rfl).srcAt hs inferInstance) (fun v3 H3 h3=>?_) (hys:=rfl) (hbytes:=by rw [cbs_len,cbs_len];simp <;> omega)
    have h31:=h3.isOne
    rw [← cbs_app] at h3
    repeat' (first|(refine W.go ?_;try intro b_)|fail)
    have hyl:(ys++[c]).length=ys.length+1:=by rw [List.length_append,List.length_singleton]
    refine HandF.mk (ys++[c],v3,H3) ?_
    exact⟨by dsimp only;omega,h3⟩
   ·repeat' (first|(refine W.go ?_;try intro b_)|fail)
    refine CutF.mk (.slice a2 l2 c2,H2,ys) ?_
    exact⟨by dsimp only;omega,h2⟩
  rintro⟨v2,H2,ys⟩ ⟨hy,h2⟩
  dsimp only at hy h2 ⊢
  have h21:=h2.isOne
  repeat' (first|(refine W.go ?_;try intro b_)|fail)
  refine Fin.to H2 ?_
  exact F.f1 ⟨ys,hy,h2⟩
 by_cases hm0:0<len
 ·have hR:=hw
  obtain⟨b0,o0,l0,T0,fz0,c,rfl,hbq,hbk,hcell⟩:=hR.lastAt (by omega)
  repeat' (first|(refine W.gb ?_;try intro b_)|fail)
  have h0:Sl 5 1 (.slice (some ⟨b_,0,none⟩) 0 0) [] [(b_,cl ([]:List Value) 5)]:=Sl.mk (xs:=[]) (junk:=[]) (len:=0) (cap:=0) rfl rfl (Nat.le_refl _)
  have hml:(bs).length=len:=by first|exact hl|(rw [List.length_take];omega)
  refine W.ap h0 (fun w2 hs=>hR.srcAt hs) (fun v1 H1 h1=>?_) (hys:=by rw [cbs_len,Nat.mul_one];exact hml) (hbytes:=by rw [cbs_len,hml];simp <;> omega)
  have h11:=h1.isOne
  rw [List.nil_append] at h1
  repeat' (first|(refine W.gb ?_;try intro b_)|fail)
  refine SW.cutH [] H1 (fun x:Value×Hp×List UInt8=>[(3,x.1)]) (fun x=>x.2.1) (fun x=>x.2.2.length=256∧Sl 5 1 x.1 (cbs x.2.2) x.2.1) ?_ ?_
  ·repeat' (first|(refine W.go ?_;try intro b_)|fail)
   refine SW.loopF [0] (fun x:List UInt8×Value×Hp=>[(3,x.2.1)]) (fun x=>x.2.2) (fun x=>256-x.1.length) (fun x=>x.1.length≤256∧Sl 5 1 x.2.1 (cbs x.1) x.2.2) (bs,v1,H1) ⟨by rw [hml];omega,h1⟩ ?_
   rintro⟨ys,v2,H2⟩ ⟨hy,h2⟩
   dsimp only at hy h2 ⊢
   have h21:=h2.isOne
   obtain⟨a2,l2,c2,rfl,hl2⟩:=h2.form
   rw [cbs_len,Nat.mul_one] at hl2
   by_cases hlt:ys.length<256
   ·have hbf:bfill (fun i=>some (i*1,1)) (zs [.int .u8 0] 1) [(0,.int .u8 (c.toNat:Int))]=some (cbs [c]):=rfl
    have hN:NatI (((len:Nat):Int)-1) (len-1):=⟨by omega⟩
    repeat' (first|(refine W.go ?_;try intro b_)|fail)
    refine W.ap (ys:=cbs [c]) (mm:=1) h2 (fun w2 hs=>(Sl.own 5 1 b_ (xs:=cbs [c]) rfl).srcAt hs inferInstance) (fun v3 H3 h3=>?_) (hys:=rfl) (hbytes:=by rw [cbs_len,cbs_len];simp <;> omega)
    have h31:=h3.isOne
    rw [← cbs_app] at h3
    repeat' (first|(refine W.go ?_;try intro b_)|fail)
    have hyl:(ys++[c]).length=ys.length+1:=by rw [List.length_append,List.length_singleton]
    refine HandF.mk (ys++[c],v3,H3) ?_
    exact⟨by dsimp only;omega,h3⟩
   ·repeat' (first|(refine W.go ?_;try intro b_)|fail)
    refine CutF.mk (.slice a2 l2 c2,H2,ys) ?_
    exact⟨by dsimp only;omega,h2⟩
  rintro⟨v2,H2,ys⟩ ⟨hy,h2⟩
  dsimp only at hy h2 ⊢
  have h21:=h2.isOne
  repeat' (first|(refine W.go ?_;try intro b_)|fail)
  refine Fin.to H2 ?_
  exact F.f1 ⟨ys,hy,h2⟩
 ·have hR:=hw
  repeat' (first|(refine W.gb ?_;try intro b_)|fail)
  have h0:Sl 5 1 (.slice (some ⟨b_,0,none⟩) 0 0) [] [(b_,cl ([]:List Value) 5)]:=Sl.mk (xs:=[]) (junk:=[]) (len:=0) (cap:=0) rfl rfl (Nat.le_refl _)
  have hml:(bs).length=len:=by first|exact hl|(rw [List.length_take];omega)
  refine W.ap h0 (fun w2 hs=>hR.srcAt hs) (fun v1 H1 h1=>?_) (hys:=by rw [cbs_len,Nat.mul_one];exact hml) (hbytes:=by rw [cbs_len,hml];simp <;> omega)
  have h11:=h1.isOne
  rw [List.nil_append] at h1
  repeat' (first|(refine W.gb ?_;try intro b_)|fail)
  refine SW.cutH [] H1 (fun x:Value×Hp×List UInt8=>[(3,x.1)]) (fun x=>x.2.1) (fun x=>x.2.2.length=256∧Sl 5 1 x.1 (cbs x.2.2) x.2.1) ?_ ?_
  ·repeat' (first|(refine W.go ?_;try intro b_)|fail)
   refine SW.loopF [0] (fun x:List UInt8×Value×Hp=>[(3,x.2.1)]) (fun x=>x.2.2) (fun x=>256-x.1.length) (fun x=>x.1.length≤256∧Sl 5 1 x.2.1 (cbs x.1) x.2.2) (bs,v1,H1) ⟨by rw [hml];omega,h1⟩ ?_
   rintro⟨ys,v2,H2⟩ ⟨hy,h2⟩
   dsimp only at hy h2 ⊢
   have h21:=h2.isOne
   obtain⟨a2,l2,c2,rfl,hl2⟩:=h2.form
   rw [cbs_len,Nat.mul_one] at hl2
   by_cases hlt:ys.length<256
   ·have hbf:bfill (fun i=>some (i*1,1)) (zs [.int .u8 0] 1) [(0,.int .u8 0)]=some (cbs [0]):=rfl
    repeat' (first|(refine W.go ?_;try intro b_)|fail)
    refine W.ap (ys:=cbs [0]) (mm:=1) h2 (fun w2 hs=>(Sl.own 5 1 b_ (xs:=cbs [0]) rfl).srcAt hs inferInstance) (fun v3 H3 h3=>?_) (hys:=rfl) (hbytes:=by rw [cbs_len,cbs_len];simp <;> omega)
    have h31:=h3.isOne
    rw [← cbs_app] at h3
    repeat' (first|(refine W.go ?_;try intro b_)|fail)
    have hyl:(ys++[0]).length=ys.length+1:=by rw [List.length_append,List.length_singleton]
    refine HandF.mk (ys++[0],v3,H3) ?_
    exact⟨by dsimp only;omega,h3⟩
   ·repeat' (first|(refine W.go ?_;try intro b_)|fail)
    refine CutF.mk (.slice a2 l2 c2,H2,ys) ?_
    exact⟨by dsimp only;omega,h2⟩
  rintro⟨v2,H2,ys⟩ ⟨hy,h2⟩
  dsimp only at hy h2 ⊢
  have h21:=h2.isOne
  repeat' (first|(refine W.go ?_;try intro b_)|fail)
  refine Fin.to H2 ?_
  exact F.f1 ⟨ys,hy,h2⟩
abbrev key2:List UInt8:=2::List.replicate 15 0
theorem awake21_p:Tri Tryz.prog 22 [] [] (fun _=>True) (fun v H=>v=.bool true∧H=[]):=by
 refine Tri.mk Tryz.func22 rfl Tryz.ntmps22 rfl fun w hw=>?_
 have hbk:bfill (fun i=>some (i*1,1)) (List.replicate 16 (.int .u8 0)) [(0,.int .u8 2)]=some (cbs key2):=rfl
 have hb1:bfill (fun i=>some (i*1,1)) (zs [.int .u8 0] 1) [(0,.int .u8 120)]=some (cbs [120]):=rfl
 have hKo:=sched_ok key2 rfl
 have hbeg:=begun21_p key2 rfl (most:=4) (by decide)
 generalize key2=k2 at *
 repeat' (first|(refine W.go ?_;try intro b_)|fail)
 refine W.call hbeg ?_
 rintro _ _ ⟨pp,b,rb,rfl,i,sp,rv,σ,x,sr,β,Hd,Hs,Hk,HS,HB,hD,hS,hBk,hSt,hBt,hx,hst,hlen,hfr,rfl⟩
 have hf3:=hfr 3 (by decide)
 rw [show ((3:Nat):Int)=3 from rfl] at hf3
 generalize hz:List.replicate 256 (0:UInt8)=z at hf3
 generalize Aes.sched k2=ws at *
 clear hfr hbeg
 repeat' (first|(refine W.go ?_;try intro b_)|fail)
 refine W.call (Full_p (.slice (some ⟨b_,0,none⟩) 1 1) [120]) ?_ (hpre:=fun w2 hs=>Rd.atB (Hc:=[]) (T:=5) (fz:=((cbs [120]).length,(cbs [120]).length+1)) [120] hs rfl (Nat.le_refl _))
 rintro v1 H1 ⟨ys,hys,h1⟩
 have h11:=h1.isOne
 obtain⟨a1,l1,c1,rfl,hl1⟩:=h1.form
 repeat' (first|(refine W.go ?_;try intro b_)|fail)
 refine W.call (bPutS_p hSt hst hBt 3 (.slice a1 l1 c1) ys hys) ?_ (hpre:=fun w2 hs=>Rd.own (Hc:=HB++HS) h1 hs inferInstance)
 rintro _ _ ⟨HB2,rfl,hB2,rfl⟩
 rw [show Bl.no 4 [] 3=0 from rfl]
 rw [show Bl.step 4 [] 3 ys=[(3,ys)] from rfl] at hB2
 repeat' (first|(refine W.go ?_;try intro b_)|fail)
 refine W.call (bGet_p hB2 ok34 hx hD hlen hSt hBk hS hKo hf3) ?_
 rintro _ _ ⟨v2,Hr,HS2,Hk2,β2,rfl,h2,hSt2,hBk2,rfl⟩
 rw [show (Bl.at [(3,ys)] 3).getD z=ys from rfl] at h2
 have h21:=h2.isOne
 repeat' (first|(refine W.go ?_;try intro b_)|fail)
 refine W.call (bAbort_p hB2) ?_
 intro va HB3 hB3
 repeat' (first|(refine W.go ?_;try intro b_)|fail)
 refine W.call (bGet_p hB3 ok34 hx hD hlen hSt2 hBk2 hS hKo hf3) ?_
 rintro _ _ ⟨v3,Hr3,HS3,Hk3,β3,rfl,h3,hSt3,hBk3,rfl⟩
 rw [show (Bl.at [] 3).getD z=z from rfl,← hz] at h3
 rcases h3 with ⟨-,h0,-⟩|⟨q,ql,qc,qj,rfl,hql,hqj,hqc,rfl⟩
 ·have:=congrArg List.length h0
  rw [cbs_len,List.length_replicate] at this
  cases this
 rw [cbs_len,List.length_replicate,Nat.mul_one] at hql
 subst hql
 have hq0:(cbs (List.replicate 256 (0:UInt8))++qj)[0]?=some (.int .u8 0):=rfl
 generalize cbs (List.replicate 256 (0:UInt8))++qj=Q at *
 repeat' (first|(refine W.go ?_;try intro b_)|fail)
 refine W.cstS h2 ?_
 repeat' (first|(refine W.go ?_;try intro b_)|fail)
 refine W.cstS h1 ?_
 refine W.est ?_
 rw [strV_eq,decide_eq_true rfl]
 repeat' (first|(refine W.go ?_;try intro b_)|fail)
 refine W.call (bLen_p hB3) ?_
 rintro _ _ ⟨rfl,rfl⟩
 rw [show ((List.length ([]:Bl):Nat):Int)=0 from rfl]
 repeat' (first|(refine W.go ?_;try intro b_)|fail)
 refine Fin.to [] ?_
 exact F.f1 ⟨rfl,rfl⟩
theorem reads21_law(k:List UInt8)(hk:k.length=16)(a:Option Addr)(len cap:Nat)(ys:List Value)(hml0:len≤maxLen) :
  Tri Tryz.prog 5 [.agg (cbs k).toArray,.slice a len cap] [] (fun w=>OpbR w a len cap ys) (fun v H=>v=.bool true):=by
 refine Tri.mk Tryz.func5 rfl Tryz.ntmps5 rfl fun w hw=>?_
 obtain⟨hrd0,hops⟩:=hw
 obtain⟨a',len',cap',he,hyl,hcap,hrd⟩:=hrd0.get
 cases he
 have hml:maxLen=9223372036854775807:=by decide
 have hk0:(cbs k).length=16:=by rw [cbs_len];exact hk
 have hKo:=sched_ok k hk
 repeat' (first|(refine W.go ?_;try intro b_)|fail)
 refine W.call (begun21_p k hk (most:=4) (by decide)) ?_
 rintro _ _ ⟨pp,b,rb,rfl,i,sp,rv,σ,x,sr,β,Hd,Hs,Hk,HS,HB,hD,hS,hBk,hSt,hBt,hx,hst,hlen,hfr,rfl⟩
 generalize Aes.sched k=ws at *
 generalize hz:List.replicate 256 (0:UInt8)=z at *
 have hzl:z.length=256:=by rw [← hz,List.length_replicate]
 repeat' (first|(refine W.go ?_;try intro b_)|fail)
 refine W.call (acts_p hD) ?_
 rintro va _ ⟨Ha,rfl,hA⟩
 obtain⟨aa,la,ca,rfl,hla⟩:=hA.form
 repeat' (first|(refine W.gb ?_;try intro b_)|fail)
 refine SW.cutH [5,6,9,10] ((pp,cl (pairC i 3 4 (ptv sp) rv) 43)::(Hd++(Hs++(Hk++(HS++(HB++[(b_,cl [.slice none 0 0,.slice none 0 0,.slice none 0 0,.slice none 0 0,.slice none 0 0] 73)])))))) (fun _=>[]) (fun x:Bl×Hp×List Value×Hp=>(pp,cl (pairC i 3 4 (ptv sp) rv) 43)::(Hd++(Hs++(Hk++(HS++(x.2.1++((b_,cl x.2.2.1 73)::x.2.2.2))))))) (fun x=>BatP b sp 4 x.1 x.2.1∧LastP x.1 x.2.2.1 x.2.2.2) ?_ ?_
 ·repeat' (first|(refine W.go ?_;try intro b_)|fail)
  refine SW.loopF [5,6,9,10,37,38] (fun x:Nat×Bl×Hp×List Value×Hp=>[(39,.int .i64 x.1)]) (fun x=>(pp,cl (pairC i 3 4 (ptv sp) rv) 43)::(Hd++(Hs++(Hk++(HS++(x.2.2.1++((b_,cl x.2.2.2.1 73)::x.2.2.2.2))))))) (fun x=>len-x.1) (fun x=>x.1≤len∧BatP b sp 4 x.2.1 x.2.2.1∧LastP x.2.1 x.2.2.2.1 x.2.2.2.2) (0,[],HB,[.slice none 0 0,.slice none 0 0,.slice none 0 0,.slice none 0 0,.slice none 0 0],[]) ⟨Nat.zero_le _,hBt,LastP.new⟩ ?_
  rintro⟨ii,l,HB,vs,Hl⟩ ⟨hi,hBt,hL⟩
  dsimp only at hi hBt hL ⊢
  have hvl:=hL.1
  have hvo:=hL.one
  by_cases hil:ii<len
  ·obtain⟨o,ho,hor,hrow⟩:=hops ii hil
   obtain⟨blk0,ob,lr,T,fz,rfl,hb,hbk,hys⟩:=hrd (by omega)
   have hrow2:=(row_of hys hil).trans hrow
   have hol:(opb o).length=5:=rfl
   have hdv:=hor.isOne
   have hoc:OC (opb o):=by unfold opb;infer_instance
   by_cases c20:20≤ii
   ·repeat' (first|(refine W.go ?_;try intro b_)|fail)
    refine CutF.mk (l,HB,vs,Hl) ?_
    exact⟨hBt,hL⟩
   ·repeat' (first|(refine W.go ?_;try intro b_)|fail)
    refine W.call (Full_p o.dv o.d) ?_ (hpre:=fun w2 hs=>hor.ro (Hc:=[]) hs)
    rintro v1 H1 ⟨y,hy,h1⟩
    have h11:=h1.isOne
    repeat' (first|(refine W.go ?_;try intro b_)|fail)
    refine W.call (bPutS_p hSt hst hBt o.k v1 y hy) ?_ (hpre:=fun w2 hs=>Rd.own (Hc:=HB++HS) h1 hs inferInstance)
    rintro _ _ ⟨HB2,rfl,hB2,rfl⟩
    by_cases hno:l.no 4 o.k=0
    ·obtain⟨hk0',hk1'⟩:=no_in hno
     by_cases hk5:o.k<5
     ·obtain⟨j,hj⟩:∃ j:Nat,o.k=j:=⟨o.k.toNat,by omega⟩
      haveI:NatI o.k j:=⟨hj⟩
      have hL2:=(hj▸hL.put (v:=v1) (y:=y) (j:=j) (by rw [← hj];exact hno) (by omega) h1 hy:LastP (l.step 4 o.k y) (vs.set j v1) (H1++Hl))
      have hjv:j<vs.length:=by rw [hvl];omega
      rw [hno]
      repeat' (first|(refine W.go ?_;try intro b_)|fail)
      refine HandF.mk (ii+1,l.step 4 o.k y,HB2,vs.set j v1,H1++Hl) ?_
      exact⟨by dsimp only;omega,hB2,hL2⟩
     ·have hL2:=hL.keep (k:=o.k) (y:=y) (fun _=>by omega)
      rw [hno]
      repeat' (first|(refine W.go ?_;try intro b_)|fail)
      refine HandF.mk (ii+1,l.step 4 o.k y,HB2,vs,Hl) ?_
      exact⟨by dsimp only;omega,hB2,hL2⟩
    ·have hL2:=hL.keep (k:=o.k) (y:=y) (fun h=>absurd h hno)
     generalize l.no 4 o.k=e at *
     repeat' (first|(refine W.go ?_;try intro b_)|fail)
     refine HandF.mk (ii+1,l.step 4 o.k y,HB2,vs,Hl) ?_
     exact⟨by dsimp only;omega,hB2,hL2⟩
  ·have:ii=len:=by omega
   subst this
   repeat' (first|(refine W.go ?_;try intro b_)|fail)
   refine CutF.mk (l,HB,vs,Hl) ?_
   exact⟨hBt,hL⟩
 rintro⟨l,HB,vs,Hl⟩ ⟨hBt,hL⟩
 dsimp only at hBt hL ⊢
 have hvl:=hL.1
 have hvo:=hL.one
 repeat' (first|(refine W.go ?_;try intro b_)|fail)
 refine SW.loopF [5,6,9,66] (fun x:Nat×Hp×Hp×Bk=>[(67,.int .i64 x.1)]) (fun x=>(pp,cl (pairC i 3 4 (ptv sp) rv) 43)::(Hd++(Hs++(x.2.2.1++(x.2.1++(HB++Hl)))))) (fun x=>5-x.1) (fun x=>x.1≤5∧StoreP sp i.d i.tr i.s i.bk 3 4 _ x.2.1∧BookP i.bk i.tb x.2.2.2 x.2.2.1) (0,HS,Hk,β) ⟨by omega,hSt,hBk⟩ ?_
 rintro⟨j,HS,Hk,β⟩ ⟨hj,hSt,hBk⟩
 dsimp only at hj hSt hBk ⊢
 by_cases hj5:j<5
 ·obtain⟨v,hvj,hvn,hvs⟩:=hL.2 j hj5
  have hfj:=hfr j hj5
  have hv1:One v:=⟨hvo.ok v (List.mem_of_getElem? hvj)⟩
  repeat' (first|(refine W.go ?_;try intro b_)|fail)
  refine W.call (bGet_p hBt ok34 hx hD hlen hSt hBk hS hKo hfj) ?_
  rintro _ _ ⟨v1,Hr,HS2,Hk2,β2,rfl,h1,hSt2,hBk2,rfl⟩
  have h11:=h1.isOne
  have hR:=sRead_p ok34 hx hD hlen hSt2 hBk2 hS hKo (j:Int)
  rw [hfj] at hR
  dsimp only at hR
  repeat' (first|(refine W.go ?_;try intro b_)|fail)
  refine W.call hR ?_
  rintro _ _ ⟨v2,Hr2,HS3,Hk3,rfl,h2,hSt3,hBk3,rfl⟩
  have h21:=h2.isOne
  cases hq:l.at (j:Int) with
  | none=>
   obtain rfl:=hvn hq
   rw [hq] at h1
   simp only [Option.getD_none,Option.getD_some] at h1
   repeat' (first|(refine W.go ?_;try intro b_)|fail)
   refine W.cstS h1 ?_
   repeat' (first|(refine W.go ?_;try intro b_)|fail)
   refine W.cstS h2 ?_
   refine W.nst ?_
   rw [strV_eq,decide_eq_true (show z=z from rfl)]
   repeat' (first|(refine W.go ?_;try intro b_)|fail)
   refine HandF.mk (j+1,HS3,Hk3,rdK 3 (j:Int) σ x β2) ?_
   exact⟨by dsimp only;omega,hSt3,hBk3⟩
  | some d=>
   obtain⟨hvd,hdl⟩:=hvs d hq
   rw [hq] at h1
   simp only [Option.getD_some] at h1
   have hvd2:=hvd
   obtain⟨va',vl',vc',rfl,hvl',hvc',hcase⟩:=hvd2
   obtain⟨b',o',l',T',fz',rfl,-,-⟩:=hcase.resolve_left (by omega)
   repeat' (first|(refine W.go ?_;try intro b_)|fail)
   refine W.cstS h1 ?_
   repeat' (first|(refine W.go ?_;try intro b_)|fail)
   refine W.cst (fun w2 hs=>(hvd.rd (Hc:=[]) hs).srcW) ?_
   refine W.nst ?_
   rw [strV_eq,decide_eq_true (show d=d from rfl)]
   repeat' (first|(refine W.go ?_;try intro b_)|fail)
   refine HandF.mk (j+1,HS3,Hk3,rdK 3 (j:Int) σ x β2) ?_
   exact⟨by dsimp only;omega,hSt3,hBk3⟩
 ·have:j=5:=by omega
  subst this
  repeat' (first|(refine W.go ?_;try intro b_)|fail)
  refine W.call (acts_p hD) ?_
  rintro va2 _ ⟨Ha2,rfl,hA2⟩
  obtain⟨ab,lb,cb,rfl,hlb⟩:=hA2.form
  have hll:lb=la:=by omega
  subst hll
  repeat' (first|(refine W.go ?_;try intro b_)|fail)
  refine W.call awake21_p ?_
  rintro _ _ ⟨rfl,rfl⟩
  repeat' (first|(refine W.go ?_;try intro b_)|fail)
  refine Fin.to [] ?_
  exact F.f1 rfl
end Go.Proofs.YtnigolgkkjidiaaGreat
