/- Blocks that are hidden: the document's. -/
import Derived.Test.YtnigolgkkjidiaaGreatPr7
import Derived.Test.YtnigolgkkjidiaaGreatPr24
import Derived.Test.YtnigolgkkjidiaaGreatPr25
set_option linter.unusedVariables false
set_option linter.unusedSimpArgs false
set_option linter.unusedSectionVars false
set_option maxHeartbeats 8000000
namespace Go.Proofs.YtnigolgkkjidiaaGreat
open Go Go.Proofs.Tryz
section
attribute [local irreducible] SW SL SQ SH SA SS Pu Fin bZ aT
theorem Rd.srcW{P:Program}{K:List Nat}{w:World}{n:Nat}{a:Option Addr}{len cap:Nat}{ys:List Value}(h:Rd K w n (.slice a len cap) ys):eR P w (.slice a len cap) n len ys:=by
 have h2:Rd [] w n (.slice a len cap) ys:=by
  obtain⟨a',len',cap'',he,h2,h3,h4⟩:=h
  exact⟨a',len',cap'',he,h2,h3,h4.imp id fun⟨b,o,l,T,fz,e1,e2,e3,e4⟩=>⟨b,o,l,T,fz,e1,e2,by simp,e4⟩⟩
 exact h2.srcAt (St.start (Own.nil w))
abbrev O3:=UInt64×Int×Value
def yO(x:O3):List Value:=[.int .u64 (x.1.toNat:Int),.int .i64 x.2.1,x.2.2]
instance(a:UInt64)(b:Int)(v:Value) [One v]:OC (yO (a,b,v)):=by unfold yO;infer_instance
abbrev vC(l:List O3):List Value:=(l.map yO).flatten
theorem aHT(l:List O3):(vC l).length=l.length*3:=by
 rw [eD (n:=3) (fun x hx=>by obtain⟨y,-,rfl⟩:=bG.1 hx;rfl),aE]
theorem aDX(l:List O3):∀ x∈l.map yO,x.length=3:=fun x hx=>by obtain⟨y,-,rfl⟩:=bG.1 hx;rfl
def rB(rs rc n:Nat)(ws:List (List UInt8))(N:Nat)(H:Hp):Prop:=
 ∃ lv tw te tb tp L Hc HL Ht,H=(rs,cl [ptv rc,lv,.bool tw,.int .u64 te,.int .i64 tb,tp] 135)::(Hc++(HL++Ht))∧aEo rc n ws Hc∧Sl 133 3 lv (vC L) HL∧L.length≤N∧One tp∧∀ x∈L,∃ bs,RdH Ht x.2.2 bs
theorem aGs{rs rc n:Nat}{ws:List (List UInt8)}{N:Nat}{H:Hp}(hS:rB rs rc n ws N H)(hK:pG n ws)(e:UInt64)(k:Nat)(hk:k<65536)(v:Value)(x:List UInt8)(hx:x.length≤65536) :
  Tri prog 243 [ptv rs,eK e,.int .i64 (k:Int),v] H (fun w=>Rd (H.map Prod.fst) w 1 v (cbs x))
  (fun r H'=>∃ Hr,Sl 5 1 r (cbs (eC (Rg.enc ws n) e k x)) Hr∧H'=Hr++H):=by
 obtain⟨lv,tw,te,tb,tp,L,Hc,HL,Ht,rfl,hC,hL,hN,htp,hall⟩:=hS
 refine Tri.mk func243 rfl ntmps243 rfl fun w hw=>?_
 obtain⟨a,la,ca,rfl,hl1,hc1,hr1⟩:=hw.get
 have hY:One (Value.slice a la ca):=⟨rfl⟩
 have hL1:=hL.isOne
 haveI ik:Cv .u32 (k:Int) (k:Int):=⟨by rw [sQ];omega⟩
 refine W.k ?_
 refine aL (aJT hC hK.four hK.max hK.pos hK.all e k om (.slice a la ca) x hx) ?_ (hpre:=fun w2 hs=>hw.ro (Hc:=Hc) hs)
 rintro r _ ⟨Hr,hr,rfl⟩
 have hr1:=hr.isOne
 refine W.k ?_
 refine Fin.to (Hr++((rs,cl [ptv rc,lv,.bool tw,.int .u64 te,.int .i64 tb,tp] 135)::(Hc++(HL++Ht)))) ?_
 exact F.f1 ⟨Hr,hr,rfl⟩
theorem aLB{rs rc n:Nat}{ws:List (List UInt8)}{N:Nat}{H:Hp}(hS:rB rs rc n ws N H)(hK:pG n ws)(hN:N≤1000000000)(e:UInt64)(k:Nat)(hk:k<65536)(v:Value)(x:List UInt8)(hx:x.length≤65536) :
  Tri prog 199 [ptv rs,eK e,.int .i64 (k:Int),v] H (fun w=>Rd (H.map Prod.fst) w 1 v (cbs x))
  (fun r H'=>∃ Hr H2,Sl 5 1 r (cbs (eC (Rg.enc ws n) e k x)) Hr∧H'=Hr++H2∧rB rs rc n ws (N+1) H2):=by
 obtain⟨lv,tw,te,tb,tp,L,Hc,HL,Ht,rfl,hC,hL,hLN,htp,hall⟩:=hS
 refine Tri.mk func199 rfl ntmps199 rfl fun w hw=>?_
 obtain⟨a,la,ca,rfl,hl1',hc1,hr1⟩:=hw.get
 have hY:One (Value.slice a la ca):=⟨rfl⟩
 have hL1:=hL.isOne
 have hLl:=aHT L
 have hoc:OC (vC L):=⟨fun u hu=>by
  obtain⟨c,hc,huc⟩:=List.mem_flatten.1 hu
  obtain⟨⟨y1,y2,y3⟩,hy,rfl⟩:=bG.1 hc
  obtain⟨bs,hb⟩:=hall _ hy
  haveI:One y3:=hb.one
  exact (inferInstance:OC (yO (y1,y2,y3))).ok u huc⟩
 obtain⟨al,ll,cL,rfl,hll⟩:=hL.form
 rw [hLl] at hll
 have hll2:L.length=ll:=om
 subst hll2
 refine W.j ?_
 refine SW.cut [0,1,2,3] [rs] (fun y:Nat×Bool×Bool×Int×Int×Value=>[(9,.int .i64 (y.1:Int)),(10,.bool y.2.1)]) (fun y=>[(rs,cl [ptv rc,.slice al L.length cL,.bool y.2.2.1,.int .u64 y.2.2.2.1,.int .i64 y.2.2.2.2.1,y.2.2.2.2.2] 135)]) (fun y=>y.1≤L.length∧One y.2.2.2.2.2) ?_ ?_
 ·refine W.k ?_
  refine bV [0,1,2,3,17,18] [rs] (fun y:Nat×Nat×Bool×Bool×Int×Int×Value=>[(19,.int .i64 (y.1:Int)),(9,.int .i64 (y.2.1:Int)),(10,.bool y.2.2.1)]) (fun y=>[(rs,cl [ptv rc,.slice al L.length cL,.bool y.2.2.2.1,.int .u64 y.2.2.2.2.1,.int .i64 y.2.2.2.2.2.1,y.2.2.2.2.2.2] 135)]) (fun y=>L.length-y.1) (fun y=>y.1≤L.length∧y.2.1≤y.1∧One y.2.2.2.2.2.2) (0,0,false,tw,te,tb,tp) ⟨Nat.zero_le _,Nat.zero_le _,htp⟩ ?_
  rintro⟨i,at_,th,tw,te,tb,tp⟩ ⟨hi,hat,htp⟩
  dsimp only at hi hat htp ⊢
  by_cases h:i<L.length
  ·rcases hL with ⟨hz,-,-⟩|⟨bl,len,cap,junk,hz,hxl,hj,hlc,rfl⟩
   ·simp only [Value.slice.injEq] at hz;omega
   simp only [Value.slice.injEq] at hz
   obtain⟨rfl,rfl,rfl⟩:=hz
   obtain⟨y,hy⟩:∃ y,L[i]?=some y:=⟨_,aA h⟩
   obtain⟨bs,hbs⟩:=hall y (aP hy)
   have hld:((vC L++junk).drop (i*3)).take 3=yO y:=by
    rw [bW (by rw [hLl];omega),aQ (by rw [aK,hLl];omega)]
    exact nB (aDX L) (by rw [aH,hy];rfl)
   obtain⟨ye,yk,yv⟩:=y
   have hbs0:=hbs
   have hyv:=hbs.one
   obtain⟨ya,yl,yc,rfl,-⟩:=hbs0
   have hol:(yO (ye,yk,.slice ya yl yc)).length=3:=rfl
   by_cases c1:ye.toNat<e.toNat
   ·refine W.k fun b_=>?_
    refine aT.mk (i+1,at_+1,th,tw,te,tb,tp) ?_
    exact⟨h,by show at_+1≤i+1;omega,htp⟩
   ·by_cases c2:e.toNat<ye.toNat
    ·refine W.k fun b_=>?_
     refine aT.mk (i+1,at_,th,tw,te,tb,tp) ?_
     exact⟨h,by show at_≤i+1;omega,htp⟩
    ·by_cases c3:yk<k
     ·refine W.k fun b_=>?_
      refine aT.mk (i+1,at_+1,th,tw,te,tb,tp) ?_
      exact⟨h,by show at_+1≤i+1;omega,htp⟩
     ·by_cases c4:yk=k
      ·refine W.k fun b_=>?_
       refine aGz (fun w2 hs=>(hbs.rd (Hc:=[]) hs).srcW) ?_
       refine W.k ?_
       refine aGz (fun w2 hs=>hw.srcAt hs) ?_
       refine aOo ?_
       rw [aBo]
       by_cases hxy:bs=x
       ·rw [decide_eq_true hxy]
        refine W.k ?_
        refine aT.mk (i+1,at_,true,tw,te,tb,tp) ?_
        exact⟨h,by show at_≤i+1;omega,htp⟩
       ·rw [decide_eq_false hxy]
        cases tw with
        | true=>
         refine W.k ?_
         refine aT.mk (i+1,at_,true,true,te,tb,tp) ?_
         exact⟨h,by show at_≤i+1;omega,htp⟩
        | false=>
         have hb70:bQ (fun i=>[(0,1),(1,1),(2,1)][i]?) [.int .u64 0,.int .i64 0,.slice none 0 0] [(0,eK e),(1,.int .i64 (k:Int))]=some [eK e,.int .i64 (k:Int),.slice none 0 0]:=rfl
         refine W.k ?_
         rw [show List.take 3 (([ptv rc,.slice (some ⟨bl,0,none⟩) L.length cL,.bool false,.int .u64 te,.int .i64 tb,tp]:List Value).set 2 (.bool true))++[eK e,.int .i64 (k:Int),.slice none 0 0]++List.drop (3+3) (([ptv rc,.slice (some ⟨bl,0,none⟩) L.length cL,.bool false,.int .u64 te,.int .i64 tb,tp]:List Value).set 2 (.bool true))=[ptv rc,.slice (some ⟨bl,0,none⟩) L.length cL,.bool true,.int .u64 (e.toNat:Int),.int .i64 (k:Int),.slice none 0 0] from rfl]
         refine aT.mk (i+1,at_,true,true,(e.toNat:Int),(k:Int),.slice none 0 0) ?_
         exact⟨h,by show at_≤i+1;omega,⟨rfl⟩⟩
      ·refine W.k fun b_=>?_
       refine aT.mk (i+1,at_,th,tw,te,tb,tp) ?_
       exact⟨h,by show at_≤i+1;omega,htp⟩
  ·have:i=L.length:=om
   subst this
   refine W.k ?_
   refine bZ.mk (at_,th,tw,te,tb,tp) ?_
   exact⟨hat,htp⟩
 rintro⟨at_,th,tw,te,tb,tp⟩ ⟨hat,htp⟩
 dsimp only at hat htp ⊢
 cases th with
 | true=>
  refine W.k ?_
  refine aL (aGs (N:=N+1) ⟨.slice al L.length cL,tw,te,tb,tp,L,Hc,HL,Ht,rfl,hC,hL,by omega,htp,hall⟩ hK e k hk (.slice a la ca) x hx) ?_ (hpre:=fun w2 hs=>hw.ro (Hc:=(rs,cl [ptv rc,.slice al L.length cL,.bool tw,.int .u64 te,.int .i64 tb,tp] 135)::(Hc++(HL++Ht))) hs)
  rintro r _ ⟨Hr,hr,rfl⟩
  have hr1:=hr.isOne
  refine W.k ?_
  refine Fin.to (Hr++((rs,cl [ptv rc,.slice al L.length cL,.bool tw,.int .u64 te,.int .i64 tb,tp] 135)::(Hc++(HL++Ht)))) ?_
  exact F.f1 ⟨Hr,_,hr,rfl,.slice al L.length cL,tw,te,tb,tp,L,Hc,HL,Ht,rfl,hC,hL,by omega,htp,hall⟩
 | false=>
  have hLc:L.length≤cL:=by
   rcases hL with ⟨hz,-,-⟩|⟨bl,len,cap,junk,hz,hxl,hj,hlc,rfl⟩
   ·simp only [Value.slice.injEq] at hz;omega
   ·simp only [Value.slice.injEq] at hz;omega
  refine W.k fun b_=>?_
  refine W.sT ?_
  have h0:Sl 133 3 (.slice (some ⟨b_,0,none⟩) 0 0) [] [(b_,cl ([]:List Value) 133)]:=Sl.mk (xs:=[]) (junk:=[]) (len:=0) (cap:=0) rfl rfl (Nat.le_refl _)
  have hl1:((vC L).take (at_*3)).length=at_*3:=by rw [aD,hLl];omega
  refine W.ap h0 (ys:=(vC L).take (at_*3)) (mm:=at_) (fun w2 hs=>by
   have:=((Rd.own (Hc:=[]) hL hs inferInstance).cutN cL 0 at_ cL (Nat.zero_le _) hat om om).srcW (P:=prog)
   simpa using this) (fun v1 H1 h1=>?_) (hys:=hl1) (hbytes:=by rw [hl1];simp;omega)
  rw [List.nil_append] at h1
  have h11:=h1.isOne
  have hbx:bQ (fun i=>some (i*1,1)) (zs [.int .u8 0] 0) []=some ([]:List Value):=rfl
  have hla:la=x.length:=by rw [aI] at hl1';omega
  refine W.k fun b_=>?_
  have h00:Sl 5 1 (.slice (some ⟨b_,0,none⟩) 0 0) [] [(b_,cl ([]:List Value) 5)]:=Sl.mk (xs:=[]) (junk:=[]) (len:=0) (cap:=0) rfl rfl (Nat.le_refl _)
  refine W.ap h00 (ys:=cbs x) (mm:=la) (fun w2 hs=>hw.srcAt hs) (fun v2 H2 h2=>?_) (hys:=by rw [hl1']) (hbytes:=by rw [aI];simp;omega)
  rw [List.nil_append] at h2
  have h21:=h2.isOne
  obtain⟨a2,l2,c2,rfl,-⟩:=h2.form
  have hb90:bQ (fun i=>[(0,1),(1,1),(2,1)][i]?) [.int .u64 0,.int .i64 0,.slice none 0 0] [(0,eK e),(1,.int .i64 (k:Int)),(2,.slice a2 l2 c2)]=some (yO (e,(k:Int),.slice a2 l2 c2)):=rfl
  have hb91:bQ (fun i=>some (i*3,3)) (zs [.int .u64 0,.int .i64 0,.slice none 0 0] 1) [(0,.agg (yO (e,(k:Int),.slice a2 l2 c2)).toArray)]=some (yO (e,(k:Int),.slice a2 l2 c2)):=rfl
  refine W.k fun b_=>?_
  refine W.ap h1 (ys:=yO (e,(k:Int),.slice a2 l2 c2)) (mm:=1) (fun w2 hs=>(Sl.own 133 3 b_ (xs:=yO (e,(k:Int),.slice a2 l2 c2)) rfl).srcAt hs inferInstance) (fun v3 H3 h3=>?_) (hys:=rfl) (hbytes:=by rw [hl1];simp only [yO,aW,dA];omega)
  have h31:=h3.isOne
  refine W.k ?_
  refine W.sF ?_
  have hl2:((vC L).drop (at_*3)).length=(L.length-at_)*3:=by rw [aK,hLl,← Nat.sub_mul]
  refine W.ap h3 (ys:=(vC L).drop (at_*3)) (mm:=L.length-at_) (fun w2 hs=>by
   have:=((Rd.own (Hc:=[]) hL hs inferInstance).cutN cL at_ L.length (cL-at_) hat (Nat.le_refl _) om om).srcW (P:=prog)
   rwa [aB (by rw [hl2];exact Nat.le_refl _)] at this) (fun v4 H4 h4=>?_) (hys:=hl2) (hbytes:=by rw [hl2,aC,hl1];simp only [yO,aW,dA];omega)
  have h41:=h4.isOne
  have hLn:(vC L).take (at_*3)++yO (e,(k:Int),.slice a2 l2 c2)++(vC L).drop (at_*3)=vC (L.take at_++[(e,(k:Int),.slice a2 l2 c2)]++L.drop at_):=by
   rw [yI (aDX L),uG (aDX L)]
   unfold vC
   simp [jR,jQ]
  rw [hLn] at h4
  have hall2:∀ z∈L.take at_++[(e,(k:Int),.slice a2 l2 c2)]++L.drop at_,∃ bs,RdH (H2++Ht) z.2.2 bs:=fun z hz=>by
   rcases cK.1 hz with hz|hz
   ·rcases cK.1 hz with hz|hz
    ·obtain⟨bs,hb⟩:=hall z (cX hz)
     exact⟨bs,hb.mono fun y hy=>aV _ hy⟩
    ·rw [dP] at hz
     subst hz
     exact⟨x,(RdH.of h2).mono fun y hy=>bA _ hy⟩
   ·obtain⟨bs,hb⟩:=hall z (fB hz)
    exact⟨bs,hb.mono fun y hy=>aV _ hy⟩
  have hlen2:(L.take at_++[(e,(k:Int),(Value.slice a2 l2 c2))]++L.drop at_).length≤N+1:=by simp;omega
  refine W.k ?_
  rw [show ([ptv rc,.slice al L.length cL,.bool tw,.int .u64 te,.int .i64 tb,tp]:List Value).set 1 v4=[ptv rc,v4,.bool tw,.int .u64 te,.int .i64 tb,tp] from rfl]
  refine aL (aGs (N:=N+1) ⟨v4,tw,te,tb,tp,_,Hc,H4,H2++Ht,rfl,hC,h4,hlen2,htp,hall2⟩ hK e k hk (.slice a la ca) x hx) ?_ (hpre:=fun w2 hs=>hw.ro (Hc:=(rs,cl [ptv rc,v4,.bool tw,.int .u64 te,.int .i64 tb,tp] 135)::(Hc++(H4++(H2++Ht)))) hs)
  rintro r _ ⟨Hr,hr,rfl⟩
  have hr1:=hr.isOne
  refine W.k ?_
  refine Fin.to (Hr++((rs,cl [ptv rc,v4,.bool tw,.int .u64 te,.int .i64 tb,tp] 135)::(Hc++(H4++(H2++Ht))))) ?_
  exact F.f1 ⟨Hr,_,hr,rfl,v4,tw,te,tb,tp,_,Hc,H4,H2++Ht,rfl,hC,h4,hlen2,htp,hall2⟩
end
end Go.Proofs.YtnigolgkkjidiaaGreat
