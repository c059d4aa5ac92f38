/- Blocks that are hidden: the document's. -/
import Derived.Test.YtnigolgkkjidiaaGreatPm23
import Derived.Test.YtnigolgkkjidiaaGreatPm24
set_option linter.unusedVariables false
set_option linter.unusedSimpArgs false
set_option linter.unusedSectionVars false
set_option maxHeartbeats 8000000
namespace Go.Proofs.YtnigolgkkjidiaaGreat
open Go
attribute [local irreducible] SW SL SQ SH SA SS Pu Fin CutF HandF
theorem Rd.cutN{K:List Nat}{w:World}{n:Nat}{a:Option Addr}{len cap:Nat}{ys:List Value}(h:Rd K w n (.slice a len cap) ys)(c l q cap':Nat)(hl:l≤q)(hq:q≤len)(hc:q-l≤cap')(hcl:c=l→q=l) :
  Rd K w n (.slice (sadr a c l n) (q-l) cap') ((ys.drop (l*n)).take ((q-l)*n)):=by
 obtain⟨a',len',cap'',he,h2,h3,h4⟩:=h
 cases he
 have hm1:(q-l)*n+l*n=q*n:=by rw [← Nat.add_mul];congr 1;omega
 have hm2:q*n≤len*n:=Nat.mul_le_mul_right n hq
 refine⟨_,_,_,rfl,by rw [List.length_take,List.length_drop];omega,hc,?_⟩
 by_cases h0:q-l=0
 ·exact .inl h0
 ·rcases h4 with h4|⟨b,o,cs,T,fz,rfl,hm,hk,hy⟩
  ·omega
  ·refine .inr ⟨b,o+l*n,cs,T,fz,?_,hm,hk,?_⟩
   ·unfold sadr
    rw [if_neg (fun e=>h0 (by rw [hcl e];omega))]
    simp [Addr.add]
   ·have e:(cs.drop (o+l*n)).take ((q-l)*n)=(((cs.drop o).take (len*n)).drop (l*n)).take ((q-l)*n):=by
     rw [List.drop_take,List.take_take,List.drop_drop,Nat.min_eq_left (by omega)]
    rw [e,hy]
theorem Rd.srcW{P:Program}{K:List Nat}{w:World}{n:Nat}{a:Option Addr}{len cap:Nat}{ys:List Value}(h:Rd K w n (.slice a len cap) ys):SrcOf P w (.slice a len cap) n len ys:=by
 have h2:Rd [] w n (.slice a len cap) ys:=by
  obtain⟨a',len',cap'',he,h2,h3,h4⟩:=h
  exact⟨a',len',cap'',he,h2,h3,h4.imp id fun⟨b,o,l,T,fz,e1,e2,e3,e4⟩=>⟨b,o,l,T,fz,e1,e2,by simp,e4⟩⟩
 exact h2.srcAt (St.start (Own.nil w))
abbrev O3:=UInt64×Int×Value
def oneC(x:O3):List Value:=[.int .u64 (x.1.toNat:Int),.int .i64 x.2.1,x.2.2]
instance(a:UInt64)(b:Int)(v:Value) [One v]:OC (oneC (a,b,v)):=by unfold oneC;infer_instance
abbrev onesC(l:List O3):List Value:=(l.map oneC).flatten
theorem onesC_len(l:List O3):(onesC l).length=l.length*3:=by
 rw [flatN_len (n:=3) (fun x hx=>by obtain⟨y,-,rfl⟩:=List.mem_map.1 hx;rfl),List.length_map]
theorem ones_ok(l:List O3):∀ x∈l.map oneC,x.length=3:=fun x hx=>by obtain⟨y,-,rfl⟩:=List.mem_map.1 hx;rfl
def RSealP(rs rc n:Nat)(ws:List (List UInt8))(N:Nat)(H:Hp):Prop:=
 ∃ lv tw te tb tp L Hc HL Ht,H=(rs,cl [ptv rc,lv,.bool tw,.int .u64 te,.int .i64 tb,tp] 135)::(Hc++(HL++Ht))∧RCipP rc n ws Hc∧Sl 133 3 lv (onesC L) HL∧L.length≤N∧One tp∧∀ x∈L,∃ bs,RdH Ht x.2.2 bs
theorem Plain_p{rs rc n:Nat}{ws:List (List UInt8)}{N:Nat}{H:Hp}(hS:RSealP rs rc n ws N H)(hK:KeyOk n ws)(e:UInt64)(k:Nat)(hk:k<65536)(v:Value)(x:List UInt8)(hx:x.length≤65536) :
  Tri Tryz.prog 243 [ptv rs,u64v e,.int .i64 (k:Int),v] H (fun w=>Rd (H.map Prod.fst) w 1 v (cbs x))
  (fun r H'=>∃ Hr,Sl 5 1 r (cbs (ctrX (Rg.enc ws n) e k x)) Hr∧H'=Hr++H):=by
 obtain⟨lv,tw,te,tb,tp,L,Hc,HL,Ht,rfl,hC,hL,hN,htp,hall⟩:=hS
 refine Tri.mk Tryz.func243 rfl Tryz.ntmps243 rfl fun w hw=>?_
 obtain⟨a,la,ca,rfl,hl1,hc1,hr1⟩:=hw.get
 have hY:One (Value.slice a la ca):=⟨rfl⟩
 have hL1:=hL.isOne
 haveI ik:Cv .u32 (k:Int) (k:Int):=⟨by rw [wrap32];omega⟩
 repeat' (first|(refine W.go ?_;try intro b_)|fail)
 refine W.call (rApply_p hC hK.four hK.max hK.pos hK.all e k (by omega) (.slice a la ca) x hx) ?_ (hpre:=fun w2 hs=>hw.ro (Hc:=Hc) hs)
 rintro r _ ⟨Hr,hr,rfl⟩
 have hr1:=hr.isOne
 repeat' (first|(refine W.go ?_;try intro b_)|fail)
 refine Fin.to (Hr++((rs,cl [ptv rc,lv,.bool tw,.int .u64 te,.int .i64 tb,tp] 135)::(Hc++(HL++Ht)))) ?_
 exact F.f1 ⟨Hr,hr,rfl⟩
theorem rSeal_p{rs rc n:Nat}{ws:List (List UInt8)}{N:Nat}{H:Hp}(hS:RSealP rs rc n ws N H)(hK:KeyOk n ws)(hN:N≤1000000000)(e:UInt64)(k:Nat)(hk:k<65536)(v:Value)(x:List UInt8)(hx:x.length≤65536) :
  Tri Tryz.prog 199 [ptv rs,u64v e,.int .i64 (k:Int),v] H (fun w=>Rd (H.map Prod.fst) w 1 v (cbs x))
  (fun r H'=>∃ Hr H2,Sl 5 1 r (cbs (ctrX (Rg.enc ws n) e k x)) Hr∧H'=Hr++H2∧RSealP rs rc n ws (N+1) H2):=by
 obtain⟨lv,tw,te,tb,tp,L,Hc,HL,Ht,rfl,hC,hL,hLN,htp,hall⟩:=hS
 refine Tri.mk Tryz.func199 rfl Tryz.ntmps199 rfl fun w hw=>?_
 obtain⟨a,la,ca,rfl,hl1',hc1,hr1⟩:=hw.get
 have hY:One (Value.slice a la ca):=⟨rfl⟩
 have hL1:=hL.isOne
 have hLl:=onesC_len L
 have hoc:OC (onesC L):=⟨fun u hu=>by
  obtain⟨c,hc,huc⟩:=List.mem_flatten.1 hu
  obtain⟨⟨y1,y2,y3⟩,hy,rfl⟩:=List.mem_map.1 hc
  obtain⟨bs,hb⟩:=hall _ hy
  haveI:One y3:=hb.one
  exact (inferInstance:OC (oneC (y1,y2,y3))).ok u huc⟩
 obtain⟨al,ll,cL,rfl,hll⟩:=hL.form
 rw [hLl] at hll
 have hll2:L.length=ll:=by omega
 subst hll2
 repeat' (first|(refine W.gb ?_;try intro b_)|fail)
 refine SW.cut [0,1,2,3] [rs] (fun y:Nat×Bool×Bool×Int×Int×Value=>[(9,.int .i64 (y.1:Int)),(10,.bool y.2.1)]) (fun y=>[(rs,cl [ptv rc,.slice al L.length cL,.bool y.2.2.1,.int .u64 y.2.2.2.1,.int .i64 y.2.2.2.2.1,y.2.2.2.2.2] 135)]) (fun y=>y.1≤L.length∧One y.2.2.2.2.2) ?_ ?_
 ·repeat' (first|(refine W.go ?_;try intro b_)|fail)
  refine SW.loopG [0,1,2,3,17,18] [rs] (fun y:Nat×Nat×Bool×Bool×Int×Int×Value=>[(19,.int .i64 (y.1:Int)),(9,.int .i64 (y.2.1:Int)),(10,.bool y.2.2.1)]) (fun y=>[(rs,cl [ptv rc,.slice al L.length cL,.bool y.2.2.2.1,.int .u64 y.2.2.2.2.1,.int .i64 y.2.2.2.2.2.1,y.2.2.2.2.2.2] 135)]) (fun y=>L.length-y.1) (fun y=>y.1≤L.length∧y.2.1≤y.1∧One y.2.2.2.2.2.2) (0,0,false,tw,te,tb,tp) ⟨Nat.zero_le _,Nat.zero_le _,htp⟩ ?_
  rintro⟨i,at_,th,tw,te,tb,tp⟩ ⟨hi,hat,htp⟩
  dsimp only at hi hat htp ⊢
  by_cases h:i<L.length
  ·rcases hL with ⟨hz,-,-⟩|⟨bl,len,cap,junk,hz,hxl,hj,hlc,rfl⟩
   ·simp only [Value.slice.injEq] at hz;omega
   simp only [Value.slice.injEq] at hz
   obtain⟨rfl,rfl,rfl⟩:=hz
   obtain⟨y,hy⟩:∃ y,L[i]?=some y:=⟨_,List.getElem?_eq_getElem h⟩
   obtain⟨bs,hbs⟩:=hall y (List.mem_of_getElem? hy)
   have hld:((onesC L++junk).drop (i*3)).take 3=oneC y:=by
    rw [List.drop_append_of_le_length (by rw [hLl];omega),List.take_append_of_le_length (by rw [List.length_drop,hLl];omega)]
    exact flatN_get (ones_ok L) (by rw [List.getElem?_map,hy];rfl)
   obtain⟨ye,yk,yv⟩:=y
   have hbs0:=hbs
   have hyv:=hbs.one
   obtain⟨ya,yl,yc,rfl,-⟩:=hbs0
   have hol:(oneC (ye,yk,.slice ya yl yc)).length=3:=rfl
   by_cases c1:ye.toNat<e.toNat
   ·repeat' (first|(refine W.go ?_;try intro b_)|fail)
    refine HandF.mk (i+1,at_+1,th,tw,te,tb,tp) ?_
    exact⟨h,by show at_+1≤i+1;omega,htp⟩
   ·by_cases c2:e.toNat<ye.toNat
    ·repeat' (first|(refine W.go ?_;try intro b_)|fail)
     refine HandF.mk (i+1,at_,th,tw,te,tb,tp) ?_
     exact⟨h,by show at_≤i+1;omega,htp⟩
    ·by_cases c3:yk<k
     ·repeat' (first|(refine W.go ?_;try intro b_)|fail)
      refine HandF.mk (i+1,at_+1,th,tw,te,tb,tp) ?_
      exact⟨h,by show at_+1≤i+1;omega,htp⟩
     ·by_cases c4:yk=k
      ·repeat' (first|(refine W.go ?_;try intro b_)|fail)
       refine W.cst (fun w2 hs=>(hbs.rd (Hc:=[]) hs).srcW) ?_
       repeat' (first|(refine W.go ?_;try intro b_)|fail)
       refine W.cst (fun w2 hs=>hw.srcAt hs) ?_
       refine W.nst ?_
       rw [strV_eq]
       by_cases hxy:bs=x
       ·rw [decide_eq_true hxy]
        repeat' (first|(refine W.go ?_;try intro b_)|fail)
        refine HandF.mk (i+1,at_,true,tw,te,tb,tp) ?_
        exact⟨h,by show at_≤i+1;omega,htp⟩
       ·rw [decide_eq_false hxy]
        cases tw with
        | true=>
         repeat' (first|(refine W.go ?_;try intro b_)|fail)
         refine HandF.mk (i+1,at_,true,true,te,tb,tp) ?_
         exact⟨h,by show at_≤i+1;omega,htp⟩
        | false=>
         have hb70:bfill (fun i=>[(0,1),(1,1),(2,1)][i]?) [.int .u64 0,.int .i64 0,.slice none 0 0] [(0,u64v e),(1,.int .i64 (k:Int))]=some [u64v e,.int .i64 (k:Int),.slice none 0 0]:=rfl
         repeat' (first|(refine W.go ?_;try intro b_)|fail)
         rw [show List.take 3 (([ptv rc,.slice (some ⟨bl,0,none⟩) L.length cL,.bool false,.int .u64 te,.int .i64 tb,tp]:List Value).set 2 (.bool true))++[u64v e,.int .i64 (k:Int),.slice none 0 0]++List.drop (3+3) (([ptv rc,.slice (some ⟨bl,0,none⟩) L.length cL,.bool false,.int .u64 te,.int .i64 tb,tp]:List Value).set 2 (.bool true))=[ptv rc,.slice (some ⟨bl,0,none⟩) L.length cL,.bool true,.int .u64 (e.toNat:Int),.int .i64 (k:Int),.slice none 0 0] from rfl]
         refine HandF.mk (i+1,at_,true,true,(e.toNat:Int),(k:Int),.slice none 0 0) ?_
         exact⟨h,by show at_≤i+1;omega,⟨rfl⟩⟩
      ·repeat' (first|(refine W.go ?_;try intro b_)|fail)
       refine HandF.mk (i+1,at_,th,tw,te,tb,tp) ?_
       exact⟨h,by show at_≤i+1;omega,htp⟩
  ·have:i=L.length:=by omega
   subst this
   repeat' (first|(refine W.go ?_;try intro b_)|fail)
   refine CutF.mk (at_,th,tw,te,tb,tp) ?_
   exact⟨hat,htp⟩
 rintro⟨at_,th,tw,te,tb,tp⟩ ⟨hat,htp⟩
 dsimp only at hat htp ⊢
 cases th with
 | true=>
  repeat' (first|(refine W.go ?_;try intro b_)|fail)
  refine W.call (Plain_p (N:=N+1) ⟨.slice al L.length cL,tw,te,tb,tp,L,Hc,HL,Ht,rfl,hC,hL,by omega,htp,hall⟩ hK e k hk (.slice a la ca) x hx) ?_ (hpre:=fun w2 hs=>hw.ro (Hc:=(rs,cl [ptv rc,.slice al L.length cL,.bool tw,.int .u64 te,.int .i64 tb,tp] 135)::(Hc++(HL++Ht))) hs)
  rintro r _ ⟨Hr,hr,rfl⟩
  have hr1:=hr.isOne
  repeat' (first|(refine W.go ?_;try intro b_)|fail)
  refine Fin.to (Hr++((rs,cl [ptv rc,.slice al L.length cL,.bool tw,.int .u64 te,.int .i64 tb,tp] 135)::(Hc++(HL++Ht)))) ?_
  exact F.f1 ⟨Hr,_,hr,rfl,.slice al L.length cL,tw,te,tb,tp,L,Hc,HL,Ht,rfl,hC,hL,by omega,htp,hall⟩
 | false=>
  have hLc:L.length≤cL:=by
   rcases hL with ⟨hz,-,-⟩|⟨bl,len,cap,junk,hz,hxl,hj,hlc,rfl⟩
   ·simp only [Value.slice.injEq] at hz;omega
   ·simp only [Value.slice.injEq] at hz;omega
  repeat' (first|(refine W.go ?_;try intro b_)|fail)
  refine W.sT ?_
  have h0:Sl 133 3 (.slice (some ⟨b_,0,none⟩) 0 0) [] [(b_,cl ([]:List Value) 133)]:=Sl.mk (xs:=[]) (junk:=[]) (len:=0) (cap:=0) rfl rfl (Nat.le_refl _)
  have hl1:((onesC L).take (at_*3)).length=at_*3:=by rw [List.length_take,hLl];omega
  refine W.ap h0 (ys:=(onesC L).take (at_*3)) (mm:=at_) (fun w2 hs=>by
   have:=((Rd.own (Hc:=[]) hL hs inferInstance).cutN cL 0 at_ cL (Nat.zero_le _) hat (by omega) (by omega)).srcW (P:=Tryz.prog)
   simpa using this) (fun v1 H1 h1=>?_) (hys:=hl1) (hbytes:=by rw [hl1];simp;omega)
  rw [List.nil_append] at h1
  have h11:=h1.isOne
  have hbx:bfill (fun i=>some (i*1,1)) (zs [.int .u8 0] 0) []=some ([]:List Value):=rfl
  have hla:la=x.length:=by rw [cbs_len] at hl1';omega
  repeat' (first|(refine W.go ?_;try intro b_)|fail)
  have h00:Sl 5 1 (.slice (some ⟨b_,0,none⟩) 0 0) [] [(b_,cl ([]:List Value) 5)]:=Sl.mk (xs:=[]) (junk:=[]) (len:=0) (cap:=0) rfl rfl (Nat.le_refl _)
  refine W.ap h00 (ys:=cbs x) (mm:=la) (fun w2 hs=>hw.srcAt hs) (fun v2 H2 h2=>?_) (hys:=by rw [hl1']) (hbytes:=by rw [cbs_len];simp;omega)
  rw [List.nil_append] at h2
  have h21:=h2.isOne
  obtain⟨a2,l2,c2,rfl,-⟩:=h2.form
  have hb90:bfill (fun i=>[(0,1),(1,1),(2,1)][i]?) [.int .u64 0,.int .i64 0,.slice none 0 0] [(0,u64v e),(1,.int .i64 (k:Int)),(2,.slice a2 l2 c2)]=some (oneC (e,(k:Int),.slice a2 l2 c2)):=rfl
  have hb91:bfill (fun i=>some (i*3,3)) (zs [.int .u64 0,.int .i64 0,.slice none 0 0] 1) [(0,.agg (oneC (e,(k:Int),.slice a2 l2 c2)).toArray)]=some (oneC (e,(k:Int),.slice a2 l2 c2)):=rfl
  repeat' (first|(refine W.go ?_;try intro b_)|fail)
  refine W.ap h1 (ys:=oneC (e,(k:Int),.slice a2 l2 c2)) (mm:=1) (fun w2 hs=>(Sl.own 133 3 b_ (xs:=oneC (e,(k:Int),.slice a2 l2 c2)) rfl).srcAt hs inferInstance) (fun v3 H3 h3=>?_) (hys:=rfl) (hbytes:=by rw [hl1];simp only [oneC,List.length_cons,List.length_nil];omega)
  have h31:=h3.isOne
  repeat' (first|(refine W.go ?_;try intro b_)|fail)
  refine W.sF ?_
  have hl2:((onesC L).drop (at_*3)).length=(L.length-at_)*3:=by rw [List.length_drop,hLl,← Nat.sub_mul]
  refine W.ap h3 (ys:=(onesC L).drop (at_*3)) (mm:=L.length-at_) (fun w2 hs=>by
   have:=((Rd.own (Hc:=[]) hL hs inferInstance).cutN cL at_ L.length (cL-at_) hat (Nat.le_refl _) (by omega) (by omega)).srcW (P:=Tryz.prog)
   rwa [List.take_of_length_le (by rw [hl2];exact Nat.le_refl _)] at this) (fun v4 H4 h4=>?_) (hys:=hl2) (hbytes:=by rw [hl2,List.length_append,hl1];simp only [oneC,List.length_cons,List.length_nil];omega)
  have h41:=h4.isOne
  have hLn:(onesC L).take (at_*3)++oneC (e,(k:Int),.slice a2 l2 c2)++(onesC L).drop (at_*3)=onesC (L.take at_++[(e,(k:Int),.slice a2 l2 c2)]++L.drop at_):=by
   rw [flatN_take (ones_ok L),flatN_drop (ones_ok L)]
   unfold onesC
   simp [List.map_take,List.map_drop]
  rw [hLn] at h4
  have hall2:∀ z∈L.take at_++[(e,(k:Int),.slice a2 l2 c2)]++L.drop at_,∃ bs,RdH (H2++Ht) z.2.2 bs:=fun z hz=>by
   rcases List.mem_append.1 hz with hz|hz
   ·rcases List.mem_append.1 hz with hz|hz
    ·obtain⟨bs,hb⟩:=hall z (List.mem_of_mem_take hz)
     exact⟨bs,hb.mono fun y hy=>List.mem_append_right _ hy⟩
    ·rw [List.mem_singleton] at hz
     subst hz
     exact⟨x,(RdH.of h2).mono fun y hy=>List.mem_append_left _ hy⟩
   ·obtain⟨bs,hb⟩:=hall z (List.mem_of_mem_drop hz)
    exact⟨bs,hb.mono fun y hy=>List.mem_append_right _ hy⟩
  have hlen2:(L.take at_++[(e,(k:Int),(Value.slice a2 l2 c2))]++L.drop at_).length≤N+1:=by simp;omega
  repeat' (first|(refine W.go ?_;try intro b_)|fail)
  rw [show ([ptv rc,.slice al L.length cL,.bool tw,.int .u64 te,.int .i64 tb,tp]:List Value).set 1 v4=[ptv rc,v4,.bool tw,.int .u64 te,.int .i64 tb,tp] from rfl]
  refine W.call (Plain_p (N:=N+1) ⟨v4,tw,te,tb,tp,_,Hc,H4,H2++Ht,rfl,hC,h4,hlen2,htp,hall2⟩ hK e k hk (.slice a la ca) x hx) ?_ (hpre:=fun w2 hs=>hw.ro (Hc:=(rs,cl [ptv rc,v4,.bool tw,.int .u64 te,.int .i64 tb,tp] 135)::(Hc++(H4++(H2++Ht)))) hs)
  rintro r _ ⟨Hr,hr,rfl⟩
  have hr1:=hr.isOne
  repeat' (first|(refine W.go ?_;try intro b_)|fail)
  refine Fin.to (Hr++((rs,cl [ptv rc,v4,.bool tw,.int .u64 te,.int .i64 tb,tp] 135)::(Hc++(H4++(H2++Ht))))) ?_
  exact F.f1 ⟨Hr,_,hr,rfl,v4,tw,te,tb,tp,_,Hc,H4,H2++Ht,rfl,hC,h4,hlen2,htp,hall2⟩
end Go.Proofs.YtnigolgkkjidiaaGreat
