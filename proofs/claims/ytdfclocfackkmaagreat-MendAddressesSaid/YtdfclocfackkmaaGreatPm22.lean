/- Blocks that are hidden: the document's. -/
import Derived.Test.YtdfclocfackkmaaGreatPm20
import Derived.Test.YtdfclocfackkmaaGreatPm21
set_option linter.unusedVariables false
set_option linter.unusedSimpArgs false
set_option linter.unusedSectionVars false
set_option maxHeartbeats 8000000
namespace Go.Proofs.YtdfclocfackkmaaGreat
open Go Go.Proofs.Tryz
section
attribute [local irreducible] SW SL SQ SH SA SS Pu Fin bS aN
theorem Rd.srcW{P:Program}{K:List Nat}{w:World}{n:Nat}{a:Option Addr}{len cap:Nat}{ys:LV}(h:Rd K w n (.slice a len cap) ys):eQ P w (.slice a len cap) n len ys:=by
 have h2:Rd [] w n (.slice a len cap) ys:=by obtain⟨a',len',cap'',he,h2,h3,h4⟩:=h;exact⟨a',len',cap'',he,h2,h3,h4.imp id fun⟨b,o,l,T,fz,e1,e2,e3,e4⟩=>⟨b,o,l,T,fz,e1,e2,by simp,e4⟩⟩
 exact h2.srcAt (St.start (Own.nil w))
abbrev O3:=UInt64×Int×Value
def zE(x:O3):LV:=[.int .u64 (x.1.toNat:Int),.int .i64 x.2.1,x.2.2]
instance(a:UInt64)(b:Int)(v:Value) [One v]:OC (zE (a,b,v)):=by unfold zE;infer_instance
abbrev vG(l:List O3):LV:=(l.map zE).flatten
theorem aI6(l:List O3):(vG l).length=l.length*3:=by rw [dH (n:=3) (fun x hx=>by obtain⟨y,-,rfl⟩:=bM.1 hx;rfl),aC]
theorem aEE(l:List O3):∀ x∈l.map zE,x.length=3:=fun x hx=>by obtain⟨y,-,rfl⟩:=bM.1 hx;rfl
def jN(rs rc n:Nat)(ws:LL)(N:Nat)(H:Hp):Prop:=
 ∃ lv tw te tb tp L Hc HL Ht,H=(rs,cl [ptv rc,lv,.bool tw,.int .u64 te,.int .i64 tb,tp] 107)::(Hc++(HL++Ht))/\aFb rc n ws Hc/\Sl 105 3 lv (vG L) HL/\L.length<=N/\One tp/\∀ x∈L,∃ bs,RdH Ht x.2.2 bs
theorem aD6{rs rc n:Nat}{ws:LL}{N:Nat}{H:Hp}(hS:jN rs rc n ws N H)(hK:kA n ws)(e:UInt64)(k:Nat)(hk:k<65536)(v:Value)(x:LB)(hx:x.length<=65536):Tri prog 114 [ptv rs,dZ e,.int .i64 (k:Int),v] H (fun w=>Rd (H.map Prod.fst) w 1 v (cbs x)) (fun r H'=>∃ Hr,Sl 5 1 r (cbs (dY (Rg.enc ws n) e k x)) Hr/\H'=Hr++H):=by obtain⟨lv,tw,te,tb,tp,L,Hc,HL,Ht,rfl,hC,hL,hN,htp,hall⟩:=hS;refine Tri.mt func114 ntmps114 fun w hw=>?_;obtain⟨a,la,ca,rfl,hl1,hc1,hr1⟩:=hw.get;have hY:One (Value.slice a la ca):=⟨rfl⟩;have hL1:=hL.isOne;haveI ik:Cv .u32 (k:Int) (k:Int):=⟨by rw [sO];omega⟩;refine W.k ?_;refine aF (aKW hC hK.four hK.max hK.pos hK.all e k oQ (.slice a la ca) x hx) ?_ (hpre:=fun w2 hs=>hw.ro (Hc:=Hc) hs);rintro r _ ⟨Hr,hr,rfl⟩;have hr1:=hr.isOne;refine W.k ?_;refine Fin.to (Hr++((rs,cl [ptv rc,lv,.bool tw,.int .u64 te,.int .i64 tb,tp] 107)::(Hc++(HL++Ht)))) ?_;exact F.f1 ⟨Hr,hr,rfl⟩
theorem aIe{rs rc n:Nat}{ws:LL}{N:Nat}{H:Hp}(hS:jN rs rc n ws N H)(hK:kA n ws)(hN:N<=1000000000)(e:UInt64)(k:Nat)(hk:k<65536)(v:Value)(x:LB)(hx:x.length<=65536):Tri prog 121 [ptv rs,dZ e,.int .i64 (k:Int),v] H (fun w=>Rd (H.map Prod.fst) w 1 v (cbs x)) (fun r H'=>∃ Hr H2,Sl 5 1 r (cbs (dY (Rg.enc ws n) e k x)) Hr/\H'=Hr++H2/\jN rs rc n ws (N+1) H2):=by
 obtain⟨lv,tw,te,tb,tp,L,Hc,HL,Ht,rfl,hC,hL,hLN,htp,hall⟩:=hS;refine Tri.mt func121 ntmps121 fun w hw=>?_;obtain⟨a,la,ca,rfl,hl1',hc1,hr1⟩:=hw.get;have hY:One (Value.slice a la ca):=⟨rfl⟩;have hL1:=hL.isOne;have hLl:=aI6 L;have hoc:OC (vG L):=⟨fun u hu=>by obtain⟨c,hc,huc⟩:=List.mem_flatten.1 hu;obtain⟨⟨y1,y2,y3⟩,hy,rfl⟩:=bM.1 hc;obtain⟨bs,hb⟩:=hall _ hy;haveI:One y3:=hb.one;exact (inferInstance:OC (zE (y1,y2,y3))).ok u huc⟩;obtain⟨al,ll,cL,rfl,hll⟩:=hL.form;rw [hLl] at hll;have hll2:L.length=ll:=oQ;subst hll2;refine W.j ?_;refine SW.cut [0,1,2,3] [rs] (fun y:Nat×Bool×Bool×Int×Int×Value=>[(9,.int .i64 (y.1:Int)),(10,.bool y.2.1)]) (fun y=>[(rs,cl [ptv rc,.slice al L.length cL,.bool y.2.2.1,.int .u64 y.2.2.2.1,.int .i64 y.2.2.2.2.1,y.2.2.2.2.2] 107)]) (fun y=>y.1<=L.length/\One y.2.2.2.2.2) ?_ ?_
 ·refine W.k ?_;refine cI [0,1,2,3,17,18] [rs] (fun y:Nat×Nat×Bool×Bool×Int×Int×Value=>[(19,.int .i64 (y.1:Int)),(9,.int .i64 (y.2.1:Int)),(10,.bool y.2.2.1)]) (fun y=>[(rs,cl [ptv rc,.slice al L.length cL,.bool y.2.2.2.1,.int .u64 y.2.2.2.2.1,.int .i64 y.2.2.2.2.2.1,y.2.2.2.2.2.2] 107)]) (fun y=>L.length-y.1) (fun y=>y.1<=L.length/\y.2.1<=y.1/\One y.2.2.2.2.2.2) (0,0,false,tw,te,tb,tp) ⟨Nat.zero_le _,Nat.zero_le _,htp⟩ ?_;rintro⟨i,at_,th,tw,te,tb,tp⟩ ⟨hi,hat,htp⟩;dsimp only at hi hat htp |-;by_cases h:i<L.length
  ·rcases hL with ⟨hz,-,-⟩|⟨bl,len,cap,junk,hz,hxl,hj,hlc,rfl⟩
   ·simp only [Value.slice.injEq] at hz;omega
   simp only [Value.slice.injEq] at hz;obtain⟨rfl,rfl,rfl⟩:=hz;obtain⟨y,hy⟩:∃ y,L[i]?=some y:=⟨_,aA h⟩;obtain⟨bs,hbs⟩:=hall y (aP hy);have hld:((vG L++junk).drop (i*3)).take 3=zE y:=by rw [cJ (by rw [hLl];omega),bU (by rw [bG,hLl];omega)];exact tC (aEE L) (by rw [aL,hy];rfl)
   obtain⟨ye,yk,yv⟩:=y;have hbs0:=hbs;have hyv:=hbs.one;obtain⟨ya,yl,yc,rfl,-⟩:=hbs0;have hol:(zE (ye,yk,.slice ya yl yc)).length=3:=rfl;by_cases c1:ye.toNat<e.toNat
   ·refine W.k fun b_=>?_;refine aN.mk (i+1,at_+1,th,tw,te,tb,tp) ?_;exact⟨h,by show at_+1<=i+1;omega,htp⟩
   by_cases c2:e.toNat<ye.toNat
   ·refine W.k fun b_=>?_;refine aN.mk (i+1,at_,th,tw,te,tb,tp) ?_;exact⟨h,by show at_<=i+1;omega,htp⟩
   by_cases c3:yk<k
   ·refine W.k fun b_=>?_;refine aN.mk (i+1,at_+1,th,tw,te,tb,tp) ?_;exact⟨h,by show at_+1<=i+1;omega,htp⟩
   by_cases c4:yk=k
   ·refine W.k fun b_=>?_;refine aFu (fun w2 hs=>(hbs.rd (Hc:=[]) hs).srcW) ?_;refine W.k ?_;refine aFu (fun w2 hs=>hw.srcAt hs) ?_;refine aPI ?_;rw [aB4];by_cases hxy:bs=x
    ·rw [decide_eq_true hxy];refine W.k ?_;refine aN.mk (i+1,at_,true,tw,te,tb,tp) ?_;exact⟨h,by show at_<=i+1;omega,htp⟩
    rw [decide_eq_false hxy];cases tw with
    | true=>
     refine W.k ?_
     refine aN.mk (i+1,at_,true,true,te,tb,tp) ?_
     exact⟨h,by show at_<=i+1;omega,htp⟩
    | false=>
     have hb70:bV (fun i=>[(0,1),(1,1),(2,1)][i]?) [.int .u64 0,.int .i64 0,.slice none 0 0] [(0,dZ e),(1,.int .i64 (k:Int))]=some [dZ e,.int .i64 (k:Int),.slice none 0 0]:=rfl
     refine W.k ?_
     rw [show List.take 3 (([ptv rc,.slice (some ⟨bl,0,none⟩) L.length cL,.bool false,.int .u64 te,.int .i64 tb,tp]:LV).set 2 (.bool true))++[dZ e,.int .i64 (k:Int),.slice none 0 0]++List.drop (3+3) (([ptv rc,.slice (some ⟨bl,0,none⟩) L.length cL,.bool false,.int .u64 te,.int .i64 tb,tp]:LV).set 2 (.bool true))=[ptv rc,.slice (some ⟨bl,0,none⟩) L.length cL,.bool true,.int .u64 (e.toNat:Int),.int .i64 (k:Int),.slice none 0 0] from rfl]
     refine aN.mk (i+1,at_,true,true,(e.toNat:Int),(k:Int),.slice none 0 0) ?_
     exact⟨h,by show at_<=i+1;omega,⟨rfl⟩⟩
   refine W.k fun b_=>?_;refine aN.mk (i+1,at_,th,tw,te,tb,tp) ?_;exact⟨h,by show at_<=i+1;omega,htp⟩
  have:i=L.length:=oQ;subst this;refine W.k ?_;refine bS.mk (at_,th,tw,te,tb,tp) ?_;exact⟨hat,htp⟩
 rintro⟨at_,th,tw,te,tb,tp⟩ ⟨hat,htp⟩;dsimp only at hat htp |-;cases th with
 | true=>
  refine W.k ?_
  refine aF (aD6 (N:=N+1) ⟨.slice al L.length cL,tw,te,tb,tp,L,Hc,HL,Ht,rfl,hC,hL,oQ,htp,hall⟩ hK e k hk (.slice a la ca) x hx) ?_ (hpre:=fun w2 hs=>hw.ro (Hc:=(rs,cl [ptv rc,.slice al L.length cL,.bool tw,.int .u64 te,.int .i64 tb,tp] 107)::(Hc++(HL++Ht))) hs)
  rintro r _ ⟨Hr,hr,rfl⟩
  have hr1:=hr.isOne
  refine W.k ?_
  refine Fin.to (Hr++((rs,cl [ptv rc,.slice al L.length cL,.bool tw,.int .u64 te,.int .i64 tb,tp] 107)::(Hc++(HL++Ht)))) ?_
  exact F.f1 ⟨Hr,_,hr,rfl,.slice al L.length cL,tw,te,tb,tp,L,Hc,HL,Ht,rfl,hC,hL,oQ,htp,hall⟩
 | false=>
  have hLc:L.length<=cL:=by
   rcases hL with ⟨hz,-,-⟩|⟨bl,len,cap,junk,hz,hxl,hj,hlc,rfl⟩
   ·simp only [Value.slice.injEq] at hz;omega
   ·simp only [Value.slice.injEq] at hz;omega
  refine W.k fun b_=>?_
  refine W.sT ?_
  have h0:Sl 105 3 (.slice (some ⟨b_,0,none⟩) 0 0) [] [(b_,cl ([]:LV) 105)]:=Sl.mk (xs:=[]) (junk:=[]) (len:=0) (cap:=0) rfl rfl (Nat.le_refl _)
  have hl1:((vG L).take (at_*3)).length=at_*3:=by rw [aH,hLl];omega
  refine W.ap h0 (ys:=(vG L).take (at_*3)) (mm:=at_) (fun w2 hs=>by
   have:=((Rd.own (Hc:=[]) hL hs inferInstance).cutN cL 0 at_ cL (Nat.zero_le _) hat oQ oQ).srcW (P:=prog)
   simpa using this) (fun v1 H1 h1=>?_) (hys:=hl1) (hbytes:=by rw [hl1];simp;omega)
  rw [List.nil_append] at h1
  have h11:=h1.isOne
  have hbx:bV (fun i=>some (i*1,1)) (zs [.int .u8 0] 0) []=some ([]:LV):=rfl
  have hla:la=x.length:=by rw [aI] at hl1';omega
  refine W.k fun b_=>?_
  have h00:Sl 5 1 (.slice (some ⟨b_,0,none⟩) 0 0) [] [(b_,cl ([]:LV) 5)]:=Sl.mk (xs:=[]) (junk:=[]) (len:=0) (cap:=0) rfl rfl (Nat.le_refl _)
  refine W.ap h00 (ys:=cbs x) (mm:=la) (fun w2 hs=>hw.srcAt hs) (fun v2 H2 h2=>?_) (hys:=by rw [hl1']) (hbytes:=by rw [aI];simp;omega)
  rw [List.nil_append] at h2
  have h21:=h2.isOne
  obtain⟨a2,l2,c2,rfl,-⟩:=h2.form
  have hb90:bV (fun i=>[(0,1),(1,1),(2,1)][i]?) [.int .u64 0,.int .i64 0,.slice none 0 0] [(0,dZ e),(1,.int .i64 (k:Int)),(2,.slice a2 l2 c2)]=some (zE (e,(k:Int),.slice a2 l2 c2)):=rfl
  have hb91:bV (fun i=>some (i*3,3)) (zs [.int .u64 0,.int .i64 0,.slice none 0 0] 1) [(0,.agg (zE (e,(k:Int),.slice a2 l2 c2)).toArray)]=some (zE (e,(k:Int),.slice a2 l2 c2)):=rfl
  refine W.k fun b_=>?_
  refine W.ap h1 (ys:=zE (e,(k:Int),.slice a2 l2 c2)) (mm:=1) (fun w2 hs=>(Sl.own 105 3 b_ (xs:=zE (e,(k:Int),.slice a2 l2 c2)) rfl).srcAt hs inferInstance) (fun v3 H3 h3=>?_) (hys:=rfl) (hbytes:=by rw [hl1];simp only [zE,aW,List.length_nil];omega)
  have h31:=h3.isOne
  refine W.k ?_
  refine W.sF ?_
  have hl2:((vG L).drop (at_*3)).length=(L.length-at_)*3:=by rw [bG,hLl,<-Nat.sub_mul]
  refine W.ap h3 (ys:=(vG L).drop (at_*3)) (mm:=L.length-at_) (fun w2 hs=>by
   have:=((Rd.own (Hc:=[]) hL hs inferInstance).cutN cL at_ L.length (cL-at_) hat (Nat.le_refl _) oQ oQ).srcW (P:=prog)
   rwa [aK (by rw [hl2];exact Nat.le_refl _)] at this) (fun v4 H4 h4=>?_) (hys:=hl2) (hbytes:=by rw [hl2,aB,hl1];simp only [zE,aW,List.length_nil];omega)
  have h41:=h4.isOne
  have hLn:(vG L).take (at_*3)++zE (e,(k:Int),.slice a2 l2 c2)++(vG L).drop (at_*3)=vG (L.take at_++[(e,(k:Int),.slice a2 l2 c2)]++L.drop at_):=by
   rw [aCw (aEE L),yX (aEE L)]
   unfold vG
   simp [gX,iD]
  rw [hLn] at h4
  have hall2:∀ z∈L.take at_++[(e,(k:Int),.slice a2 l2 c2)]++L.drop at_,∃ bs,RdH (H2++Ht) z.2.2 bs:=fun z hz=>by
   rcases bJ.1 hz with hz|hz
   ·rcases bJ.1 hz with hz|hz
    ·obtain⟨bs,hb⟩:=hall z (dM hz)
     exact⟨bs,hb.mono fun y hy=>aM _ hy⟩
    ·rw [bW] at hz
     subst hz
     exact⟨x,(RdH.of h2).mono fun y hy=>aO _ hy⟩
   ·obtain⟨bs,hb⟩:=hall z (kH hz)
    exact⟨bs,hb.mono fun y hy=>aM _ hy⟩
  have hlen2:(L.take at_++[(e,(k:Int),(Value.slice a2 l2 c2))]++L.drop at_).length<=N+1:=by simp;omega
  refine W.k ?_
  rw [show ([ptv rc,.slice al L.length cL,.bool tw,.int .u64 te,.int .i64 tb,tp]:LV).set 1 v4=[ptv rc,v4,.bool tw,.int .u64 te,.int .i64 tb,tp] from rfl]
  refine aF (aD6 (N:=N+1) ⟨v4,tw,te,tb,tp,_,Hc,H4,H2++Ht,rfl,hC,h4,hlen2,htp,hall2⟩ hK e k hk (.slice a la ca) x hx) ?_ (hpre:=fun w2 hs=>hw.ro (Hc:=(rs,cl [ptv rc,v4,.bool tw,.int .u64 te,.int .i64 tb,tp] 107)::(Hc++(H4++(H2++Ht)))) hs)
  rintro r _ ⟨Hr,hr,rfl⟩
  have hr1:=hr.isOne
  refine W.k ?_
  refine Fin.to (Hr++((rs,cl [ptv rc,v4,.bool tw,.int .u64 te,.int .i64 tb,tp] 107)::(Hc++(H4++(H2++Ht))))) ?_
  exact F.f1 ⟨Hr,_,hr,rfl,v4,tw,te,tb,tp,_,Hc,H4,H2++Ht,rfl,hC,h4,hlen2,htp,hall2⟩
abbrev uv(es:List UInt64):LV:=es.map dZ
theorem eN(es:List UInt64):(uv es).length=es.length:=aC ..
theorem aD2{es:List UInt64}{k:Nat}(h:k<es.length):(uv es)[k]?=some (dZ (es.getD k 0)):=by rw [aL,aA h,aE,aA h];rfl
def uH(x:LB)(n:Nat):List UInt64:=(List.range n).map fun k=>zA ((x.drop (8*k)).take 8)
theorem aFO(x:LB)(n:Nat):(uH x n).length=n:=by simp [uH]
theorem aIM(x:LB)(n:Nat):uH x (n+1)=uH x n++[zA ((x.drop (8*n)).take 8)]:=by unfold uH;rw [bT,aZ];rfl
theorem RB.rds{K:List Nat}{w0 w:World}{H Hc Ht r:Hp}{v:Value}{vs:LV}{bss:LL}(hB:RB Ht vs bss)(hv:Rd (Hc.map Prod.fst) w 1 v vs)(hs:St K w0 H w) [hp:eY H (Hc++Ht) r]:RdS (Hc.map Prod.fst) w v bss:=
 ⟨vs,hv,hB.1,fun i bs hi=>by
  obtain⟨u,h1,h2⟩:=hB.2 i bs hi
  have hr:=h2.rd (Hc:=Hc) hs
  obtain⟨a,len,cap,rfl,-⟩:=h2
  exact⟨a,len,cap,h1,hr⟩⟩
theorem aJt{p t:Nat}(h:Gm.Ok p t){Ht:Hp}(v:Value)(vs:LV)(bss:LL)(hB:RB Ht vs bss)(hn:bss.length=Gm.epochs p)(h256:∀ b∈bss,b.length=256):Tri prog 246 [kM p t,v] Ht (fun w=>Rd (Ht.map Prod.fst) w 1 v vs) (fun r H=>∃ b,r=.tuple #[.slice (some ⟨b,0,none⟩) (Gm.sealed p) (Gm.sealed p),.int .i64 0]/\H=(b,cl (uv (uH bss.flatten (Gm.sealed p))) 23)::Ht):=by
 refine Tri.mt func246 ntmps246 fun w hw=>?_;have hck:=qC h;have hep:=yZ h;have hse:=uL h;have hsl:=Gm.sealed_le h;have hfl:=dH h256;have he32:Gm.sealed p<=32*Gm.epochs p:=by unfold Gm.epochs Gm.up;omega
 have hel:=Gm.epochs_le h;have hcb:=aL9 v vs bss hB oQ h256;have hcc:=vS v bss (by rw [hfl];omega) oQ;obtain⟨a,la,ca,rfl,hl1,hc1,hr1⟩:=hw.get;rw [Nat.mul_one,hB.1] at hl1;subst hl1;have hY:One (Value.slice a bss.length ca):=⟨rfl⟩;rw [<-hn] at hep;rw [hn] at hfl;generalize Gm.sealed p=s at *;refine W.k fun b_=>?_;refine W.cw hck ?_;refine W.cw hep ?_;refine aF hcb ?_ (hpre:=fun w2 hs=>hw.ro (Hc:=Ht) hs);rintro _ Ht ⟨rfl,rfl⟩;refine W.k ?_;refine aF hcc ?_ (hpre:=fun w2 hs=>hB.rds (Hc:=[]) (hw.ro (Hc:=[]) hs) hs);intro v1 H1 h1;have h11:=h1.isOne;refine W.k ?_;refine aF (aPu v1 bss.flatten oQ) ?_ (hpre:=fun w2 hs=>Rd.own (Hc:=[]) h1 hs inferInstance);rintro _ H2 ⟨q,rfl,hR⟩;refine W.k ?_;refine W.cq hse ?_;refine W.j fun b_=>?_;rw [show zs [Value.int .u64 0] s=uv (uH bss.flatten 0)++List.replicate (s-0) (.int .u64 0) by rw [lJ];rfl];generalize b_=bs at *;refine bP [8] ((bs,cl (uv (uH bss.flatten 0)++List.replicate (s-0) (.int .u64 0)) 23)::H2) (fun _:Unit=>[]) (fun _=>[(bs,cl (uv (uH bss.flatten s)) 23)]) NT ?_ ?_
 ·refine W.k ?_;refine bE [7,8,33] (fun x:Nat×Hp=>[(34,.int .i64 (x.1:Int))]) (fun x=>(bs,cl (uv (uH bss.flatten x.1)++List.replicate (s-x.1) (.int .u64 0)) 23)::x.2) (fun x=>s-x.1) (fun x=>x.1<=s/\aFc q (bss.flatten.drop (8*x.1)) x.2) (0,H2) ⟨Nat.zero_le _,hR⟩ ?_;rintro⟨k,H3⟩ ⟨hk,hR3⟩;dsimp only at hk hR3 |-;by_cases hks:k<s
  ·have hnm:=aHx hR3 8 dQ dQ (by rw [bG];omega) (by rw [bG];omega);rw [cG,show 8*k+8=8*(k+1) by omega] at hnm;have hlt:k<(uv (uH bss.flatten k)++List.replicate (s-k) (Value.int .u64 0)).length:=by rw [aB,eN,aFO,bA];omega
   have hf:=aAZ (uv (uH bss.flatten k)) (s-(k+1)) (.int .u64 0) (.int .u64 (jR ((bss.flatten.drop (8*k)).take 8):Nat));rw [show s-(k+1)+1=s-k by omega,eN,aFO] at hf;have hu:Value.int .u64 ((jR ((bss.flatten.drop (8*k)).take 8):Nat):Int)=dZ (zA ((bss.flatten.drop (8*k)).take 8)):=by unfold dZ;rw [aAh]
   have he:uv (uH bss.flatten k)++[.int .u64 (jR ((bss.flatten.drop (8*k)).take 8):Nat)]=uv (uH bss.flatten (k+1)):=by rw [hu,aIM];simp
   rw [he] at hf;refine W.k ?_;refine dN H3 rfl rfl rfl rfl rfl rfl hnm (fun _ _=>trivial) ?_;rintro _ H4 ⟨rfl,hR4⟩;refine W.k ?_;rw [hf];refine aN.mk (k+1,H4) ?_;exact⟨hks,hR4⟩
  have:k=s:=oQ;subst this;rw [dO,List.replicate_zero,aG];refine W.k ?_;refine bS.mk () ?_;trivial
 rintro _ -;refine W.k ?_;refine Fin.to ((bs,cl (uv (uH bss.flatten s)) 23)::Ht) ?_;exact F.f2 ⟨bs,rfl,rfl⟩
theorem aAF{p t:Nat}(h:Gm.Ok p t)(k:Nat)(hk:k<Gm.epochs p)(v:Value)(es:List UInt64)(hn:es.length=Gm.sealed p):Tri prog 174 [kM p t,.int .i64 (k:Int),v] [] (fun w=>Rd [] w 1 v (uv es)) (fun r H=>∃ b,r=.tuple #[.slice (some ⟨b,0,none⟩) 256 256,.int .i64 0]/\H=[(b,cl (cbs (epB k es)) 5)]):=by
 refine Tri.mt func174 ntmps174 fun w hw=>?_;have hck:=qC h;have hse:=uL h;have hea:=uK h (k:Int);rw [show Gm.atK (Gm.epochs p) 1 (k:Int)=((1+k:Nat):Int) by unfold Gm.atK;rw [if_pos oQ];omega] at hea;have hsl:=Gm.sealed_le h;have hel:=Gm.epochs_le h;have hk32:32*k<Gm.sealed p:=by unfold Gm.epochs Gm.up at hk;omega
 rw [<-hn] at hse hsl hk32;have hw0:=hw;obtain⟨a,la,ca,rfl,hl1,hc1,hr1⟩:=hw.get;rw [Nat.mul_one,eN] at hl1;subst hl1;have hY:One (Value.slice a es.length ca):=⟨rfl⟩;have hm:min (32*(k+1)) es.length=min (32*k+32) es.length:=by rw [show 32*(k+1)=32*k+32 by omega]
 haveI i1:eB (min (32*((k:Int)+1)) (es.length:Int)) (min (32*k+32) es.length):=⟨oQ⟩;haveI i2:eB (32*(k:Int)) (32*k):=⟨oQ⟩;have hmd:min (32*k+32) es.length=32*k+((es.drop (32*k)).take 32).length:=by rw [aH,bG];omega
 have hcut:=hw0.cutN ca (32*k) (min (32*k+32) es.length) (ca-32*k) oQ oQ oQ oQ;rw [Nat.mul_one,Nat.mul_one,show (List.drop (32*k) (uv es)).take (min (32*k+32) es.length-32*k)=uv ((es.drop (32*k)).take 32) by rw [hmd,dB,<-iD,<-gX,aH,<-fK];congr 1;rw [aK (Nat.le_refl _)]] at hcut;rw [hmd] at i1 hcut;have hepb:epB k es=pad 256 (((es.drop (32*k)).take 32).flatMap (leN 8)):=rfl;rw [hepb];have hl32:((es.drop (32*k)).take 32).length<=32:=by rw [aH];omega
 have hle2:32*k+((es.drop (32*k)).take 32).length<=es.length:=by rw [aH,bG];omega
 generalize (es.drop (32*k)).take 32=fs at *;rw [dB] at hcut;refine W.k fun b_=>?_;refine W.cw hck ?_;refine W.cw hse ?_;refine W.cw hea ?_;refine W.sG ?_ (i1:=i1);rw [dB];obtain⟨a3,la3,ca3,he3,hl3,hc3,hr3⟩:=hcut.get;simp only [Value.slice.injEq] at he3;obtain⟨rfl,rfl,rfl⟩:=he3;generalize lI a ca (32*k) 1=a3 at *;have hfm:∀ l:List UInt64,(l.flatMap (leN 8)).length=8*l.length:=fun l=>by
  induction l with
  | nil=>rfl
  | cons x r ih=>rw [dE,aB,ih,dV];simp;omega
 refine W.j ?_;refine bP [] [] (fun x:Value×Hp=>[(8,x.1)]) (fun x=>x.2) (fun x=>Sl 5 1 x.1 (cbs (fs.flatMap (leN 8))) x.2) ?_ ?_
 ·refine W.k ?_;refine bE [36,37] (fun x:Nat×Value×Hp=>[(8,x.2.1),(38,.int .i64 (x.1:Int))]) (fun x=>x.2.2) (fun x=>fs.length-x.1) (fun x=>x.1<=fs.length/\Sl 5 1 x.2.1 (cbs ((fs.take x.1).flatMap (leN 8))) x.2.2) (0,.slice none 0 0,[]) ⟨Nat.zero_le _,Sl.nil _ _⟩ ?_;rintro⟨j,v2,H2⟩ ⟨hj,h2⟩;dsimp only at hj h2 |-;have h21:=h2.isOne;by_cases hjl:j<fs.length
  ·obtain⟨bb,o,l,T,fz,rfl,hb,hkK,hy⟩:=hr3 oQ;have hlu:l[o+j]?=some (dZ (fs.getD j 0)):=by
    have h2:((l.drop o).take (fs.length*1))[j]?=(uv fs)[j]?:=by rw [hy]
    rw [bD,if_pos oQ,bH,aD2 hjl] at h2;exact h2
   have hts:(fs.take (j+1)).flatMap (leN 8)=(fs.take j).flatMap (leN 8)++leN 8 (fs.getD j 0):=by rw [aY,aA hjl,cP,aE,aA hjl];simp
   generalize fs.getD j 0=e at *;have htl:(fs.take j).length=j:=by rw [aH];omega
   refine W.k ?_;refine aF (yK 8 e oQ oQ) ?_;rintro _ _ ⟨b6,rfl,rfl⟩;refine W.ap h2 (ys:=cbs (leN 8 e)) (mm:=8) (fun w2 hs=>(Sl.own 5 1 b6 (len:=8) (xs:=cbs (leN 8 e)) (by rw [aI,dV])).srcAt hs inferInstance) (fun v3 H3 h3=>?_) (hys:=by rw [aI,dV]) (hbytes:=by rw [aI,aI,hfm,htl,dV];omega);have h31:=h3.isOne;rw [<-iW,<-hts] at h3;refine W.k ?_;refine aN.mk (j+1,v3,H3) ?_;exact⟨hjl,h3⟩
  have:j=fs.length:=oQ;subst this;rw [bO] at h2;refine W.k ?_;refine bS.mk (v2,H2) ?_;exact h2
 rintro⟨v2,H2⟩ h2;dsimp only at h2 |-;have h21:=h2.isOne;refine W.k ?_;refine aF (aD5 v2 (fs.flatMap (leN 8)) 256 dQ dQ (by rw [hfm];omega)) ?_ (hpre:=fun w2 hs=>Rd.own (Hc:=[]) h2 hs inferInstance);rintro _ _ ⟨b7,rfl,rfl⟩;refine W.k ?_;refine Fin.to [(b7,cl (cbs (pad 256 (fs.flatMap (leN 8)))) 5)] ?_;exact F.f2 ⟨b7,rfl,rfl⟩
end
end Go.Proofs.YtdfclocfackkmaaGreat
