/- Any geometry: what a pair does whose geometry may not be; whatever the geometry is, both do the same. -/
import Derived.Test.YtdfclocfackkmaaGreatPm43
set_option linter.unusedVariables false
set_option linter.unusedSimpArgs false
set_option linter.unusedSectionVars false
set_option maxHeartbeats 8000000
namespace Go.Proofs.YtdfclocfackkmaaGreat
open Go Go.Proofs.Tryz
section
attribute [local irreducible] SW SL SQ SH SA SS Pu Fin bS aN
abbrev aMM(d tr s:Nat)(P T:Int):Value:=.agg #[ptv d,ptv tr,ptv s,.int .i64 P,.int .i64 T]
theorem aJl{P T:Int}(h:¬ GoK P T):Tri prog 26 [.agg #[.int .i64 P,.int .i64 T]] [] NT (fun v H=>∃ Hs,Sl 184 2 v [] Hs/\H=Hs):=by
 refine Tri.mt func26 ntmps26 fun w hw=>?_;have hm:=aDS h;(refine W.k ?_;repeat intro b_);refine W.cw hm ?_;repeat intro b_
 refine Fin.to [] ?_;exact F.f1 ⟨[],Sl.nil _ _,rfl⟩
section
variable {d tr s:Nat}{P T:Int}{H0:Hp}
theorem aJg(h:¬ GoK P T):Tri prog 19 [aMM d tr s P T] H0 NT (fun v H=>v=.tuple #[.agg #[.int .i64 0,.slice none 0 0,.int .u64 0,.slice none 0 0],.int .i64 1]/\H=H0):=by refine Tri.mt func19 ntmps19 fun w hw=>?_;have hm:=aBr (d:=d) (tr:=tr) (s:=s) (Hd:=H0) h;(refine W.k ?_;repeat intro b_);refine aF hm ?_;rintro _ Hx ⟨rfl,hx⟩;have hx:=hx.symm;subst hx;(refine W.k ?_;repeat intro b_);refine pT H0 [.int .i64 0,.slice none 0 0,.int .u64 0,.slice none 0 0] ?_;exact⟨rfl,rfl⟩
theorem aJh(h:¬ GoK P T)(wr:Bool):Tri prog 50 [aMM d tr s P T,.bool wr] H0 NT (fun v H=>v=.tuple #[.pointer none,.int .i64 1]/\H=H0):=by refine Tri.mt func50 ntmps50 fun w hw=>?_;have hm:=aBr (d:=d) (tr:=tr) (s:=s) (Hd:=H0) h;(refine W.k ?_;repeat intro b_);refine aF hm ?_;rintro _ Hx ⟨rfl,hx⟩;have hx:=hx.symm;subst hx;(refine W.k ?_;repeat intro b_);refine Fin.to H0 ?_;exact F.f2 ⟨rfl,rfl⟩
theorem aGl(h:¬ GoK P T):Tri prog 48 [aMM d tr s P T] H0 NT (fun v H=>v=.int .i64 1/\H=H0):=by refine Tri.mt func48 ntmps48 fun w hw=>?_;have hm:=aBr (d:=d) (tr:=tr) (s:=s) (Hd:=H0) h;(refine W.k ?_;repeat intro b_);refine aF hm ?_;rintro _ Hx ⟨rfl,hx⟩;have hx:=hx.symm;subst hx;(refine W.k ?_;repeat intro b_);refine Fin.to H0 ?_;exact F.f1 ⟨rfl,rfl⟩
end
abbrev aDI(pp:Nat)(i:Pid)(P T:Int)(r:Rg)(Hd HD:Hp):Hp:=(pp,cl (oZ i P T (.pointer none) (.pointer none)) 52)::(i.tr,cl (trc i.d r) 201)::(i.rtr,cl (rtc i.rd r) 100)::(Hd++HD)
def aB9(pp:Nat)(P T:Int)(H:Hp):Prop:=∃ (i:Pid) (C:Dv) (r:Rg) (Hd HD:Hp),eX i.d C Hd/\gS i.rd C HD/\r.Ok/\C.ws.length%8=0/\H=aDI pp i P T r Hd HD
section
variable {pp:Nat}{P T:Int}{H:Hp}
theorem aMu(hG:¬ GoK P T)(hP:aB9 pp P T H)(wr:Bool):Tri prog 16 [ptv pp,.bool wr] H NT (fun v H'=>v=.bool true/\aB9 pp P T H'):=by
 obtain⟨i,C,r,Hd,HD,hD,hDR,hr,w8,rfl⟩:=hP;refine Tri.mt func16 ntmps16 fun w hw=>?_;have h1:=aI1 (d:=i.d) (s:=i.s) (bk:=i.bk) inferInstance dQ wr (aCI (tr:=i.tr) (Hd:=[]) hG);have h2:=aJh (d:=i.rd) (tr:=i.rtr) (s:=i.rs) (H0:=[]) hG wr;(refine W.k ?_;repeat intro b_);refine W.cw h1 ?_;repeat intro b_
 refine W.cw h2 ?_;repeat intro b_
 rw [show ((oZ i P T (.pointer none) (.pointer none)).set 6 (.pointer none)).set 12 (.pointer none)=oZ i P T (.pointer none) (.pointer none) from rfl];refine Fin.to (aDI pp i P T r Hd HD) ?_;exact F.f1 ⟨rfl,i,C,r,Hd,HD,hD,hDR,hr,w8,rfl⟩
theorem aIR(hG:¬ GoK P T)(hP:aB9 pp P T H):Tri prog 12 [ptv pp] H NT (fun v H'=>v=.bool true/\aB9 pp P T H'):=by obtain⟨i,C,r,Hd,HD,hD,hDR,hr,w8,rfl⟩:=hP;refine Tri.mt func12 ntmps12 fun w hw=>?_;have h1:=aF1 (d:=i.d) (s:=i.s) (bk:=i.bk) inferInstance dQ (aCI (tr:=i.tr) (Hd:=[]) hG);have h2:=aGl (d:=i.rd) (tr:=i.rtr) (s:=i.rs) (H0:=[]) hG;(refine W.k ?_;repeat intro b_);(refine SW.l [9] [0,1,2,3,5,6,7,8] ?_;refine aX 4 ?_);refine W.cq h1 ?_;(refine bB [] ?_;refine bL 9 ?_);refine W.cq h2 ?_;(refine SL.l [10,11,12] ?_);(refine W.k ?_;repeat intro b_);refine Fin.to (aDI pp i P T r Hd HD) ?_;exact F.f1 ⟨rfl,i,C,r,Hd,HD,hD,hDR,hr,w8,rfl⟩
theorem aM2(hG:¬ GoK P T)(hP:aB9 pp P T H)(a:lU)(us:LV)(l:List Ent)(hl:l.length<=maxLen)(ha : -9223372036854775808<=a.at'/\a.at'<=9223372036854775807):Tri prog 9 [ptv pp,.agg a.c.toArray] H (fun w=>vR (H.map Prod.fst) w a us l) (fun v H'=>v=.bool true/\aB9 pp P T H'):=by
 by_cases hk:¬ (a.kind=0\/a.kind=1\/a.kind=2\/a.kind=3\/a.kind=6\/a.kind=7)
 ·obtain⟨i,C,r,Hd,HD,hD,hDR,hr,w8,rfl⟩:=hP;refine ((aIr (pp:=pp) (i:=i) (P:=P) (T:=T) (sv:=.pointer none) (rv:=.pointer none) inferInstance inferInstance hD hDR w8 a us l hl ha hk).frame (r:=[(i.tr,cl (trc i.d r) 201),(i.rtr,cl (rtc i.rd r) 100)]) (Pre':=fun w=>vR ((aDI pp i P T r Hd HD).map Prod.fst) w a us l) fG (fun w ho hw=>hw.ro (St.start ho))).to ?_;rintro _ _ ⟨H1,rfl,rfl,σ',Hd',HD',h1,h2,hwl,rfl,-⟩;refine⟨aDI pp i P T r Hd' HD',[],?_,rfl,i,σ',r,Hd',HD',h1,h2,hr,by rw [hwl];exact w8,rfl⟩;rw [aG];exact fG
 have hk2:a.kind=0\/a.kind=1\/a.kind=2\/a.kind=3\/a.kind=6\/a.kind=7:=Decidable.not_not.1 hk;clear hk;have hop:=fun wr=>aMu hG hP wr;have hP0:=hP;obtain⟨i,C,r,Hd,HD,hD,hDR,hr,w8,rfl⟩:=hP;have hfm:=aIR hG hP0;refine Tri.mt func9 ntmps9 fun w hw=>?_;obtain⟨oc,hol,⟨bb,hb300,hbR,ob⟩,qq,hq12,hqR,oq⟩:=hw.all;have hcu:=aDo a us l hl;obtain⟨kind,lv,full,kk,n0,at',bv,wr,pv⟩:=a;dsimp only [lU.c] at hol oc ha hk2 hcu hbR hqR ob oq |-;generalize ctV 300 bv=bv2 at *;generalize ctV 12 pv=pv2 at *;rcases hk2 with rfl|rfl|rfl|rfl|rfl|rfl;all_goals
  (refine W.k ?_;repeat intro b_);refine aF hcu ?_ (hpre:=fun w2 hs=>hw.cut hs);rintro _ _ ⟨lv2,r0,us2,l2,HO,HQ,rfl,hr0,hO2,-,rfl⟩;have oO:=hO2.isOne;(refine W.k ?_;repeat intro b_)
 iterate 4
  refine Fin.to (aDI pp i P T r Hd HD) ?_
  exact F.f1 ⟨rfl,hP0⟩
 ·refine aF (hop wr) ?_;rintro _ H2 ⟨rfl,hP2⟩;(refine W.k ?_;repeat intro b_);refine Fin.to H2 ?_;exact F.f1 ⟨rfl,hP2⟩
 rw [show ((oZ i P T (.pointer none) (.pointer none)).set 6 (.pointer none)).set 12 (.pointer none)=oZ i P T (.pointer none) (.pointer none) from rfl];refine aF hfm ?_;rintro _ H2 ⟨rfl,hP2⟩;(refine W.k ?_;repeat intro b_);refine Fin.to H2 ?_;exact F.f1 ⟨rfl,hP2⟩
end
theorem aKw{d dt tr s bk tb p t:Nat}(h:Gm.Ok p t){C:Dv}{r:Rg}{D:Bk}{Hd Hk:Hp}(hD:eX d C Hd)(hlen:C.len=256*Gm.total p t)(hr:r.Ok)(hK:eP bk tb D Hk):Tri prog 18 [vW d tr s bk p t] ((tr,cl (trc dt r) 201)::(Hd++Hk)) NT (fun v H=>∃ Hk' β',eP bk tb β' Hk'/\v=.tuple #[.int .i64 (if C.down=true then 0 else ((eW p t C r).1:Nat)),.int .i64 (if C.down=true then 8 else 0)]/\H=(tr,cl (trc dt r) 201)::(Hd++Hk')):=by
 have hlk:=aKu (dt:=dt) (tr:=tr) (s:=s) h hD hlen hr hK;refine Tri.mt func18 ntmps18 fun w hw=>?_;generalize (eW p t C r).1=k at *;generalize (eW p t C r).2=l at *;generalize tI p t r (C.blks 0 (Gm.leaves p)) (C.blks (Gm.leaves p) (1+t)) D=β2 at *;(refine W.k ?_;repeat intro b_);refine aF hlk ?_;rintro _ _ (⟨hd2,rfl,rfl⟩|⟨hd2,fp,Hk2,Hf,rfl,hFo,hK2,rfl⟩)
 ·rw [if_pos hd2,if_pos hd2];(refine W.k ?_;repeat intro b_);refine Fin.to ((tr,cl (trc dt r) 201)::(Hd++Hk)) ?_;exact F.f2 ⟨Hk,D,hK,rfl,rfl⟩
 rw [if_neg (by simp [hd2]),if_neg (by simp [hd2])];obtain⟨bv,lv,cnt,Lv,ev,tv,Hx,⟨o0,o1,o2,o3,o4⟩,rfl,-⟩:=hFo;(refine W.k ?_;repeat intro b_);refine Fin.to ((tr,cl (trc dt r) 201)::(Hd++Hk2)) ?_;exact F.f2 ⟨Hk2,β2,hK2,rfl,rfl⟩
structure aNJ(pp:Nat)(Z:Nat->Hp->Prop):Prop where
 step:∀ {n H},n<12->Z n H->∀ (a:lU) us l,l.length<=maxLen->(-9223372036854775808<=a.at'/\a.at'<=9223372036854775807)->Tri prog 9 [ptv pp,.agg a.c.toArray] H (fun w=>vR (H.map Prod.fst) w a us l) (fun v H'=>v=.bool true/\Z (n+1) H')
 same:∀ {n H},Z n H->Tri prog 17 [ptv pp] H NT (fun v H'=>v=.bool true/\Z n H')
 look:∀ {n H},Z n H->∃ (i:Pid) (P T:Int) (sv rv:Value) (Hr:Hp) (n0 e0:Int),One sv/\One rv/\H=(pp,cl (oZ i P T sv rv) 52)::Hr /\
  Tri prog 18 [bsG i.d (ptv i.tr) i.s i.bk P T] Hr NT (fun v H2=>v=.tuple #[.int .i64 n0,.int .i64 e0] /\
   Tri prog 19 [aMM i.rd i.rtr i.rs P T] H2 NT (fun v' H3=>∃ v1 cv ev,One v1/\One ev/\v'=.tuple #[.agg #[.int .i64 n0,v1,.int .u64 cv,ev],.int .i64 e0]/\Z n ((pp,cl (oZ i P T sv rv) 52)::H3)))
theorem aKq{p t:Nat}(h:Gm.Ok p t)(k:LB)(hk:k.length=16)(pp:Nat):aNJ pp (fun n H=>∃ C r sr D o,nC pp p t 10 (1000*n) (Aes.sched k) (Rg.sched k) C r sr D o H/\Inv p t C r o):=by
 have hX:=aEe k hk;have hK:=wW k hk;have hK':=xR k hk;refine⟨?_,?_,?_⟩
 ·rintro n H hn ⟨C,r,sr,D,o,hP,hI⟩ a us l hl ha;refine (aGM h hP hI hK hK' oQ hX a us l hl ha).to ?_;rintro v H' ⟨rfl,σ',r',sr',β',o',hP',hI',-⟩;exact⟨H',[],by rw [aG],rfl,σ',r',sr',β',o',hP',hI'⟩
 ·rintro n H ⟨C,r,sr,D,o,hP,hI⟩;refine (aNU h hP hI).to ?_;rintro v H' ⟨rfl,β',hP'⟩;exact⟨H',[],by rw [aG],rfl,C,r,sr,β',o,hP',hI⟩
 rintro n H ⟨C,r,sr,D,o,⟨i,sv,rv,Hd,Hs,Hk,HD,HR,HS,HT,hD,hS,hB,hDR,hSR,hO,hOR,rfl⟩,hI⟩;refine⟨i,p,t,sv,rv,(i.tr,cl (trc i.d r) 201)::(i.rtr,cl (rtc i.rd r) 100)::(Hd++(Hs++(Hk++(HD++(HR++(HS++HT)))))),(if C.down=true then 0 else ((eW p t C r).1:Nat)),(if C.down=true then 8 else 0),hO.one,hOR.one,rfl,((aKw (dt:=i.d) (tr:=i.tr) (s:=i.s) h hD hI.len hI.r hB).frame (r:=(i.rtr,cl (rtc i.rd r) 100)::(Hs++(HD++(HR++(HS++HT))))) (Pre':=fun _=>True) fG (fun _ _ _=>trivial)).to ?_⟩;rintro v _ ⟨H1,rfl,Hk',β',hB',rfl,rfl⟩;refine⟨(i.tr,cl (trc i.d r) 201)::(i.rtr,cl (rtc i.rd r) 100)::(Hd++(Hs++(Hk'++(HD++(HR++(HS++HT)))))),[],by rw [aG];exact fG,rfl,?_⟩;have hZ:nC pp p t 10 (1000*n) (Aes.sched k) (Rg.sched k) C r sr β' o (tF i p t pp sv rv r Hd Hs Hk' HD HR HS HT):=⟨i,sv,rv,Hd,Hs,Hk',HD,HR,HS,HT,hD,hS,hB',hDR,hSR,hO,hOR,rfl⟩;refine ((aId (tr:=i.rtr) (sp:=i.rs) h hDR hI.len hI.r).frame (r:=(i.tr,cl (trc i.d r) 201)::(Hd++(Hs++(Hk'++(HR++(HS++HT)))))) (Pre':=fun _=>True) fG (fun _ _ _=>trivial)).to ?_;rintro v _ ⟨H1,rfl,⟨hd2,rfl,rfl⟩|⟨hd2,v1,cv,ev,Hb,rfl,oe,hBl,rfl⟩⟩
 ·rw [if_pos hd2,if_pos hd2];exact⟨(i.tr,cl (trc i.d r) 201)::(i.rtr,cl (rtc i.rd r) 100)::(Hd++(Hs++(Hk'++(HD++(HR++(HS++HT)))))),[],by rw [aG];exact fG,_,_,_,inferInstance,inferInstance,rfl,C,r,sr,β',o,hZ,hI⟩
 rw [if_neg (by simp [hd2]),if_neg (by simp [hd2])];exact⟨(i.tr,cl (trc i.d r) 201)::(i.rtr,cl (rtc i.rd r) 100)::(Hd++(Hs++(Hk'++(HD++(HR++(HS++HT)))))),_,eY.perm,v1,cv,ev,hBl.one,oe,rfl,C,r,sr,β',o,hZ,hI⟩
theorem aMn{P T:Int}(hG:¬ GoK P T)(pp:Nat):aNJ pp (fun _ H=>aB9 pp P T H):=by
 refine⟨fun _ hP a us l hl ha=>aM2 hG hP a us l hl ha,?_,?_⟩
 ·rintro n H ⟨i,C,r,Hd,HD,hD,hDR,hr,w8,rfl⟩;refine (aIo (pp:=pp) (i:=i) (P:=P) (T:=T) hD hDR hr).to ?_;rintro v H' ⟨rfl,rfl⟩;exact⟨_,[],by rw [aG],rfl,i,C,r,Hd,HD,hD,hDR,hr,w8,rfl⟩
 rintro n H ⟨i,C,r,Hd,HD,hD,hDR,hr,w8,rfl⟩;refine⟨i,P,T,.pointer none,.pointer none,_,0,1,inferInstance,inferInstance,rfl,(aI0 inferInstance dQ (aCI hG)).to ?_⟩;rintro v H' ⟨rfl,rfl⟩;refine⟨_,[],by rw [aG],rfl,(aJg hG).to ?_⟩;rintro v H' ⟨rfl,rfl⟩;exact⟨_,[],by rw [aG],_,_,_,inferInstance,inferInstance,rfl,i,C,r,Hd,HD,hD,hDR,hr,w8,rfl⟩
theorem kit(P T:Int)(hP:P<=40)(hT:T<=20)(k:LB)(hk:k.length=16){cnt:Int}(h0:0<=cnt)(h1:cnt<=18446744073709551615):Tri prog 7 [.agg #[.int .i64 P,.int .i64 T],.agg (cbs k).toArray,.int .u64 cnt] [] NT (fun v H=>∃ pp Z,v=ptv pp/\aNJ pp Z/\Z 0 H):=by
 by_cases hG:GoK P T
 ·obtain⟨p,rfl⟩:∃ p:Nat,P=p:=⟨P.toNat,by unfold GoK at hG;omega⟩;obtain⟨t,rfl⟩:∃ t:Nat,T=t:=⟨T.toNat,by unfold GoK at hG;omega⟩;have h:Gm.Ok p t:=by unfold GoK at hG;unfold Gm.Ok;omega
  have ht:=Gm.total_le2 h;refine (zY h k hk h0 h1).to ?_;rintro v H ⟨pp,rfl,hP⟩;exact⟨H,[],by rw [aG],pp,_,rfl,aKq h k hk pp,_,_,_,_,_,hP,by have:=(aAp (4*Gm.total p t) oQ).len;omega,aBn h0 h1,by simp⟩
 refine (aFy (n:=0) (aJl hG) rfl dQ k hk h0 h1).to ?_;rintro v H ⟨pp,rfl,d,tr,s,m,bk,tb,c,b,rd,rtr,rs,rc,Hd,Hb,Hc,HD,HR,hD,hB,hC,hDR,hR,rfl⟩;exact⟨(pp,cl [ptv d,ptv tr,ptv s,ptv bk,.int .i64 P,.int .i64 T,.pointer none,ptv rd,ptv rtr,ptv rs,.int .i64 P,.int .i64 T,.pointer none] 52)::(tr,cl (trc d (rg0 cnt)) 201)::(rtr,cl (rgc (rg0 cnt)++[ptv rd]) 100)::(Hd++HD),_,eY.perm,pp,_,rfl,aMn hG pp,⟨d,tr,s,bk,tb,c,b,rd,rtr,rs,rc⟩,_,rg0 cnt,Hd,HD,hD,hDR,aBn h0 h1,rfl,rfl⟩
theorem aDj(P T:Int)(k:LB)(hk:k.length=16){cnt:Int}(h0:0<=cnt)(h1:cnt<=18446744073709551615)(a:Option Addr)(len cap:Nat)(ys:LV)(hml0:len<=maxLen):Tri prog 5 [.agg #[.int .i64 P,.int .i64 T],.agg (cbs k).toArray,.int .u64 cnt,.slice a len cap] [] (fun w=>yB w a len cap ys) (fun v H=>v=.bool true):=by
 have hkit:=fun P T hP hT=>kit P T hP hT k hk h0 h1;refine Tri.mt func5 ntmps5 fun w hw=>?_;obtain⟨hrd0,hops⟩:=hw;obtain⟨a',len',cap',he,hyl,hcap,hrd⟩:=hrd0.get;cases he;have hml:len<=9223372036854775807:=cZ hml0 dQ;have hk0:(cbs k).length=16:=by rw [aI];exact hk
 rcases (show 40<P\/(¬ 40<P/\20<T)\/(¬ 40<P/\¬ 20<T) by omega) with g1|⟨g1,g2⟩|⟨g1,g2⟩;all_goals
  (refine W.k ?_;repeat intro b_)
 iterate 2
  refine W.cw xS ?_;repeat intro b_
  rotate_left
 all_goals
  refine aF (hkit _ _ ?_ ?_) ?_
  ·omega
  ·omega
  rintro _ H1 ⟨pp,Z,rfl,hkt,hZ⟩;clear hkit;(refine W.j ?_;repeat intro b_);refine bP [] H1 (fun _:Hp=>[]) (fun y=>y) NT ?_ ?_
  ·(refine W.k ?_;repeat intro b_);refine bE [9,29,30] (fun y:Nat×Hp=>[(31,.int .i64 (y.1:Int))]) (fun y=>y.2) (fun y=>len-y.1) (fun y=>y.1<=len/\y.1<=12/\Z y.1 y.2) (0,H1) ⟨Nat.zero_le _,Nat.zero_le _,hZ⟩ ?_;clear hZ;rintro⟨ii,H⟩ ⟨hi,hi12,hZ⟩;dsimp only at hi hi12 hZ |-;by_cases hil:ii<len
   ·obtain⟨ad,ho,hrow⟩:=hops ii hil;obtain⟨blk0,ob,lr,TT,fz,rfl,hb,hbk,hys⟩:=hrd oQ;have hrow2:=(aEW hys hil).trans hrow;have hol:ad.c.length=9:=rfl;obtain⟨us,l,hA,hl⟩:=ho.k;have hoc:OC ad.c:=hA.one;by_cases c12:12<=ii
    ·(refine W.k ?_;repeat intro b_);refine bS.mk H ?_;exact trivial
    have hst:=hkt.step oQ hZ ad us l hl (by have:=ho.i;exact⟨this.1,this.2⟩);(refine W.k ?_;repeat intro b_);refine aF hst ?_ (hpre:=fun w2 hs=>hA.ro (Hc:=H) hs);rintro _ H2 ⟨rfl,hZ2⟩;have hsm:=hkt.same hZ2;(refine W.k ?_;repeat intro b_);refine aF hsm ?_;rintro _ H3 ⟨rfl,hZ3⟩;obtain⟨i,P2,T2,sv,rv,Hr,n0,e0,os,ot,rfl,hl1⟩:=hkt.look hZ3;clear hst hsm hZ hZ2 hZ3;(refine W.k ?_;repeat intro b_);refine aF hl1 ?_;rintro _ H4 ⟨rfl,hl2⟩;clear hl1;(refine W.k ?_;repeat intro b_);refine aF hl2 ?_;rintro _ H5 ⟨v1,cv,ev,o1,o2,rfl,hZ5⟩;clear hl2;(refine W.k ?_;repeat intro b_);refine aN.mk (ii+1,(pp,cl (oZ i P2 T2 sv rv) 52)::H5) ?_;exact⟨hil,by dsimp only;omega,hZ5⟩
   (refine W.k ?_;repeat intro b_);refine bS.mk H ?_;exact trivial
  rintro H3 -;(refine W.k ?_;repeat intro b_);refine W.cw aAU ?_;repeat intro b_
  refine Fin.to [] ?_;exact F.f1 rfl
end
end Go.Proofs.YtdfclocfackkmaaGreat
