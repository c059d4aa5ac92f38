/- A Meta's blocks, or that there are none: the law. -/
import Derived.Test.YtnigolgkkjidiaaGreatPr20
import Derived.Test.YtnigolgkkjidiaaGreatPr18
import Derived.Test.YtnigolgkkjidiaaGreatPr11
import Derived.Test.YtnigolgkkjidiaaGreatPr16
set_option linter.unusedVariables false
set_option linter.unusedSimpArgs false
set_option linter.unusedSectionVars false
set_option maxHeartbeats 8000000
namespace Go.Proofs.YtnigolgkkjidiaaGreat
open Go Go.Proofs.Tryz
section
attribute [local irreducible] SW SL SQ SH SA SS Pu Fin bZ aT
def PvQ(ps:List Pg)(a:Option Addr)(len cap:Nat)(pv:Value)(qs:List Pg)(H:Hp):Prop:=Sl 177 5 pv (dK qs) H∨(H=[]∧pv=.slice a (min 70 len) cap∧qs=ps.take 70)
theorem PvQ.rd{w0 w:World}{H Hc r:Hp}{ps qs:List Pg}{a:Option Addr}{len cap:Nat}{pv:Value}(h:PvQ ps a len cap pv qs Hc)(hp:Rd [] w0 5 (.slice a len cap) (dK ps))(hs:St [] w0 H w) [hq:fI H Hc r]:Rd [] w 5 pv (dK qs):=by
 rcases h with h|⟨rfl,rfl,rfl⟩
 ·exact Rd.own (Hc:=[]) h hs hq
 ·exact (hp.preQ 70).ro (Hc:=[]) hs
theorem PvQ.form{w:World}{H:Hp}{ps qs:List Pg}{a:Option Addr}{len cap:Nat}{pv:Value}(h:PvQ ps a len cap pv qs H)(hp:Rd [] w 5 (.slice a len cap) (dK ps)):∃ a' c,pv=.slice a' qs.length c∧(0<qs.length→∃ kb ko,a'=some ⟨kb,ko,none⟩):=by
 rcases h with h|⟨rfl,rfl,rfl⟩
 ·by_cases h0:qs.length=0
  ·obtain⟨a',l',c',rfl,hl⟩:=h.form
   have hl5:=rI qs
   have:l'=qs.length:=om
   subst this
   exact⟨a',c',rfl,fun h=>absurd h om⟩
  ·obtain⟨b,l',c',j,rfl,h1,-,-,-⟩:=h.some (by rw [rI];omega)
   have hl5:=rI qs
   have:l'=qs.length:=om
   subst this
   exact⟨_,c',rfl,fun _=>⟨b,0,rfl⟩⟩
 ·obtain⟨a',l',c',he,h1,h2,h3⟩:=(hp.preQ 70).get
  have hl5:=rI (ps.take 70)
  cases he
  have:min 70 len=(ps.take 70).length:=om
  rw [this] at h3 ⊢
  exact⟨a,cap,rfl,fun h=>by obtain⟨b,o,-,-,-,hb,-⟩:=h3 h;exact⟨b,o,hb⟩⟩
theorem aMU{P T n:Int}{l:List Int}(hl:l.length=16){ps:List Pg}(hser:∀ q∈ps,aAg q)(a:Option Addr)(len cap:Nat)(full:Bool) :
  Tri prog 26 [geV P T,.agg (bF n l (.slice a len cap)).toArray,.bool full] [] (fun w=>Rd [] w 5 (.slice a len cap) (dK ps)) (fun r H=>∃ pv qs,r=.agg (bF n l pv).toArray∧PvQ ps a len cap pv qs H∧qs.length≤1000000∧∀ q∈qs,aAg q):=by
 have hx:∀ r:Bool,(r&&full)=false→Tri prog 27 [geV P T] [] (fun _=>True) (fun v H=>v=.bool r∧H=[])→Tri prog 26 [geV P T,.agg (bF n l (.slice a len cap)).toArray,.bool full] [] (fun w=>Rd [] w 5 (.slice a len cap) (dK ps)) (fun r H=>∃ pv qs,r=.agg (bF n l pv).toArray∧PvQ ps a len cap pv qs H∧qs.length≤1000000∧∀ q∈qs,aAg q):=fun r hr hm=>
  (aGV (full:=full) hm hr n l hl ps a len cap).mono fun v H h=>⟨_,_,h.1,.inr ⟨h.2,rfl,rfl⟩,by rw [aD];omega,fun q hq=>hser q (cX hq)⟩
 by_cases hg:GoK P T
 ·obtain⟨p,t,rfl,rfl,hG⟩:=aGR hg
  cases full with
  | true=>
   obtain⟨g1,g2,g3,g4⟩:=id hG
   exact (aGU hG n l hl ps a len cap).mono fun v H h=>by
    obtain⟨pv,h1,h2⟩:=h
    exact⟨pv,_,h1,.inl h2,by rw [aC1];omega,aC2 hser⟩
  | false=>exact hx true rfl (oM hG)
 ·exact hx false rfl (tU hg)
theorem aNl(P T:Int):∃ (n:Int) (l:List Int) (qs:List Pg),l.length=16∧qs.length≤1000000∧Tri prog 37 [geV P T] [] (fun _=>True) (fun v H=>∃ pv,v=.agg (bF n l pv).toArray∧Sl 185 5 pv (dK qs) H)∧Tri prog 38 [geV P T] [] (fun _=>True) (fun v H=>∃ pv,v=.agg (bF n l pv).toArray∧Sl 177 5 pv (dK qs) H):=by
 by_cases hg:GoK P T
 ·obtain⟨p,t,rfl,rfl,hG⟩:=aGR hg
  obtain⟨g1,g2,g3,g4⟩:=id hG
  exact⟨1,z16,zpg p,rfl,by rw [aM];omega,aGW hG,aHc hG⟩
 ·exact⟨0,z16,[],rfl,by decide,(aJl hg).mono fun v H h=>⟨_,h.1,by rw [h.2];exact Sl.nil _ _⟩,(aJV hg).mono fun v H h=>⟨_,h.1,by rw [h.2];exact Sl.nil _ _⟩⟩
theorem aF2{p:Nat}{n:Int}{l:List Int}{ps:List Pg}(h:lI p n l ps=true):ps.length=p:=by
 unfold lI at h
 rw [bL] at h
 exact of_decide_eq_true h.1
theorem aEl(haw:Tri prog 29 [] [] (fun _=>True) (fun v H=>v=.bool true∧H=[]))
  (P T n:Int) (l:List Int) (hl:l.length=16) (hn:isU n) (hu:∀ h∈l,isU h) (ps:List Pg) (hser:∀ q∈ps,aAg q) (a:Option Addr) (len cap:Nat) (full:Bool) :
  Tri prog 7 [geV P T,.agg (bF n l (.slice a len cap)).toArray,.bool full] [] (fun w=>Rd [] w 5 (.slice a len cap) (dK ps)) (fun v H=>v=.bool true):=by
 refine Tri.mk func7 rfl ntmps7 rfl fun w hw=>?_
 have hp:=hw
 have f1:=eU n l hl (.slice a len cap)
 have o1:OC (bF n l (.slice a len cap)):=inferInstance
 have hc:=aMU (P:=P) (T:=T) (n:=n) hl hser a len cap full
 generalize bF n l (.slice a len cap)=X at *
 refine W.k fun _ b_=>?_
 rename_i bg
 refine aL hc ?_ (hpre:=fun w2 hs=>hp.ro (Hc:=[]) hs)
 rintro _ H1 ⟨pv,qs,rfl,hP,hqn,hqs⟩
 obtain⟨pa,pc,rfl,hpf⟩:=hP.form hp
 have f2:=eU n l hl (.slice pa qs.length pc)
 have o2:OC (bF n l (.slice pa qs.length pc)):=inferInstance
 have hO:=aLg n l hl qs (.slice pa qs.length pc) hqn
 by_cases hok:∃ p t:Nat,P=p∧T=t∧Gm.Ok p t∧lI p n l qs=true
 ·obtain⟨p,t,rfl,rfl,hG,hok⟩:=hok
  obtain⟨g1,g2,g3,g4⟩:=id hG
  have hql:=aF2 hok
  obtain⟨kb,ko,rfl⟩:=hpf om
  rw [hql] at hP f2 o2 hO ⊢
  have hM:=yQ hG (n:=n) hl hu hn.1 qs hqn (.slice (some ⟨kb,ko,none⟩) p pc)
  rw [hok] at hM
  have hrB:=xS hG hl hu hn qs hql hqs (kb:=kb) (ko:=ko) (cap:=pc)
  have hmB:=fun z c=>aHN hG (n:=n) (l:=l) hl hu qs (kb:=z) (ko:=0) (cap:=c) hok
  have hBl:=aDa p n l qs
  have hB6:=@aC9 p n l qs
  have hPm:=fun bv us Hb Hs (hb:Sl 50 1 bv us Hb) (hR:RB Hs us (vA p n l qs))=>aBW hG hb (gC n l) (aB6 p qs) hR (aDi p qs) (fun b hb=>hB6 b hb)
  rw [aHO hl hu hok] at hPm
  have hm18:=fun v=>eU n l hl v
  have hpl:=fun v=>zO n l hl qs v hqn
  have hrs:=fun v=>aBn n n l l hl hl qs qs v (.slice (some ⟨kb,ko,none⟩) p pc) hqn
  have hms:=fun v u=>aGX n n l l hl hl qs qs v u hqn
  generalize bF n l (.slice (some ⟨kb,ko,none⟩) p pc)=X2 at *
  generalize vA p n l qs=bss at *
  have hup:=@yV p
  generalize hMM:Gm.up p 16=M at *
  refine W.k ?_
  (refine SW.l [3] [0,1] ?_;refine aX 2 ?_)
  refine aL hO ?_ (hpre:=fun w2 hs=>hP.rd hp hs)
  rintro _ H2 ⟨qv,rfl,hq⟩
  obtain⟨z,zl,zc,zj,rfl,hz1,hz2,hz3,rfl⟩:=hq.some (by rw [rI];omega)
  have hzl:p=zl:=by rw [rI] at hz1;omega
  subst hzl
  have f3:=hm18 (.slice (some ⟨z,0,none⟩) p zc)
  have o3:OC (bF n l (.slice (some ⟨z,0,none⟩) p zc)):=inferInstance
  have hS2:Sl 185 5 (.slice (some ⟨z,0,none⟩) p zc) (dK qs) [(z,cl (dK qs++zj) 185)]:=Sl.mk hz1 om hz3
  have hmB:=hmB z zc
  generalize bF n l (.slice (some ⟨z,0,none⟩) p zc)=X3 at *
  (refine bO [] ?_;refine cB 3 ?_)
  refine aL hmB ?_ (hpre:=fun w2 hs=>Rd.own (Hc:=[]) hS2 hs inferInstance)
  rintro _ _ ⟨bv,us,Hb,Hs,rfl,hbS,hR,rfl⟩
  have hus:us.length=1+M:=by rw [hR.1,hBl]
  have hPm:=hPm bv us Hb Hs hbS hR
  obtain⟨q,ql,qc,qj,rfl,hq1,hq2,hq3,rfl⟩:=hbS.some om
  have hqM:1+M=ql:=om
  subst hqM
  (refine SL.l [4,5,6,7,8,9] ?_)
  refine W.k ?_
  refine W.cw hM ?_ (hpre:=fun w2 hs=>hP.rd hp hs)
  refine aL hrB ?_ (hpre:=fun w2 hs=>hP.rd hp hs)
  rintro wv _ ⟨vs,Hb',Hs',hwS,hR',rfl⟩
  have hvs:vs.length=1+M:=by rw [hR'.1,hBl]
  obtain⟨y,yl,yc,yj,rfl,hy1,hy2,hy3,rfl⟩:=hwS.some om
  have hyM:1+M=yl:=om
  subst hyM
  refine W.j ?_
  refine SW.block ?_
  refine bN [3,4,7,9,59] (fun x:Nat=>[(60,.int .i64 x)]) (fun x=>[]) (fun x=>1+M-x) (fun x=>x≤1+M) 0 (Nat.zero_le _) ?_
  rintro i hi
  try dsimp only at hi ⊢
  by_cases hin:i<1+M
  ·obtain⟨b,hbi⟩:∃ b,bss[i]?=some b:=⟨_,aA om⟩
   obtain⟨v1,hv1,hr1⟩:=hR.2 i b hbi
   obtain⟨v2,hv2,hr2⟩:=hR'.2 i b hbi
   have hv11:=hr1.one
   have hv21:=hr2.one
   have hc1:(us++qj)[i]?=some v1:=by rw [aN om];exact hv1
   have hc2:(vs++yj)[i]?=some v2:=by rw [aN om];exact hv2
   have hn1:i<(us++qj).length:=by rw [aC];omega
   have hn2:i<(vs++yj).length:=by rw [aC];omega
   refine W.k ?_
   (refine SW.l [] [0,1,2,3] ?_;refine oE hr1 4 [] rfl ?_;refine SG.l [5,6,7,8] ?_;refine oE hr2 9 [] rfl ?_;refine dL 10 rfl (aD2 rfl rfl rfl rfl) ?_;refine eI ?_)
   refine W.k ?_
   refine aT.mk (i+1) ?_
   exact hin
  ·have hie:i=1+M:=om
   subst hie
   refine W.k ?_
   refine aL hPm ?_
   rintro _ _ ⟨Hn,⟨xv,rfl,hx⟩,rfl⟩
   dsimp only at hx
   have hx1:=hx.isOne
   have f4:=hm18 xv
   have o4:OC (bF n l xv):=inferInstance
   refine W.k fun b_=>?_
   (refine SW.l [6,12,15] [0,1,2,3,5] ?_;(first|refine cI 4 rfl ?_;(first|refine cI 6 rfl ?_;refine SG.l [7,8,9,10] ?_;(first|refine cI 11 rfl ?_;(first|refine cI 12 rfl ?_;refine SG.l [13,14] ?_;(first|refine cI 15 rfl ?_;refine SG.l [16,17,18] ?_|refine cB 15 ?_)|refine cB 12 ?_)|refine aX 11 ?_)|refine cB 6 ?_)|refine aX 4 ?_))
   refine aL (hpl xv) ?_ (hpre:=fun w2 hs=>Rd.own (Hc:=[]) hx hs inferInstance)
   rintro _ H5 ⟨uv,rfl,h5⟩
   have h51:=h5.isOne
   (refine bO [] ?_;(first|refine cI 6 rfl ?_;refine SG.l [7,8,9,10] ?_;(first|refine cI 11 rfl ?_;(first|refine cI 12 rfl ?_;refine SG.l [13,14] ?_;(first|refine cI 15 rfl ?_;refine SG.l [16,17,18] ?_|refine cB 15 ?_)|refine cB 12 ?_)|refine aX 11 ?_)|refine cB 6 ?_))
   refine W.cq (hrs uv) ?_ (hpre:=fun w2 hs=>⟨Rd.own (Hc:=[]) h5 hs inferInstance,hP.rd hp hs⟩)
   rw [decide_eq_true (show n=n∧l=l∧qs=qs from ⟨rfl,rfl,rfl⟩)]
   (refine SL.l [7,8,9,10] ?_;(first|refine cI 11 rfl ?_;(first|refine cI 12 rfl ?_;refine SG.l [13,14] ?_;(first|refine cI 15 rfl ?_;refine SG.l [16,17,18] ?_|refine cB 15 ?_)|refine cB 12 ?_)|refine aX 11 ?_))
   refine aL hO ?_ (hpre:=fun w2 hs=>hP.rd hp hs)
   rintro _ H6 ⟨ov,rfl,h6⟩
   have h61:=h6.isOne
   (refine bO [] ?_;(first|refine cI 12 rfl ?_;refine SG.l [13,14] ?_;(first|refine cI 15 rfl ?_;refine SG.l [16,17,18] ?_|refine cB 15 ?_)|refine cB 12 ?_))
   refine W.cq (hms xv ov) ?_ (hpre:=fun w2 hs=>⟨Rd.own (Hc:=[]) hx hs inferInstance,Rd.own (Hc:=[]) h6 hs inferInstance⟩)
   rw [decide_eq_true (show n=n∧l=l∧qs=qs from ⟨rfl,rfl,rfl⟩)]
   (refine SL.l [13,14] ?_;(first|refine cI 15 rfl ?_;refine SG.l [16,17,18] ?_|refine cB 15 ?_))
   refine W.cq haw ?_
   (refine SL.l [16,17,18] ?_)
   refine W.k ?_
   refine Fin.to [] ?_
   exact F.f1 rfl
 ·have hN:(Tri prog 36 [geV P T,.agg (bF n l (.slice pa qs.length pc)).toArray] [] (fun w=>Rd [] w 5 (.slice pa qs.length pc) (dK qs)) (fun v H=>v=.bool false∧H=[]))∧∀ qv,One qv→Tri prog 34 [geV P T,.agg (bF n l qv).toArray] [] (fun w=>Rd [] w 5 qv (dK qs)) (fun v H=>v=.tuple #[.slice none 0 0,.int .i64 1]∧H=[]):=by
   by_cases hg:GoK P T
   ·obtain⟨p,t,rfl,rfl,hG⟩:=aGR hg
    have hno:lI p n l qs=false:=by
     cases h:lI p n l qs with
     | false=>rfl
     | true=>exact absurd ⟨p,t,rfl,rfl,hG,h⟩ hok
    refine⟨?_,fun qv _=>aFY hG hl hu hn qs hqn qv hno⟩
    have h:=yQ hG (n:=n) hl hu hn.1 qs hqn (.slice pa qs.length pc)
    rw [hno] at h
    exact h
   ·exact⟨fun w ho _=>aD6 hg hl (.slice pa qs.length pc) w ho trivial,fun qv _ w ho _=>aE3 hg hl w ho trivial⟩
  obtain⟨hM,hmB⟩:=hN
  obtain⟨n',l',zs',hl',hzn,hNw,hrN⟩:=aNl P T
  have hm18:=fun v=>eU n l hl v
  have hm18':=fun v=>eU n' l' hl' v
  have hpl:=fun v=>zO n' l' hl' zs' v hzn
  have hrs:=fun v u=>aBn n' n' l' l' hl' hl' zs' zs' v u hzn
  generalize bF n l (.slice pa qs.length pc)=X2 at *
  clear hok hpf
  refine W.k ?_
  (refine SW.l [3] [0,1] ?_;refine aX 2 ?_)
  refine aL hO ?_ (hpre:=fun w2 hs=>hP.rd hp hs)
  rintro _ H2 ⟨qv,rfl,hq⟩
  have hq1:=hq.isOne
  have f3:=hm18 qv
  have o3:OC (bF n l qv):=inferInstance
  have hmB:=hmB qv inferInstance
  generalize bF n l qv=X3 at *
  (refine bO [] ?_;refine cB 3 ?_)
  refine W.cq hmB ?_ (hpre:=fun w2 hs=>Rd.own (Hc:=[]) hq hs inferInstance)
  (refine SL.l [4,5,6,7,8,9] ?_)
  refine W.k ?_
  refine W.cw hM ?_ (hpre:=fun w2 hs=>hP.rd hp hs)
  (refine SW.l [12,13,16] [0,1,2,3,4,5,6,7,8,11] ?_;(first|refine cI 9 rfl ?_;(first|refine cI 10 rfl ?_;(first|refine cI 12 rfl ?_;(first|refine cI 13 rfl ?_;refine SG.l [14,15] ?_;(first|refine cI 16 rfl ?_;refine SG.l [17,18,19] ?_|refine cB 16 ?_)|refine cB 13 ?_)|refine cB 12 ?_)|refine aX 10 ?_)|refine aX 9 ?_))
  refine aL hNw ?_
  rintro _ H3 ⟨nv,rfl,h3⟩
  have h31:=h3.isOne
  have f4:=hm18' nv
  have o4:OC (bF n' l' nv):=inferInstance
  (refine bO [] ?_;(first|refine cI 10 rfl ?_;(first|refine cI 12 rfl ?_;(first|refine cI 13 rfl ?_;refine SG.l [14,15] ?_;(first|refine cI 16 rfl ?_;refine SG.l [17,18,19] ?_|refine cB 16 ?_)|refine cB 13 ?_)|refine cB 12 ?_)|refine aX 10 ?_))
  refine aL (hpl nv) ?_ (hpre:=fun w2 hs=>Rd.own (Hc:=[]) h3 hs inferInstance)
  rintro _ H4 ⟨uv,rfl,h4⟩
  have h41:=h4.isOne
  (refine bO [] ?_;(first|refine cI 12 rfl ?_;(first|refine cI 13 rfl ?_;refine SG.l [14,15] ?_;(first|refine cI 16 rfl ?_;refine SG.l [17,18,19] ?_|refine cB 16 ?_)|refine cB 13 ?_)|refine cB 12 ?_))
  refine aL hrN ?_
  rintro _ H5 ⟨ov,rfl,h5⟩
  have h51:=h5.isOne
  (refine bO [] ?_;(first|refine cI 13 rfl ?_;refine SG.l [14,15] ?_;(first|refine cI 16 rfl ?_;refine SG.l [17,18,19] ?_|refine cB 16 ?_)|refine cB 13 ?_))
  refine W.cq (hrs uv ov) ?_ (hpre:=fun w2 hs=>⟨Rd.own (Hc:=[]) h4 hs inferInstance,Rd.own (Hc:=[]) h5 hs inferInstance⟩)
  rw [decide_eq_true (show n'=n'∧l'=l'∧zs'=zs' from ⟨rfl,rfl,rfl⟩)]
  (refine SL.l [14,15] ?_;(first|refine cI 16 rfl ?_;refine SG.l [17,18,19] ?_|refine cB 16 ?_))
  refine W.cq haw ?_
  (refine SL.l [17,18,19] ?_)
  refine W.k ?_
  refine Fin.to [] ?_
  exact F.f1 rfl
end
end Go.Proofs.YtnigolgkkjidiaaGreat
