/- A head's block, and a page's, of noughts. -/
import Derived.Test.YtnigolgkkjidiaaGreatPr10
import Derived.Test.YtnigolgkkjidiaaGreatPr8
import Derived.Test.YtnigolgkkjidiaaGreatPr7
import Derived.Test.YtnigolgkkjidiaaGreatPr9
import Derived.Test.YtnigolgkkjidiaaGreatPr5
import Derived.Test.YtnigolgkkjidiaaGreatPr0
set_option linter.unusedVariables false
set_option linter.unusedSimpArgs false
set_option linter.unusedSectionVars false
set_option maxHeartbeats 1000000
namespace Go.Proofs.YtnigolgkkjidiaaGreat
open Go Go.Proofs.Tryz
section
attribute [local irreducible] SW SL SQ SH SA SS Pu Fin bZ aT
def bP(next:Int)(l:List Int):List Value:=.int .u64 next::l.map fun h=>.int .u64 h
theorem bU(n:Int)(l:List Int):(bP n l).length=l.length+1:=by unfold bP;rw [aW,aE]
instance rootC_one(n:Int)(l:List Int):OC (bP n l):=⟨fun v hv=>by
 rcases cT.1 hv with rfl|hv
 ·rfl
 ·obtain⟨h,-,rfl⟩:=bG.1 hv
  rfl⟩
instance pgsC_one(ps:List Pg):OC (dK ps):=⟨fun v hv=>by
 obtain⟨l,hl,hv⟩:=List.mem_flatten.1 hv
 obtain⟨p,-,rfl⟩:=bG.1 hl
 exact (pgC_one p).ok v hv⟩
theorem aJO(ps:List Pg)(hn:ps.length≤100000)(b o len cap:Nat):Tri prog 79 [.slice (some ⟨b,o,none⟩) len cap] [] (fun w=>Rd [] w 5 (.slice (some ⟨b,o,none⟩) len cap) (dK ps)) (fun r H=>Sl 185 5 r (dK ps) H):=by
 refine Tri.mk func79 rfl ntmps79 rfl fun w hw=>?_
 have hw2:=hw
 have hpl:(dK ps).length=ps.length*5:=by
  rw [eD (n:=5) fun x hx=>by obtain⟨y,-,rfl⟩:=bG.1 hx;exact dW y,aE]
 obtain⟨a,len',cap',he,hl,hc,hr⟩:=hw.get
 cases he
 refine W.k fun b_=>?_
 have h0:Sl 185 5 (.slice (some ⟨b_,0,none⟩) 0 0) [] [(b_,cl ([]:List Value) 185)]:=Sl.mk (xs:=[]) (junk:=[]) (len:=0) (cap:=0) rfl rfl (Nat.le_refl _)
 refine W.ap h0 (fun w2 hs=>hw2.srcAt hs) (fun v1 H1 h1=>?_) (hys:=hl) (hbytes:=by rw [hpl];simp;omega)
 have h11:=h1.isOne
 rw [List.nil_append] at h1
 refine W.k ?_
 refine Fin.to H1 ?_
 exact F.f1 h1
def tI(next:Int)(p:Pg):Bool:=decide (p.kind=2∧next≤p.ser)
theorem aNf{m:Nat}{next:Int}{l:List Int}{pv:Value}{T:TypeId}(p:Pg)(hl:l.length=16) [One pv]:Tri prog 156 [.agg (pgC p).toArray,ptv m] [(m,cl (bP next l++[pv]) 91)] (fun _=>True) (fun v H=>v=.bool (tI next p)∧H=[(m,cl (bP next l++[pv]) 91)]):=by
 refine Tri.mk func156 rfl ntmps156 rfl fun w hw=>?_
 have hpl:=dW p
 have hk:(pgC p)[0]?=some (.int .i64 p.kind):=rfl
 have hs:(pgC p)[4]?=some (.int .u64 p.ser):=rfl
 have hm:(bP next l++[pv])[0]?=some (.int .u64 next):=rfl
 have hpo:OC (pgC p):=inferInstance
 have hf:OC (bP next l++[pv]):=inferInstance
 unfold tI
 generalize pgC p=Z at *
 generalize hY:bP next l++[pv]=Y at *
 by_cases h2:p.kind=2
 ·by_cases h3:next≤p.ser
  ·rw [decide_eq_true ⟨h2,h3⟩]
   refine W.k fun b_=>?_
   refine Fin.to [(m,cl Y 91)] ?_
   exact F.f1 ⟨rfl,rfl⟩
  ·rw [decide_eq_false fun hh=>h3 hh.2]
   refine W.k fun b_=>?_
   refine Fin.to [(m,cl Y 91)] ?_
   exact F.f1 ⟨rfl,rfl⟩
 ·rw [decide_eq_false fun hh=>h2 hh.1]
  refine W.k fun b_=>?_
  refine Fin.to [(m,cl Y 91)] ?_
  exact F.f1 ⟨rfl,rfl⟩
theorem aLk(p:Pg):Tri prog 82 [.agg (pgC p).toArray] [] (fun _=>True) (fun v H=>v=.bool (decide (p≠.pl 0))∧H=[]):=by
 refine Tri.mk func82 rfl ntmps82 rfl fun w hw=>?_
 have hpl:=dW p
 have hb:(pgC (.pl 0)).toArray=(pgC (.pl 0)).toArray:=rfl
 by_cases h:p=.pl 0
 ·rw [decide_eq_false (fun hh=>hh h)]
  refine W.k fun b_=>?_
  refine bJ (wZ rfl rfl rfl (gB p) (gB (.pl 0)) (by rw [h];rfl)) rfl rfl ?_
  refine W.k ?_
  exact F.n
 ·rw [decide_eq_true h]
  refine W.k fun b_=>?_
  refine bJ (zT rfl rfl rfl (gB p) (gB (.pl 0)) (fun hh=>h (oK hh))) rfl rfl ?_
  refine W.k ?_
  exact F.n
abbrev zpg(n:Nat):List Pg:=List.replicate n (.pl 0)
def aCA:List Nat:=[8,16,24,32,48,64,96,120]
def oA(c:Int):Int:=if 0≤c∧c<8 then (aCA.getD c.toNat 0:Nat) else 0
theorem aK5(c:Int):Tri prog 289 [.int .i64 c] [] (fun _=>True) (fun v H=>v=.int .i64 (oA c)∧H=[]):=by
 refine Tri.mk func289 rfl ntmps289 rfl fun w hw=>?_
 have hb:bQ (fun i=>some (i*1,1)) (List.replicate 8 (.int .i64 0)) [(0,.int .i64 8),(1,.int .i64 16),(2,.int .i64 24),(3,.int .i64 32),(4,.int .i64 48),(5,.int .i64 64),(6,.int .i64 96),(7,.int .i64 120)]=some (aCA.map fun n:Nat=>(.int .i64 (n:Int):Value)):=rfl
 have hll:(aCA.map fun n:Nat=>(.int .i64 (n:Int):Value)).length=8:=rfl
 refine W.j ?_
 refine SW.block ?_
 refine W.j ?_
 refine bV [0,5] [] (fun i:Nat=>[(6,.int .i64 (i:Int))]) (fun _=>[]) (fun i=>8-i) (fun i=>i≤8∧∀ j:Nat,j<i→(j:Int)≠c) 0 ⟨by decide,fun j hj=>absurd hj (jL _)⟩ ?_
 rintro i ⟨hi,hno⟩
 by_cases hin:i<8
 ·have hidx:(aCA.map fun n:Nat=>(.int .i64 (n:Int):Value))[i]?=some (.int .i64 ((aCA.getD i 0:Nat):Int)):=by
   rw [aH,aA (show i<aCA.length from hin),aF,aA (show i<aCA.length from hin)];rfl
  by_cases hc:(i:Int)=c
  ·have hs:oA c=((aCA.getD i 0:Nat):Int):=by
    unfold oA
    rw [if_pos om,← hc,bK]
   rw [hs]
   generalize aCA.map (fun n:Nat=>(.int .i64 (n:Int):Value))=Z at *
   refine W.k ?_
   exact F.n
  ·generalize aCA.map (fun n:Nat=>(.int .i64 (n:Int):Value))=Z at *
   refine W.k ?_
   refine aT.mk (i+1) ?_
   refine⟨hin,fun j hj=>?_⟩
   by_cases hji:j=i
   ·rw [hji];exact hc
   ·exact hno j om
 ·have hs:oA c=0:=by
   unfold oA
   rw [if_neg]
   rintro⟨h1,h2⟩
   exact hno c.toNat om om
  rw [hs]
  refine W.k ?_
  exact F.n
def iS(n:Int):Int:=if n≤120∨4096<n then 0 else (n+255)/256
theorem aIR(n:Int):Tri prog 290 [.int .i64 n] [] (fun _=>True) (fun v H=>v=.tuple #[.int .i64 (iS n),.bool (decide (120<n∧n≤4096))]∧H=[]):=by
 refine Tri.mk func290 rfl ntmps290 rfl fun w hw=>?_
 unfold iS
 by_cases h1:n≤120
 ·rw [if_pos (.inl h1),decide_eq_false om]
  refine W.k ?_
  exact F.m
 ·by_cases h2:4096<n
  ·rw [if_pos (.inr h2),decide_eq_false om]
   refine W.k ?_
   exact F.m
  ·rw [if_neg om,decide_eq_true om]
   refine W.k ?_
   rw [show n+256-1=n+255 by omega]
   exact F.m
def b0(p:Pg):Bool:=decide (p=.pl 0)
def b1(p:Pg):Bool:=decide (p=⟨1,p.cls,0,0,0⟩∧0<oA p.cls)
def b2(p:Pg):Bool:=decide (120<p.size∧p.size≤4096∧p=⟨2,0,iS p.size,p.size,p.ser⟩∧0<p.ser∧p.ser≤281474976710655)
def b3(p:Pg):Bool:=decide (p=.pl 3)
def fJ(p:Pg):Bool:=b0 p||b1 p||b2 p||b3 p
theorem aLP(p:Pg):Tri prog 263 [.agg (pgC p).toArray] [] (fun _=>True) (fun v H=>v=.bool (b1 p)∧H=[]):=by
 refine Tri.mk func263 rfl ntmps263 rfl fun w hw=>?_
 have hpl:=dW p
 have hb:bQ (fun i=>[(0,1),(1,1),(2,1),(3,1),(4,1)][i]?) ([.int .i64 0]++[.int .i64 0]++[.int .i64 0]++[.int .i64 0]++[.int .u64 0]) [(0,.int .i64 1),(1,.int .i64 p.cls)]=some (pgC ⟨1,p.cls,0,0,0⟩):=rfl
 have hc:=aK5 p.cls
 unfold b1
 by_cases h1:p=⟨1,p.cls,0,0,0⟩
 ·by_cases h2:0<oA p.cls
  ·rw [decide_eq_true ⟨h1,h2⟩]
   refine W.k fun b_=>?_
   refine bJ (lS rfl rfl rfl (gB p) (gB ⟨1,p.cls,0,0,0⟩) (congrArg pgC h1)) rfl rfl ?_
   refine W.k ?_
   refine W.cw hc ?_
   exact F.n
  ·rw [decide_eq_false fun h=>h2 h.2]
   refine W.k fun b_=>?_
   refine bJ (lS rfl rfl rfl (gB p) (gB ⟨1,p.cls,0,0,0⟩) (congrArg pgC h1)) rfl rfl ?_
   refine W.k ?_
   refine W.cw hc ?_
   exact F.n
 ·rw [decide_eq_false fun h=>h1 h.1]
  refine W.k fun b_=>?_
  refine bJ (nC rfl rfl rfl (gB p) (gB ⟨1,p.cls,0,0,0⟩) (fun hh=>h1 (oK hh))) rfl rfl ?_
  refine W.k ?_
  exact F.n
theorem aI7(p:Pg):Tri prog 264 [.agg (pgC p).toArray] [] (fun _=>True) (fun v H=>v=.bool (b2 p)∧H=[]):=by
 refine Tri.mk func264 rfl ntmps264 rfl fun w hw=>?_
 have hpl:=dW p
 have hb:bQ (fun i=>[(0,1),(1,1),(2,1),(3,1),(4,1)][i]?) ([.int .i64 0]++[.int .i64 0]++[.int .i64 0]++[.int .i64 0]++[.int .u64 0]) [(0,.int .i64 2),(2,.int .i64 (iS p.size)),(3,.int .i64 p.size),(4,.int .u64 p.ser)]=some (pgC ⟨2,0,iS p.size,p.size,p.ser⟩):=rfl
 have hc:=aIR p.size
 have e4:(pgC p)[4]?=some (.int .u64 p.ser):=rfl
 have e3:(pgC p)[3]?=some (.int .i64 p.size):=rfl
 have hpo:OC (pgC p):=inferInstance
 have hq:=gB p
 have hq2:=gB ⟨2,0,iS p.size,p.size,p.ser⟩
 unfold b2
 by_cases h1:120<p.size∧p.size≤4096
 ·rw [decide_eq_true h1] at hc
  by_cases h2:p=⟨2,0,iS p.size,p.size,p.ser⟩
  ·have he:=congrArg pgC h2
   by_cases h3:0<p.ser
   ·by_cases h4:p.ser≤281474976710655
    ·rw [decide_eq_true ⟨h1.1,h1.2,h2,h3,h4⟩]
     clear h2
     generalize pgC ⟨2,0,iS p.size,p.size,p.ser⟩=Y at *
     generalize pgC p=X at *
     refine W.k fun b_=>?_
     refine W.cw hc ?_
     refine bJ (lS rfl rfl rfl hq hq2 he) rfl rfl ?_
     refine W.k ?_
     exact F.n
    ·rw [decide_eq_false fun h=>h4 h.2.2.2.2]
     clear h2
     generalize pgC ⟨2,0,iS p.size,p.size,p.ser⟩=Y at *
     generalize pgC p=X at *
     refine W.k fun b_=>?_
     refine W.cw hc ?_
     refine bJ (lS rfl rfl rfl hq hq2 he) rfl rfl ?_
     refine W.k ?_
     exact F.n
   ·rw [decide_eq_false fun h=>h3 h.2.2.2.1]
    clear h2
    generalize pgC ⟨2,0,iS p.size,p.size,p.ser⟩=Y at *
    generalize pgC p=X at *
    refine W.k fun b_=>?_
    refine W.cw hc ?_
    refine bJ (lS rfl rfl rfl hq hq2 he) rfl rfl ?_
    refine W.k ?_
    exact F.n
  ·rw [decide_eq_false fun h=>h2 h.2.2.1]
   have hne:pgC p≠pgC ⟨2,0,iS p.size,p.size,p.ser⟩:=fun hh=>h2 (oK hh)
   clear h2
   generalize pgC ⟨2,0,iS p.size,p.size,p.ser⟩=Y at *
   generalize pgC p=X at *
   refine W.k fun b_=>?_
   refine W.cw hc ?_
   refine bJ (nC rfl rfl rfl hq hq2 hne) rfl rfl ?_
   refine W.k ?_
   exact F.n
 ·rw [decide_eq_false h1] at hc
  rw [decide_eq_false fun h=>h1 ⟨h.1,h.2.1⟩]
  refine W.k fun b_=>?_
  refine W.cw hc ?_
  exact F.n
theorem aOD(p:Pg):Tri prog 215 [.agg (pgC p).toArray] [] (fun _=>True) (fun v H=>v=.bool (fJ p)∧H=[]):=by
 refine Tri.mk func215 rfl ntmps215 rfl fun w hw=>?_
 have hl:=dW p
 have h0:Tri prog 262 [.agg (pgC p).toArray] [] (fun _=>True) (fun v H=>v=.bool (b0 p)∧H=[]):=aM3 p
 have h1:=aLP p
 have h2:=aI7 p
 have h3:Tri prog 216 [.agg (pgC p).toArray] [] (fun _=>True) (fun v H=>v=.bool (b3 p)∧H=[]):=aKj p
 have hbs:bQ (fun i=>some (i*1,1)) (zs [.nilFunc] 4) [(0,.func (.func 262) #[] #[]),(1,.func (.func 263) #[] #[]),(2,.func (.func 264) #[] #[]),(3,.func (.func 216) #[] #[])]=some [.func (.func 262) #[] #[],.func (.func 263) #[] #[],.func (.func 264) #[] #[],.func (.func 216) #[] #[]]:=rfl
 refine W.j fun _ b_=>?_
 rename_i bp
 refine SW.block ?_
 refine W.j ?_
 refine bV [1,5,6] [] (fun i:Nat=>[(7,.int .i64 (i:Int))]) (fun _=>[]) (fun i=>4-i) (fun i=>i≤4∧(0<i→b0 p=false)∧(1<i→b1 p=false)∧(2<i→b2 p=false)∧(3<i→b3 p=false)) 0 ⟨by decide,fun h=>absurd h dc,fun h=>absurd h dc,fun h=>absurd h dc,fun h=>absurd h dc⟩ ?_
 rintro i ⟨hi,hn0,hn1,hn2,hn3⟩
 rcases (show i=0∨i=1∨i=2∨i=3∨i=4 by omega) with rfl|rfl|rfl|rfl|rfl
 ·refine W.k ?_
  refine dH [] rfl rfl rfl rfl rfl rfl h0 (fun _ _=>trivial) ?_
  rintro _ _ ⟨rfl,rfl⟩
  cases hb0:b0 p with
  | true=>
   rw [show fJ p=true by unfold fJ;rw [hb0];rfl]
   refine W.k ?_
   exact F.n
  | false=>
   refine W.k ?_
   refine aT.mk 1 ?_
   exact⟨by decide,fun _=>rfl,fun h=>absurd h dc,fun h=>absurd h dc,fun h=>absurd h dc⟩
 ·refine W.k ?_
  refine dH [] rfl rfl rfl rfl rfl rfl h1 (fun _ _=>trivial) ?_
  rintro _ _ ⟨rfl,rfl⟩
  cases hb1:b1 p with
  | true=>
   rw [show fJ p=true by unfold fJ;rw [hb1];simp]
   refine W.k ?_
   exact F.n
  | false=>
   refine W.k ?_
   refine aT.mk 2 ?_
   exact⟨by decide,fun _=>hn0 dc,fun _=>rfl,fun h=>absurd h dc,fun h=>absurd h dc⟩
 ·refine W.k ?_
  refine dH [] rfl rfl rfl rfl rfl rfl h2 (fun _ _=>trivial) ?_
  rintro _ _ ⟨rfl,rfl⟩
  cases hb2:b2 p with
  | true=>
   rw [show fJ p=true by unfold fJ;rw [hb2];simp]
   refine W.k ?_
   exact F.n
  | false=>
   refine W.k ?_
   refine aT.mk 3 ?_
   exact⟨by decide,fun _=>hn0 dc,fun _=>hn1 dc,fun _=>rfl,fun h=>absurd h dc⟩
 ·refine W.k ?_
  refine dH [] rfl rfl rfl rfl rfl rfl h3 (fun _ _=>trivial) ?_
  rintro _ _ ⟨rfl,rfl⟩
  cases hb3:b3 p with
  | true=>
   rw [show fJ p=true by unfold fJ;rw [hb3];simp]
   refine W.k ?_
   exact F.n
  | false=>
   refine W.k ?_
   refine aT.mk 4 ?_
   exact⟨by decide,fun _=>hn0 dc,fun _=>hn1 dc,fun _=>hn2 dc,fun _=>rfl⟩
 ·rw [show fJ p=false by unfold fJ;rw [hn0 dc,hn1 dc,hn2 dc,hn3 dc];rfl]
  refine W.k ?_
  exact F.n
theorem aIF(p:Pg):Tri prog 154 [.agg (pgC p).toArray] [] (fun _=>True) (fun v H=>v=.bool (!fJ p)∧H=[]):=by
 refine Tri.mk func154 rfl ntmps154 rfl fun w hw=>?_
 have hl:=dW p
 refine W.k fun b_=>?_
 refine W.cw (aOD p) ?_
 exact F.n
end
theorem aJe(n:Nat)(v:UInt64):leN (n+1) v=leN n v++[byU v n]:=by unfold leN;rw [bS,bB];rfl
theorem aAx(v:UInt64):∀ n,n≤8→mQ (leN n v)=v.toNat%256^n
 | 0,_=>by rw [uA,Nat.mod_one];rfl
 | n+1,h=>by
  rw [aJe,aBN,aAx v n om,cJ,yF v om,cR,show 256^(n+1)=256^n*256 from gG ..,Nat.mod_mul (a:=256^n) (b:=256),kO (256^n)]
theorem aC5:∀ {a b:List UInt8},a.length=b.length→mQ a=mQ b→a=b
 | [],[],_,_=>rfl
 | x::a,y::b,hl,h=>by
  have e:∀ (c:UInt8) (r:List UInt8),mQ (c::r)=mQ r*256+c.toNat:=fun _ _=>rfl
  rw [e,e] at h
  have hx:=x.toNat_lt
  have hy:=y.toNat_lt
  rw [aC5 (a:=a) (b:=b) (by simpa using hl) om,fA.1 (show x.toNat=y.toNat by omega)]
theorem zK(n:Nat)(v:UInt64)(h:n≤8):eP (leN n v)=v.toNat%256^n:=by
 unfold eP
 rw [aB (by rw [cJ];omega),aAx v n h]
theorem aJd(b:List UInt8)(h:b.length≤8):leN b.length (UInt64.ofNat (eP b))=b:=by
 refine aC5 (cJ ..) ?_
 have h1:=tD b
 have h2:256^b.length≤256^8:=cV dc h
 rw [aAx _ _ h,bC,eP,aB h,dC (a:=mQ b) om,dC h1]
def i8(z:Int):UInt8:=UInt8.ofNat (z%256).toNat
def u64(z:Int):UInt64:=UInt64.ofNat (z%18446744073709551616).toNat
instance(priority:=low) cv8i (z:Int):Cv .u8 z ((i8 z).toNat:Int):=⟨by
 rw [sI,i8,cR];omega⟩
instance(priority:=low) cv64i (z:Int):Cv .u64 z ((u64 z).toNat:Int):=⟨by
 rw [kS,u64,bC];omega⟩
theorem oO{z:Int}(h:0≤z∧z<18446744073709551616):((u64 z).toNat:Int)=z:=by
 rw [u64,bC];omega
theorem aI8{z:Int}(h:0≤z∧z<256):((i8 z).toNat:Int)=z:=by
 rw [i8,cR];omega
def pgB(p:Pg):List UInt8:=[i8 p.kind,i8 p.cls]++(leN 2 (u64 p.run)++(leN 4 (u64 p.size)++leN 8 (u64 p.ser)))
theorem aBl(p:Pg):(pgB p).length=16:=by simp [pgB,cJ]
def aAH(e:List UInt8):Pg:=⟨(eP (e.take 1):Nat),(eP ((e.drop 1).take 1):Nat),(eP ((e.drop 2).take 2):Nat),(eP ((e.drop 4).take 4):Nat),(eP ((e.drop 8).take 8):Nat)⟩
theorem vW(c:UInt8):eP [c]=c.toNat:=by simp [eP,mQ]
theorem aNE(p:Pg)(h0:0≤p.kind∧p.kind<256)(h1:0≤p.cls∧p.cls<256)(h2:0≤p.run∧p.run<65536)(h3:0≤p.size∧p.size<4294967296)(h4:0≤p.ser∧p.ser<18446744073709551616):aAH (pgB p)=p:=by
 have e1:(pgB p).take 1=[i8 p.kind]:=rfl
 have e2:((pgB p).drop 1).take 1=[i8 p.cls]:=rfl
 have e3:(pgB p).drop 2=leN 2 (u64 p.run)++(leN 4 (u64 p.size)++leN 8 (u64 p.ser)):=rfl
 have e4:(pgB p).drop 4=leN 4 (u64 p.size)++leN 8 (u64 p.ser):=by
  rw [show (pgB p).drop 4=((pgB p).drop 2).drop 2 by rw [bR],e3,eZ,eB (by rw [cJ];omega),cJ];rfl
 have e5:(pgB p).drop 8=leN 8 (u64 p.ser):=by
  rw [show (pgB p).drop 8=((pgB p).drop 4).drop 4 by rw [bR],e4,eZ,eB (by rw [cJ];omega),cJ];rfl
 unfold aAH
 rw [e1,e2,e3,e4,e5,vW,vW,aQ (by rw [cJ];omega),aB (by rw [cJ];omega),aQ (by rw [cJ];omega),aB (by rw [cJ];omega),aB (by rw [cJ];omega),zK _ _ om,zK _ _ om,zK _ _ om,aI8 h0,aI8 h1]
 have u2:=oO (z:=p.run) om
 have u3:=oO (z:=p.size) om
 have u4:=oO (z:=p.ser) om
 obtain⟨a,b,c,d,e⟩:=p
 simp only at *
 rw [Pg.mk.injEq]
 refine⟨rfl,rfl,?_,?_,?_⟩ <;> omega
theorem aND(e:List UInt8)(h:e.length=16):pgB (aAH e)=e:=by
 have k1:∀ (l:List UInt8) (n:Nat),l.length=n→n≤8→leN n (u64 ((eP l:Nat):Int))=l:=fun l n hl hn=>by
  have h1:=zL l
  have:u64 ((eP l:Nat):Int)=UInt64.ofNat (eP l):=by unfold u64;congr 1;omega
  rw [this,← hl]
  exact aJd l om
 have k0:∀ l:List UInt8,l.length=1→[i8 ((eP l:Nat):Int)]=l:=fun l hl=>by
  match l,hl with
  | [c],_=>
   have:=c.toNat_lt
   rw [vW,i8,show (((c.toNat:Nat):Int)%256).toNat=c.toNat by omega,kQ]
 have e0:(e.take 1).length=1:=by rw [aD];omega
 have e1:((e.drop 1).take 1).length=1:=by rw [aD,aK];omega
 have e2:((e.drop 2).take 2).length=2:=by rw [aD,aK];omega
 have e3:((e.drop 4).take 4).length=4:=by rw [aD,aK];omega
 have e4:((e.drop 8).take 8).length=8:=by rw [aD,aK];omega
 show [i8 ((eP (e.take 1):Nat):Int)]++([i8 ((eP ((e.drop 1).take 1):Nat):Int)]++(leN 2 (u64 ((eP ((e.drop 2).take 2):Nat):Int))++(leN 4 (u64 ((eP ((e.drop 4).take 4):Nat):Int))++leN 8 (u64 ((eP ((e.drop 8).take 8):Nat):Int)))))=e
 rw [k0 _ e0,k0 _ e1,k1 _ 2 e2 om,k1 _ 4 e3 om,k1 _ 8 e4 om]
 rw [aB (show (e.drop 8).length≤8 by rw [aK];omega)]
 rw [show e.drop 8=(e.drop 4).drop 4 by rw [bR],bY]
 rw [show e.drop 4=(e.drop 2).drop 2 by rw [bR],bY]
 rw [show e.drop 2=(e.drop 1).drop 1 by rw [bR],bY,bY]
theorem aF1{p:Pg}(h:fJ p=true):(0≤p.kind∧p.kind<256)∧(0≤p.cls∧p.cls<256)∧(0≤p.run∧p.run<65536)∧(0≤p.size∧p.size<4294967296)∧(0≤p.ser∧p.ser<18446744073709551616):=by
 unfold fJ at h
 rw [pT,pT,pT] at h
 rcases h with ((h|h)|h)|h
 ·have:=of_decide_eq_true h;subst this;simp
 ·obtain⟨h1,h2⟩:=of_decide_eq_true h
  have hc:0≤p.cls∧p.cls<8:=by
   unfold oA at h2
   by_cases hh:0≤p.cls∧p.cls<8
   ·exact hh
   ·rw [if_neg hh] at h2;exact absurd h2 dc
  rw [h1];simp only;omega
 ·obtain⟨h1,h2,h3,h4,h5⟩:=of_decide_eq_true h
  have hr:0≤iS p.size∧iS p.size<65536:=by unfold iS;rw [if_neg om];omega
  rw [h3];simp only;omega
 ·have:=of_decide_eq_true h;subst this;simp
def hOk(h:Int):Bool:=decide (h/72057594037927936≤63∧h/281474976710656%256≤15∧1≤h%281474976710656)
def vY(h:Int):Bool:=decide (h=0)||hOk h
def rOk(n:Int)(l:List Int):Bool:=l.all vY&&decide (1≤n∧n≤281474976710656)
abbrev hsL(l:List Int):List UInt8:=(l.map fun h=>leN 8 (u64 h)).flatten
abbrev kW(n:Int)(l:List Int):List UInt8:=leN 8 (u64 n)++hsL l
def gC(n:Int)(l:List Int):List UInt8:=pad 256 (kW n l)
def nOf(bs:List UInt8):Int:=((eP (bs.take 8):Nat):Int)
def lAt(bs:List UInt8)(k:Nat):Int:=((eP ((bs.drop (8+8*k)).take 8):Nat):Int)
def lOf(bs:List UInt8):List Int:=(List.range 16).map (lAt bs)
abbrev isU(h:Int):Prop:=0≤h∧h<18446744073709551616
theorem aMa(l:List Int):∀ x∈l.map (fun h=>leN 8 (u64 h)),x.length=8:=fun x hx=>by
 obtain⟨h,-,rfl⟩:=bG.1 hx
 exact cJ ..
theorem aDK(l:List Int):(hsL l).length=8*l.length:=by rw [eD (aMa l),aE,kO]
theorem aEZ(l:List Int)(h:Int):hsL (l++[h])=hsL l++leN 8 (u64 h):=by
 rw [hsL,bB,eW]
 simp only [dO,jB,dG,iZ,aJ]
theorem qP(n:Int)(l:List Int):(kW n l).length=8+8*l.length:=by rw [aC,cJ,aDK]
theorem aCh(n:Int)(l:List Int):(gC n l).length=256:=sD ..
theorem rZ(bs:List UInt8):(lOf bs).length=16:=by rw [lOf,aE,cZ]
theorem aDL(bs:List UInt8){k:Nat}(h:k<16):(lOf bs)[k]?=some (lAt bs k):=by rw [lOf,aH,dY h];rfl
theorem aOz(bs:List UInt8)(k:Nat):isU (lAt bs k):=by
 have:=zL ((bs.drop (8+8*k)).take 8)
 unfold lAt isU;omega
theorem aGZ(bs:List UInt8):isU (nOf bs):=by
 have:=zL (bs.take 8)
 unfold nOf isU;omega
theorem aGT(bs:List UInt8):∀ h∈lOf bs,isU h:=fun h hh=>by
 obtain⟨k,-,rfl⟩:=bG.1 hh
 exact aOz bs k
theorem aKn{h:Int}(hh:isU h):((eP (leN 8 (u64 h)):Nat):Int)=h:=by
 have:=oO hh
 have h2:=(u64 h).toNat_lt
 rw [zK _ _ dc,dC om]
 exact this
theorem aDm(n:Int){l:List Int}(hl:l.length=16):gC n l=kW n l++List.replicate 120 0:=by
 rw [gC,xB (by rw [qP];omega),qP,hl]
theorem aJo{n:Int}{l:List Int}(hl:l.length=16)(hn:isU n):nOf (gC n l)=n:=by
 rw [nOf,aDm n hl,kW,bE,aQ (by rw [cJ];decide),aB (by rw [cJ];decide),aKn hn]
theorem aNb{n:Int}{l:List Int}(hl:l.length=16){k:Nat}{h:Int}(hk:l[k]?=some h)(hh:isU h):lAt (gC n l) k=h:=by
 have hk16:k<16:=by rw [← hl];exact (aG.1 hk).1
 have e:((gC n l).drop (8+8*k)).take 8=leN 8 (u64 h):=by
  rw [aDm n hl,kW,bE,← bR,gS (cJ ..),bW (by rw [aDK];omega),aQ (by rw [aK,aDK];omega),kO 8 k]
  exact nB (aMa l) (by rw [aH,hk];rfl)
 rw [lAt,e,aKn hh]
theorem aNd{n:Int}{l:List Int}(hl:l.length=16)(h:∀ h∈l,isU h):lOf (gC n l)=l:=by
 apply cM
 intro k
 by_cases hk:k<16
 ·have hg:=aA (l:=l) (i:=k) om
  rw [aDL _ hk,aNb hl hg (h _ (dR _)),hg]
 ·rw [aY (by rw [rZ];omega),aY om]
abbrev z16:List Int:=List.replicate 16 0
def vZ(bs:List UInt8):Option (Int×List Int):=
 if bs=List.replicate 256 0 then some (1,z16) else if rOk (nOf bs) (lOf bs)=true∧gC (nOf bs) (lOf bs)=bs then some (nOf bs,lOf bs) else none
theorem aHd{n:Int}{l:List Int}(h:rOk n l=true):1≤n∧n≤281474976710656:=by
 unfold rOk at h
 exact of_decide_eq_true (Bool.and_eq_true_iff.1 h).2
theorem aNJ{n:Int}{l:List Int}(hl:l.length=16)(h:rOk n l=true):gC n l≠List.replicate 256 0:=fun e=>by
 have h1:=aHd h
 have:=aJo (n:=n) hl ⟨by omega,by omega⟩
 rw [e] at this
 have h0:nOf (List.replicate 256 0)=0:=by decide
 omega
theorem aLd{n:Int}{l:List Int}(hl:l.length=16)(hu:∀ h∈l,isU h)(h:rOk n l=true):vZ (gC n l)=some (n,l):=by
 have h1:=aHd h
 rw [vZ,if_neg (aNJ hl h),aJo hl ⟨by omega,by omega⟩,aNd hl hu,if_pos ⟨h,rfl⟩]
theorem aDJ{bs:List UInt8}{n:Int}{l:List Int}(h:vZ bs=some (n,l)):l.length=16∧isU n∧(∀ h∈l,isU h)∧rOk n l=true:=by
 unfold vZ at h
 by_cases h0:bs=List.replicate 256 0
 ·rw [if_pos h0] at h
  cases h
  exact⟨rfl,by decide,fun h hh=>by rw [fT hh];decide,by decide⟩
 ·rw [if_neg h0] at h
  by_cases h1:rOk (nOf bs) (lOf bs)=true∧gC (nOf bs) (lOf bs)=bs
  ·rw [if_pos h1] at h
   cases h
   exact⟨rZ bs,aGZ bs,aGT bs,h1.1⟩
  ·rw [if_neg h1] at h
   cases h
section
attribute [local irreducible] SW SL SQ SH SA SS Pu Fin bZ aT SX SJ
theorem aHz{l bs bn kb ko len cap n:Nat}(xs:List UInt8)(hn:0<n)(hn2:n≤1000000)(hlen:len≤1000000000)(J:Nat→Hp→Prop)(Jx:Hp→Prop)(H0:Hp)(h0:J 0 H0)
  (hY:∀ k Hk,n*k<len→J k Hk→Rnd prog l [.slice (some ⟨kb,ko+n*k,none⟩) (min n (len-n*k)) (min n (len-n*k))] Hk (fun w=>Rd (Hk.map Prod.fst) w 1 (.slice (some ⟨kb,ko,none⟩) len cap) (cbs xs)) (fun v H'=>(v=.bool true∧J (k+1) H')∨(v=.bool false∧Jx H'))) :
  Tri prog 214 [.func (.yield l) #[] #[],.pointer (some ⟨bs,0,none⟩),.pointer (some ⟨bn,0,none⟩)]
   ((bs,cl [.slice (some ⟨kb,ko,none⟩) len cap] 50)::(bn,cl [.int .i64 (n:Int)] 3)::H0)
   (fun w=>Rd (((bs,cl [.slice (some ⟨kb,ko,none⟩) len cap] 50)::(bn,cl [.int .i64 (n:Int)] 3)::H0).map Prod.fst) w 1 (.slice (some ⟨kb,ko,none⟩) len cap) (cbs xs))
   (fun v H'=>v=.tuple #[]∧((∃ k,len≤n*k∧n*k<len+n∧J k H')∨Jx H')):=by
 refine Tri.mk func214 rfl ntmps214 rfl fun w hw=>?_
 have hlc:len≤cap:=hw.len1.2
 refine W.j ?_
 refine W.k ?_
 refine bN [0,1,2] (fun s:Nat×Nat×Hp=>[(4,.int .i64 (s.1:Int))]) (fun s=>(bs,cl [.slice (some ⟨kb,ko,none⟩) len cap] 50)::(bn,cl [.int .i64 (n:Int)] 3)::s.2.2) (fun s=>len+n-s.1) (fun s=>s.1=n*s.2.1∧s.1<len+n∧J s.2.1 s.2.2) (0,0,H0) ⟨by simp,by simp;omega,h0⟩ ?_
 rintro⟨i,k,Hk⟩ ⟨hik,hil,hJ⟩
 dsimp only at hik hil hJ ⊢
 by_cases h:i<len
 ·have hci:i<cap:=om
  have hil':i≤len:=om
  refine W.k ?_
  (refine SW.l [] [0,1,2] ?_;refine dL 3 rfl (aB3 rfl rfl rfl om om om) ?_;refine SG.l [4,5,6,7] ?_)
  rw [show min (n:Int) ((len-i:Nat):Int)=((min n (len-i):Nat):Int) by omega]
  obtain⟨m,hm⟩:∃ m,min n (len-i)=m:=⟨_,rfl⟩
  have hm0:0<m:=om
  have hml:i+m≤len:=om
  rw [hm]
  refine nO ?_
  refine aFE (yC (SJ.cut 10 ?_))
  refine W.i ?_
  refine bJ (aJJ (l:=i) (h:=i+m) (c:=ko+i) rfl rfl rfl rfl rfl rfl om om om om om) rfl rfl ?_
  refine iC ?_
  have hY':=hY k Hk om hJ
  rw [← hik,hm] at hY'
  rw [show i+m-i=m by omega]
  refine SJ.yield Hk rfl rfl rfl rfl rfl hY' (fun w2 hs=>hw.ro (Hc:=Hk) hs) ?_
  rintro _ H' (⟨rfl,hJ'⟩|⟨rfl,hJx⟩)
  ·refine SJ.all ?_
   refine W.k ?_
   rw [show (i:Int)+(n:Int)=((i+n:Nat):Int) by omega]
   refine aT.mk (i+n,k+1,H') ?_
   exact⟨by dsimp only;rw [hik,zB],by dsimp only;omega,hJ'⟩
  ·refine SJ.all ?_
   refine W.k ?_
   refine Fin.to H' ?_
   exact F.f0 ⟨rfl,.inr hJx⟩
 ·refine W.k ?_
  refine Fin.to Hk ?_
  exact F.f0 ⟨rfl,.inl ⟨k,by omega,by omega,hJ⟩⟩
theorem aIN{kv:Value} [One kv]{n:Nat}(hn:0<n):Tri prog 153 [kv,.int .i64 (n:Int)] [] (fun _=>True)
  (fun v H=>∃ bs bn,v=.func (.func 214) #[] #[.pointer (some ⟨bs,0,none⟩),.pointer (some ⟨bn,0,none⟩)]∧H=[(bs,cl [kv] 50),(bn,cl [.int .i64 (n:Int)] 3)]):=by
 refine Tri.mk func153 rfl ntmps153 rfl fun w hw=>?_
 refine W.k fun _ b_=>?_
 rename_i bs
 refine Fin.to [(bs,cl [kv] 50),(b_,cl [.int .i64 (n:Int)] 3)] ?_
 exact F.f1 ⟨bs,b_,rfl,rfl⟩
theorem F.ss{P:Program}{C:Ctx}{ρ:Fr}{H:Hp}{fn:Func}{R:Value→Hp→Prop}{e:Exit}{t u ty ty2 b b':Nat}{v v2:Value}{T T2:TypeId}(Hc:Hp){s:Hp} [hp:fI H Hc s](hR:R (.tuple #[v,v2]) Hc)(he:e=.ret∨e=.normal:=by first|exact .inl rfl|exact .inr rfl)(hrs:fn.results=#[.cell t ty,.cell u ty2]:=by exact rfl)(ht:lk ρ t=some (.pointer (some ⟨b,0,none⟩)):=by exact rfl)(hu:lk ρ u=some (.pointer (some ⟨b',0,none⟩)):=by exact rfl)(h1:At H b (cl [v] T):=by infer_instance)(h2:At H b' (cl [v2] T2):=by infer_instance)(i1:cC P ty:=by infer_instance)(i2:cC P ty2:=by infer_instance):Fin P C fn R e ρ H:=
 Fin.of he hp.perm hR fun a w hf hs=>by
  have e1:=rP (P:=P) (w:=w) (t:=ty) (b:=b) (l:=[v]) (T:=T) (fz:=(0,0)) (i:=0) (v:=v) hs.at rfl
  have e2:=rP (P:=P) (w:=w) (t:=ty2) (b:=b') (l:=[v2]) (T:=T2) (fz:=(0,0)) (i:=0) (v:=v2) hs.at rfl
  have g1:=jK hf ht
  have g2:=jK hf hu
  rw [fV] at g1 g2
  simp [results,hrs,g1,g2,asAddr,e1,e2]
end
section
attribute [local irreducible] SW SL SQ SH SA SS Pu Fin bZ aT
def rtQ(l:List Value):Prop:=
 (∃ n,(l.drop 0).take 1=[.int .u64 n])∧(((l.drop (0+1)).take 16).length=16∧∀ i,(i+1)*1≤((l.drop (0+1)).take 16).length→∃ n,((((l.drop (0+1)).take 16).drop (i*1)).take 1)=[.int .u64 n])∧l.length=17
instance rtEq:EqS prog 88 rtQ where
 under:=by kernel_rfl
 held:=by kernel_rfl
 guard:=by kernel_rfl
 cov:=by
  refine⟨_,2,17,underlying88,by decide,?_⟩
  unfold rtQ
  refine Cov.cons (n:=1) (D':=1) (agg:=false) (p:=fun l=>∃ n,l=[.int .u64 n]) ?_ rfl ?_ ?_ ?_
  ·decide
  ·exact sJ.int (t:=28) underlying28
  ·decide
  refine Cov.cons (n:=16) (D':=2) (agg:=true) (p:=fun l=>l.length=16∧∀ i,(i+1)*1≤l.length→∃ n,(l.drop (i*1)).take 1=[.int .u64 n]) ?_ rfl ?_ ?_ ?_
  ·decide
  ·exact sJ.array (t:=86) (m:=16) (n:=1) underlying86 kr rfl (sJ.int (t:=85) underlying85)
  ·decide
  exact .nil 17
instance rrtEq:EqS prog 79 rtQ where
 under:=by kernel_rfl
 held:=by kernel_rfl
 guard:=by kernel_rfl
 cov:=by
  refine⟨_,2,17,underlying79,by decide,?_⟩
  unfold rtQ
  refine Cov.cons (n:=1) (D':=1) (agg:=false) (p:=fun l=>∃ n,l=[.int .u64 n]) ?_ rfl ?_ ?_ ?_
  ·decide
  ·exact sJ.int (t:=28) underlying28
  ·decide
  refine Cov.cons (n:=16) (D':=2) (agg:=true) (p:=fun l=>l.length=16∧∀ i,(i+1)*1≤l.length→∃ n,(l.drop (i*1)).take 1=[.int .u64 n]) ?_ rfl ?_ ?_ ?_
  ·decide
  ·exact sJ.array (t:=77) (m:=16) (n:=1) underlying77 kr rfl (sJ.int (t:=28) underlying28)
  ·decide
  exact .nil 17
theorem wK(n:Int)(l:List Int)(hl:l.length=16):rtQ (bP n l):=by
 have h1:((bP n l).drop (0+1)).take 16=l.map fun h=>(.int .u64 h:Value):=by
  show (l.map fun h=>(.int .u64 h:Value)).take 16=_
  rw [aB (by rw [aE,hl];omega)]
 refine⟨⟨n,rfl⟩,⟨by rw [h1,aE,hl],fun i hi=>?_⟩,by rw [bU,hl]⟩
 rw [h1] at hi ⊢
 rw [aE] at hi
 have hi2:i<l.length:=om
 refine⟨l[i],?_⟩
 rw [Nat.mul_one,bM (by rw [aE];exact hi2)]
 simp
theorem xF{n m:Int}{l k:List Int}(h:bP n l=bP m k):n=m∧l=k:=by
 unfold bP at h
 rw [kK] at h
 obtain⟨h1,h2⟩:=h
 injection h1 with _ h1
 refine⟨h1,?_⟩
 exact (List.map_inj_right fun a b h=>by injection h).1 h2
abbrev bF(n:Int)(l:List Int)(pv:Value):List Value:=bP n l++[pv]
theorem aEF(n:Int)(l:List Int)(hl:l.length=16)(a:Option Addr)(x c:Nat):bQ (fun i=>[(0,17),(17,1)][i]?) (List.replicate 17 (.int .u64 0)++[.slice none 0 0]) [(0,.agg (bP n l).toArray),(1,.slice a x c)]=some (bF n l (.slice a x c)):=by
 match l,hl with
 | [_,_,_,_,_,_,_,_,_,_,_,_,_,_,_,_],_=>rfl
theorem aBn(n m:Int)(l k:List Int)(hl:l.length=16)(hk:k.length=16)(ps qs:List Pg)(pv qv:Value)(hn:ps.length≤1000000):Tri prog 32 [.agg (bF n l pv).toArray,.agg (bF m k qv).toArray] [] (fun w=>Rd [] w 5 pv (dK ps)∧Rd [] w 5 qv (dK qs)) (fun r H=>r=.bool (decide (n=m∧l=k∧ps=qs))∧H=[]):=by
 refine Tri.mk func32 rfl ntmps32 rfl fun w hw=>?_
 obtain⟨hv,hu⟩:=hw
 have hL:∀ (ps:List Pg),∀ y∈ps.map pgC,y.length=5:=fun ps y hy=>by
  obtain⟨x,hx,rfl⟩:=bG.1 hy
  exact dW x
 obtain⟨a,cap,rfl,hcap,hgt⟩:=hv.rows dc (hL ps)
 obtain⟨a2,cap2,rfl,hcap2,hgt2⟩:=hu.rows dc (hL qs)
 rw [aE] at hcap hcap2
 rw [aE,aE]
 have f1:(bF n l (.slice a ps.length cap)).length=18:=by rw [aC,bU,hl];rfl
 have f2:(bF m k (.slice a2 qs.length cap2)).length=18:=by rw [aC,bU,hk];rfl
 have o1:OC (bF n l (.slice a ps.length cap)):=inferInstance
 have o2:OC (bF m k (.slice a2 qs.length cap2)):=inferInstance
 have t1:((bF n l (.slice a ps.length cap)).drop 0).take 17=bP n l:=by rw [bH,aQ (by rw [bU,hl];omega),aB (by rw [bU,hl];omega)]
 have t2:((bF m k (.slice a2 qs.length cap2)).drop 0).take 17=bP m k:=by rw [bH,aQ (by rw [bU,hk];omega),aB (by rw [bU,hk];omega)]
 have g1:(bF n l (.slice a ps.length cap))[17]?=some (.slice a ps.length cap):=by rw [aS (by rw [bU,hl];omega),bU,hl];rfl
 have g2:(bF m k (.slice a2 qs.length cap2))[17]?=some (.slice a2 qs.length cap2):=by rw [aS (by rw [bU,hk];omega),bU,hk];rfl
 have r1:(bP n l).length=17:=by rw [bU,hl]
 have r2:(bP m k).length=17:=by rw [bU,hk]
 have q1:=wK n l hl
 have q2:=wK m k hk
 generalize bF n l (.slice a ps.length cap)=X at *
 generalize bF m k (.slice a2 qs.length cap2)=Y at *
 by_cases he:n=m∧l=k
 ·by_cases hlen:ps.length=qs.length
  ·refine W.k fun _ b_=>?_
   refine bJ (wZ rfl rfl rfl q1 q2 (by rw [he.1,he.2])) rfl rfl ?_
   refine W.j ?_
   rename_i bx
   refine cN [] [] (fun _:Unit=>[]) (fun _=>[]) (fun _=>ps=qs) ?_ ?_
   ·refine W.k ?_
    refine bN [2,3,22] (fun i:Nat=>[(23,.int .i64 (i:Int))]) (fun _=>[(bx,cl X 82),(b_,cl Y 82)]) (fun i=>ps.length-i) (fun i=>i≤ps.length∧ps.take i=qs.take i) 0 ⟨Nat.zero_le _,rfl⟩ ?_
    rintro i ⟨hi,hbad⟩
    by_cases hin:i<ps.length
    ·obtain⟨x,hx⟩:∃ x,ps[i]?=some x:=⟨_,aA hin⟩
     obtain⟨y,hy⟩:∃ y,qs[i]?=some y:=⟨_,aA om⟩
     obtain⟨pb,po,lv,T,fz,rfl,hb,hk,hvv⟩:=hgt i (pgC x) (by rw [aH,hx];rfl)
     obtain⟨pb2,po2,lv2,T2,fz2,rfl,hb2,hk2,hvv2⟩:=hgt2 i (pgC y) (by rw [aH,hy];rfl)
     have hxl:=dW x
     have hyl:=dW y
     by_cases hxy:x=y
     ·refine W.k ?_
      (refine SW.l [] [0,1,2,3,4,5,6,7,8,9] ?_;refine dL 10 rfl (wZ rfl rfl rfl (gB x) (gB y) (by rw [hxy])) ?_;refine eI ?_)
      refine W.k ?_
      refine aT.mk (i+1) ?_
      exact⟨hin,by rw [aO,aO,hbad,hx,hy,hxy]⟩
     ·have hne:¬ (n=m∧l=k∧ps=qs):=fun h=>by
       rw [h.2.2,hy] at hx
       exact hxy (lW hx).symm
      rw [decide_eq_false hne]
      refine W.k ?_
      (refine SW.l [] [0,1,2,3,4,5,6,7,8,9] ?_;refine dL 10 rfl (zT rfl rfl rfl (gB x) (gB y) (fun hh=>hxy (oK hh))) ?_;refine eI ?_)
      refine W.k ?_
      exact F.n
    ·have hi2:i=ps.length:=om
     subst hi2
     rw [bT,hlen,bT] at hbad
     refine W.k ?_
     refine bZ.mk () ?_
     exact hbad
   rintro _ hpq
   rw [decide_eq_true (show n=m∧l=k∧ps=qs from ⟨he.1,he.2,hpq⟩)]
   refine W.k ?_
   exact F.n
  ·rw [decide_eq_false fun h=>hlen (by rw [h.2.2])]
   refine W.k fun _ b_=>?_
   refine bJ (wZ rfl rfl rfl q1 q2 (by rw [he.1,he.2])) rfl rfl ?_
   refine W.k ?_
   exact F.n
 ·rw [decide_eq_false fun h=>he ⟨h.1,h.2.1⟩]
  refine W.k fun _ b_=>?_
  refine bJ (zT rfl rfl rfl q1 q2 (fun hh=>he (xF hh))) rfl rfl ?_
  refine W.k ?_
  exact F.n
theorem or0(a b:UInt8):a ||| b=0↔a=0∧b=0:=by
 rw [← fA,← fA,← fA,UInt8.toNat_or]
 exact Nat.or_eq_zero_iff
theorem aL0(bs:List UInt8)(hn:bs.length≤1000000)(v:Value):Tri prog 149 [v] [] (fun w=>Rd [] w 1 v (cbs bs)) (fun r H=>r=.bool (decide (bs=List.replicate bs.length 0))∧H=[]):=by
 refine Tri.mk func149 rfl ntmps149 rfl fun w hw=>?_
 obtain⟨a,len,cap,rfl,hl,hc,hr⟩:=hw.get
 rw [aI,Nat.mul_one] at hl
 subst hl
 refine W.j ?_
 refine SW.block ?_
 refine W.j ?_
 refine bV [6,7] [] (fun x:Nat×UInt8=>[(3,.int .u8 (x.2.toNat:Int)),(8,.int .i64 (x.1:Int))]) (fun _=>[]) (fun x=>bs.length-x.1) (fun x=>x.1≤bs.length∧(x.2=0↔bs.take x.1=List.replicate x.1 0)) (0,0) ⟨Nat.zero_le _,by simp⟩ ?_
 rintro⟨i,c⟩ ⟨hi,hz⟩
 dsimp only at hi hz ⊢
 by_cases hin:i<bs.length
 ·obtain⟨x,hx⟩:∃ x,bs[i]?=some x:=⟨_,aA hin⟩
  obtain⟨b0,o0,l0,T0,fz0,rfl,hb,hbk,hys⟩:=hr om
  have hcell:=sO hys hx
  refine W.k ?_
  refine aT.mk (i+1,c ||| x) ?_
  refine⟨hin,?_⟩
  dsimp only
  rw [or0,hz,aO,hx,jE]
  constructor
  ·rintro⟨h1,h2⟩
   rw [h1,h2];rfl
  ·intro h
   obtain⟨h1,h2⟩:=List.append_inj' h rfl
   exact⟨h1,by injection h2⟩
 ·have:i=bs.length:=om
  subst this
  rw [bT] at hz
  by_cases h0:c=0
  ·rw [decide_eq_true (hz.1 h0)]
   have h0':((c.toNat:Nat):Int)=0:=by rw [h0];rfl
   clear hz
   generalize ((c.toNat:Nat):Int)=z at *
   refine W.k ?_
   exact F.n
  ·rw [decide_eq_false fun h=>h0 (hz.2 h)]
   have h0':¬ ((c.toNat:Nat):Int)=0:=fun h=>h0 (fA.1 (by show c.toNat=0;omega))
   generalize ((c.toNat:Nat):Int)=z at *
   refine W.k ?_
   exact F.n
theorem aM7{a b s:Int}(ha:0≤a)(hb:0≤b)(hs:0≤s∧s≤281474976710655):Tri prog 266 [.agg [.int .i64 a,.int .i64 b,.int .u64 s].toArray] [] (fun _=>True) (fun v H=>v=.bool (decide (a≤63∧b≤15∧1≤s))∧H=[]):=by
 refine Tri.mk func266 rfl ntmps266 rfl fun w hw=>?_
 by_cases h1:a≤63
 ·by_cases h2:b≤15
  ·by_cases h3:1≤s
   ·rw [decide_eq_true ⟨h1,h2,h3⟩]
    refine W.k fun b_=>?_
    exact F.n
   ·rw [decide_eq_false fun h=>h3 h.2.2]
    refine W.k fun b_=>?_
    exact F.n
  ·rw [decide_eq_false fun h=>h2 h.2.1]
   refine W.k fun b_=>?_
   exact F.n
 ·rw [decide_eq_false fun h=>h1 h.1]
  refine W.k fun b_=>?_
  exact F.n
theorem aPe(x:UInt64):(x >>> 56).toNat=x.toNat/72057594037927936:=by
 rw [lF];show x.toNat >>> 56=_;rw [dU]
theorem aPd(x:UInt64):((x >>> 48) &&& 255).toNat=x.toNat/281474976710656%256:=by
 rw [UInt64.toNat_and,lF];show x.toNat >>> 48 &&& 255=_;rw [dU];exact lB _ 8
theorem aO5(x:UInt64):(x &&& 281474976710655).toNat=x.toNat%281474976710656:=by
 rw [UInt64.toNat_and];exact lB _ 48
theorem aI4(x:UInt64):Tri prog 219 [.int .u64 (x.toNat:Int)] [] (fun _=>True) (fun v H=>∃ pl:List Value,v=.tuple #[.agg pl.toArray,.bool (hOk (x.toNat:Int))]∧pl.length=3∧OC pl∧H=[]):=by
 refine Tri.mk func219 rfl ntmps219 rfl fun w hw=>?_
 have e1:=aPe x
 have e2:=aPd x
 have e3:=aO5 x
 have hx:=x.toNat_lt
 have u1:U64 255 255:=⟨rfl⟩
 have u2:U64 281474976710655 281474976710655:=⟨rfl⟩
 have i1:Cv .i64 ((x >>> 56).toNat:Int) ((x >>> 56).toNat:Int):=⟨w64 om⟩
 have i2:Cv .i64 (((x >>> 48) &&& 255).toNat:Int) (((x >>> 48) &&& 255).toNat:Int):=⟨w64 om⟩
 have i3:Cv .u64 ((x &&& 281474976710655).toNat:Int) ((x &&& 281474976710655).toNat:Int):=⟨by rw [kS];omega⟩
 have i4:Cv .u64 (x.toNat:Int) (x.toNat:Int):=⟨by rw [kS];omega⟩
 have hm:=aM7 (a:=((x >>> 56).toNat:Int)) (b:=(((x >>> 48) &&& 255).toNat:Int)) (s:=((x &&& 281474976710655).toNat:Int)) om om om
 have hk:decide (((x >>> 56).toNat:Int)≤63∧(((x >>> 48) &&& 255).toNat:Int)≤15∧1≤((x &&& 281474976710655).toNat:Int))=hOk (x.toNat:Int):=by
  unfold hOk
  rw [e1,e2,e3]
  exact decide_eq_decide.2 om
 rw [hk] at hm
 have hb:∀ A B S:Int,bQ (fun i=>[(0,1),(1,1),(2,1)][i]?) ([.int .i64 0]++[.int .i64 0]++[.int .u64 0]) [(0,.int .i64 A),(1,.int .i64 B),(2,.int .u64 S)]=some [.int .i64 A,.int .i64 B,.int .u64 S]:=fun _ _ _=>rfl
 have hb1:=hb ((x >>> 56).toNat:Int) (((x >>> 48) &&& 255).toNat:Int) ((x &&& 281474976710655).toNat:Int)
 have hb0:bQ (fun i=>[(0,1),(1,1),(2,1)][i]?) ([.int .i64 0]++[.int .i64 0]++[.int .u64 0]) []=some [.int .i64 0,.int .i64 0,.int .u64 0]:=rfl
 cases hkk:hOk (x.toNat:Int) with
 | true=>
  rw [hkk] at hm
  refine W.k fun _ b_=>?_
  refine W.cw hm ?_
  exact F.ct [] [.int .i64 ((x >>> 56).toNat:Int),.int .i64 (((x >>> 48) &&& 255).toNat:Int),.int .u64 ((x &&& 281474976710655).toNat:Int)] ⟨_,rfl,rfl,inferInstance,rfl⟩
 | false=>
  rw [hkk] at hm
  refine W.k fun _ b_=>?_
  refine W.cw hm ?_
  exact F.ct [] [.int .i64 0,.int .i64 0,.int .u64 0] ⟨_,rfl,rfl,inferInstance,rfl⟩
theorem aI6{n:Int}{l:List Int}(hl:l.length=16)(hu:∀ h∈l,isU h)(hn:0≤n):Tri prog 164 [.agg (bP n l).toArray] [] (fun _=>True) (fun v H=>v=.bool (rOk n l)∧H=[]):=by
 refine Tri.mk func164 rfl ntmps164 rfl fun w hw=>?_
 have f1:(bP n l).length=17:=by rw [bU,hl]
 have o1:OC (bP n l):=inferInstance
 have g0:(bP n l)[0]?=some (.int .u64 n):=rfl
 have t1:((bP n l).drop 1).take 16=l.map fun h=>(.int .u64 h:Value):=by
  show (l.map fun h=>(.int .u64 h:Value)).take 16=_
  rw [aB (by rw [aE,hl];omega)]
 have hll:(l.map fun h=>(.int .u64 h:Value)).length=16:=by rw [aE,hl]
 generalize bP n l=Z at *
 refine W.j fun b_=>?_
 refine SW.block ?_
 refine W.j ?_
 refine bV [1,9] [b_] (fun i:Nat=>[(10,.int .i64 (i:Int))]) (fun _=>[(b_,cl Z 88)]) (fun i=>16-i) (fun i=>i≤16∧(l.take i).all vY=true) 0 ⟨by decide,rfl⟩ ?_
 rintro i ⟨hi,hall⟩
 by_cases hin:i<16
 ·obtain⟨h,hh⟩:∃ h,l[i]?=some h:=⟨_,aA om⟩
  have hidx:(l.map fun h=>(.int .u64 h:Value))[i]?=some (.int .u64 h):=by rw [aH,hh];rfl
  have huh:=hu h (aP hh)
  have hp:=aI4 (u64 h)
  rw [oO huh] at hp
  generalize (l.map fun h=>(.int .u64 h:Value))=Y at *
  refine W.k ?_
  refine dH [] rfl rfl rfl rfl rfl rfl hp (fun _ _=>trivial) ?_
  rintro _ _ ⟨pl,rfl,hpl,hpo,rfl⟩
  by_cases h0:h=0
  ·refine W.k fun b_=>?_
   refine aT.mk (i+1) ?_
   refine⟨hin,?_⟩
   rw [aO,hh,gR,hall]
   simp [vY,h0]
  ·cases hk:hOk h with
   | true=>
    refine W.k fun b_=>?_
    refine aT.mk (i+1) ?_
    refine⟨hin,?_⟩
    rw [aO,hh,gR,hall]
    simp [vY,hk]
   | false=>
    have hno:rOk n l=false:=by
     have:l.all vY=false:=mE.2 ⟨h,aP hh,by simp [vY,hk,h0]⟩
     unfold rOk
     rw [this];rfl
    rw [hno]
    refine W.k fun b_=>?_
    exact F.n
 ·have h16:i=16:=om
  subst h16
  rw [aB om] at hall
  by_cases h1:1≤n
  ·by_cases h2:n≤281474976710656
   ·rw [show rOk n l=true by rw [rOk,hall,decide_eq_true ⟨h1,h2⟩];rfl]
    refine W.k ?_
    exact F.n
   ·rw [show rOk n l=false by rw [rOk,hall,decide_eq_false fun h=>h2 h.2];rfl]
    refine W.k ?_
    exact F.n
  ·rw [show rOk n l=false by rw [rOk,hall,decide_eq_false fun h=>h1 h.1];rfl]
   refine W.k ?_
   exact F.n
theorem aJQ(ps qs:List Pg)(v u:Value)(hn:ps.length≤1000000):Tri prog 99 [v,u] [] (fun w=>Rd [] w 5 v (dK ps)∧Rd [] w 5 u (dK qs)) (fun r H=>r=.bool (decide (ps=qs))∧H=[]):=by
 refine Tri.mk func99 rfl ntmps99 rfl fun w hw=>?_
 obtain⟨hv,hu⟩:=hw
 have hL:∀ (ps:List Pg),∀ y∈ps.map pgC,y.length=5:=fun ps y hy=>by
  obtain⟨x,hx,rfl⟩:=bG.1 hy
  exact dW x
 obtain⟨a,cap,rfl,hcap,hgt⟩:=hv.rows dc (hL ps)
 obtain⟨a2,cap2,rfl,hcap2,hgt2⟩:=hu.rows dc (hL qs)
 rw [aE] at hcap hcap2
 rw [aE,aE]
 by_cases hlen:ps.length=qs.length
 ·refine W.j ?_
  refine cN [] [] (fun _:Unit=>[]) (fun _=>[]) (fun _=>ps=qs) ?_ ?_
  ·refine W.k ?_
   refine bN [0,1,12] (fun i:Nat=>[(13,.int .i64 (i:Int))]) (fun _=>[]) (fun i=>ps.length-i) (fun i=>i≤ps.length∧ps.take i=qs.take i) 0 ⟨Nat.zero_le _,rfl⟩ ?_
   rintro i ⟨hi,hbad⟩
   by_cases hin:i<ps.length
   ·obtain⟨x,hx⟩:∃ x,ps[i]?=some x:=⟨_,aA hin⟩
    obtain⟨y,hy⟩:∃ y,qs[i]?=some y:=⟨_,aA om⟩
    obtain⟨pb,po,lv,T,fz,rfl,hb,hk,hvv⟩:=hgt i (pgC x) (by rw [aH,hx];rfl)
    obtain⟨pb2,po2,lv2,T2,fz2,rfl,hb2,hk2,hvv2⟩:=hgt2 i (pgC y) (by rw [aH,hy];rfl)
    have hxl:=dW x
    have hyl:=dW y
    by_cases hxy:x=y
    ·refine W.k ?_
     (refine SW.l [] [0,1,2,3,4,5,6,7] ?_;refine dL 8 rfl (wZ rfl rfl rfl (gB x) (gB y) (by rw [hxy])) ?_;refine eI ?_)
     refine W.k ?_
     refine aT.mk (i+1) ?_
     exact⟨hin,by rw [aO,aO,hbad,hx,hy,hxy]⟩
    ·have hne:¬ ps=qs:=fun h=>by
      rw [h,hy] at hx
      exact hxy (lW hx).symm
     rw [decide_eq_false hne]
     refine W.k ?_
     (refine SW.l [] [0,1,2,3,4,5,6,7] ?_;refine dL 8 rfl (zT rfl rfl rfl (gB x) (gB y) (fun hh=>hxy (oK hh))) ?_;refine eI ?_)
     refine W.k ?_
     exact F.n
   ·have hi2:i=ps.length:=om
    subst hi2
    rw [bT,hlen,bT] at hbad
    refine W.k ?_
    refine bZ.mk () ?_
    exact hbad
  rintro _ he
  rw [decide_eq_true he]
  refine W.k ?_
  exact F.n
 ·rw [decide_eq_false fun h=>hlen (by rw [h])]
  refine W.k ?_
  exact F.n
theorem aGX(n m:Int)(l k:List Int)(hl:l.length=16)(hk:k.length=16)(ps qs:List Pg)(pv qv:Value)(hn:ps.length≤1000000):Tri prog 39 [.agg (bF n l pv).toArray,.agg (bF m k qv).toArray] [] (fun w=>Rd [] w 5 pv (dK ps)∧Rd [] w 5 qv (dK qs)) (fun r H=>r=.bool (decide (n=m∧l=k∧ps=qs))∧H=[]):=by
 refine Tri.mk func39 rfl ntmps39 rfl fun w hw=>?_
 obtain⟨hv,hu⟩:=hw
 have hv1:=hv.isOne
 have hu1:=hu.isOne
 have f1:(bF n l pv).length=18:=by rw [aC,bU,hl];rfl
 have f2:(bF m k qv).length=18:=by rw [aC,bU,hk];rfl
 have o1:OC (bF n l pv):=inferInstance
 have o2:OC (bF m k qv):=inferInstance
 have t1:((bF n l pv).drop 0).take 17=bP n l:=by rw [bH,aQ (by rw [bU,hl];omega),aB (by rw [bU,hl];omega)]
 have t2:((bF m k qv).drop 0).take 17=bP m k:=by rw [bH,aQ (by rw [bU,hk];omega),aB (by rw [bU,hk];omega)]
 have g1:(bF n l pv)[17]?=some pv:=by rw [aS (by rw [bU,hl];omega),bU,hl];rfl
 have g2:(bF m k qv)[17]?=some qv:=by rw [aS (by rw [bU,hk];omega),bU,hk];rfl
 have r1:(bP n l).length=17:=by rw [bU,hl]
 have r2:(bP m k).length=17:=by rw [bU,hk]
 have q1:=wK n l hl
 have q2:=wK m k hk
 generalize bF n l pv=X at *
 generalize bF m k qv=Y at *
 by_cases he:n=m∧l=k
 ·obtain⟨rfl,rfl⟩:=he
  rw [show decide (n=n∧l=l∧ps=qs)=decide (ps=qs) by simp]
  refine W.k fun _ b_=>?_
  refine bJ (lS rfl rfl rfl q1 q2 rfl) rfl rfl ?_
  refine W.k ?_
  refine W.cw (aJQ ps qs pv qv hn) ?_ (hpre:=fun w2 hs=>⟨hv.ro (Hc:=[]) hs,hu.ro (Hc:=[]) hs⟩)
  exact F.n
 ·rw [decide_eq_false fun h=>he ⟨h.1,h.2.1⟩]
  refine W.k fun _ b_=>?_
  refine bJ (nC rfl rfl rfl q1 q2 (fun hh=>he (xF hh))) rfl rfl ?_
  refine W.k ?_
  exact F.n
end
section
open Go.ChangeShapes Go.WideShapes Go.ChangeAt Go.RowKit
section
variable {H:Type}{enc:TypeId×Value→H}{w:World}{sp:Nat→Bool}{hd:Bool}
set_option maxRecDepth 100000 in
theorem aLT{fuel:Nat}{cs:List Value}{x:DataW H×List MemPlace}(h:DataW.trod enc prog w 0 sp hd fuel 177 cs=some x):∃ p:Pg,cs=pgC p∧0≤p.ser∧p.ser<18446744073709551616:=by
 obtain⟨xs,m,-,-,hl,hxl,hx⟩:=DataW.trod_struct underlying177 h
 have c0:prog.cellsOf 3=1:=by kernel_rfl
 have c1:prog.cellsOf 28=1:=by kernel_rfl
 have c4:prog.cellsOf 177=5:=by kernel_rfl
 rw [c4] at hl
 have hn:xs.length=5:=hxl
 have h0:DataW.trod enc prog w 0 sp hd m 3 ((cs.drop 0).take (prog.cellsOf 3))=xs[0]?:=hx 0 _ rfl
 have h1:DataW.trod enc prog w 0 sp hd m 3 ((cs.drop 1).take (prog.cellsOf 3))=xs[1]?:=hx 1 _ rfl
 have h2:DataW.trod enc prog w 0 sp hd m 3 ((cs.drop 2).take (prog.cellsOf 3))=xs[2]?:=hx 2 _ rfl
 have h3:DataW.trod enc prog w 0 sp hd m 3 ((cs.drop 3).take (prog.cellsOf 3))=xs[3]?:=hx 3 _ rfl
 have h4:DataW.trod enc prog w 0 sp hd m 28 ((cs.drop 4).take (prog.cellsOf 28))=xs[4]?:=hx 4 _ rfl
 rw [c0] at h0 h1 h2 h3
 rw [c1] at h4
 rw [aA om] at h0 h1 h2 h3 h4
 obtain⟨n0,e0,a0,b0⟩:=nD underlying3 h0
 obtain⟨n1,e1,a1,b1⟩:=nD underlying3 h1
 obtain⟨n2,e2,a2,b2⟩:=nD underlying3 h2
 obtain⟨n3,e3,a3,b3⟩:=nD underlying3 h3
 obtain⟨n4,e4,a4,b4⟩:=nD underlying28 h4
 refine⟨⟨n0,n1,n2,n3,n4⟩,?_,tZ dc a4,nL b4 dc⟩
 match cs,hl with
 | [x0,x1,x2,x3,x4],_=>
  simp at e0 e1 e2 e3 e4
  subst e0 e1 e2 e3 e4
  rfl
theorem aHi:∀ (len:Nat) (ys:List Value),ys.length=len*5→(∀ i,i<len→∃ p:Pg,(ys.drop (i*5)).take 5=pgC p∧0≤p.ser∧p.ser<18446744073709551616)→∃ ps:List Pg,ys=dK ps∧∀ p∈ps,0≤p.ser∧p.ser<18446744073709551616
 | 0,ys,hy,_=>⟨[],cE om,by simp⟩
 | len+1,ys,hy,h=>by
  obtain⟨p0,h0,hs0⟩:=h 0 om
  rw [kP,bH] at h0
  obtain⟨ps,hps,hss⟩:=aHi len (ys.drop 5) (by rw [aK];omega) (fun i hi=>by
   obtain⟨p,hp,hq⟩:=h (i+1) om
   refine⟨p,?_,hq⟩
   rw [bR,show 5+i*5=(i+1)*5 by omega];exact hp)
  refine⟨p0::ps,?_,fun p hp=>(cT.1 hp).elim (fun e=>e▸hs0) (hss p)⟩
  show ys=pgC p0++dK ps
  rw [← hps,← h0,bY]
theorem aKN(ys:List Value)(h:∀ v∈ys,∃ n:Int,v=.int .u64 n∧0≤n∧n<18446744073709551616):∃ l:List Int,l.length=ys.length∧(ys=l.map fun n=>(.int .u64 n:Value))∧∀ n∈l,0≤n∧n<18446744073709551616:=by
 refine⟨ys.map fun v=>match v with|.int _ n=>n|_=>0,by simp,?_,fun n hn=>by
  obtain⟨v,hv,rfl⟩:=bG.1 hn
  obtain⟨n,rfl,h2⟩:=h v hv
  exact h2⟩
 rw [qI]
 refine (List.map_id ys).symm.trans (eX fun v hv=>?_)
 obtain⟨n,h1,-⟩:=h v hv
 simp only [id,Function.comp,h1]
set_option maxRecDepth 100000 in
theorem aLU{fuel:Nat}{cs:List Value}{x:DataW H×List MemPlace}(h:DataW.trod enc prog w 0 sp hd fuel 79 cs=some x):∃ (n:Int) (l:List Int),l.length=16∧cs=bP n l∧(0≤n∧n<18446744073709551616)∧∀ h∈l,0≤h∧h<18446744073709551616:=by
 obtain⟨xs,m,-,-,hl,hxl,hx⟩:=DataW.trod_struct underlying79 h
 have c0:prog.cellsOf 28=1:=by kernel_rfl
 have c1:prog.cellsOf 77=16:=by kernel_rfl
 have c4:prog.cellsOf 79=17:=by kernel_rfl
 rw [c4] at hl
 have hn:xs.length=2:=hxl
 have h0:DataW.trod enc prog w 0 sp hd m 28 ((cs.drop 0).take (prog.cellsOf 28))=xs[0]?:=hx 0 _ rfl
 have h1:DataW.trod enc prog w 0 sp hd m 77 ((cs.drop 1).take (prog.cellsOf 77))=xs[1]?:=hx 1 _ rfl
 rw [c0] at h0
 rw [c1] at h1
 rw [aA om] at h0 h1
 obtain⟨n,e0,u1,u2⟩:=nD underlying28 h0
 obtain⟨ys,m2,-,-,hl1,hl2,hel⟩:=DataW.trod_array underlying77 h1
 obtain⟨l,hll,he,hlu⟩:=aKN ((cs.drop 1).take 16) (fun v hv=>by
  obtain⟨i,hi,rfl⟩:=pH.1 hv
  have hi16:i<16:=by rw [aD] at hi;omega
  have h3:=hel i hi16
  rw [c0,Nat.mul_one,bM hi,aA om] at h3
  simp only [jN,cQ] at h3
  obtain⟨n,h4,u3,u4⟩:=nD underlying28 h3
  simp only [kK,and_true] at h4
  exact⟨n,h4,tZ dc u3,nL u4 dc⟩)
 refine⟨n,l,by rw [hll,aD,aK];omega,?_,⟨tZ dc u1,nL u2 dc⟩,hlu⟩
 match cs,hl with
 | c::r,hl=>
  simp only [bH,jN,cQ,kK,and_true] at e0
  subst e0
  have hr:r.length=16:=by simpa using hl
  rw [show ((Value.int .u64 n::r).drop 1).take 16=r by rw [List.drop_succ_cons,bH,aB om]] at he
  rw [he];rfl
set_option maxRecDepth 100000 in
theorem aIj{fuel:Nat}{cs:List Value}{x:DataW H×List MemPlace}(h:DataW.trod enc prog w 0 sp hd fuel 82 cs=some x):∃ (n:Int) (l:List Int) (a:Option Addr) (len cap:Nat) (ps:List Pg),cs=bF n l (.slice a len cap)∧l.length=16∧Rd [] w 5 (.slice a len cap) (dK ps)∧(0≤n∧n<18446744073709551616)∧(∀ h∈l,0≤h∧h<18446744073709551616)∧∀ p∈ps,0≤p.ser∧p.ser<18446744073709551616:=by
 obtain⟨xs,m,-,-,hl,hxl,hx⟩:=DataW.trod_struct underlying82 h
 have c0:prog.cellsOf 79=17:=by kernel_rfl
 have c1:prog.cellsOf 80=1:=by kernel_rfl
 have c2:prog.cellsOf 177=5:=by kernel_rfl
 have c4:prog.cellsOf 82=18:=by kernel_rfl
 rw [c4] at hl
 have hxn:xs.length=2:=hxl
 have h0:DataW.trod enc prog w 0 sp hd m 79 ((cs.drop 0).take (prog.cellsOf 79))=xs[0]?:=hx 0 _ rfl
 have h1:DataW.trod enc prog w 0 sp hd m 80 ((cs.drop 17).take (prog.cellsOf 80))=xs[1]?:=hx 1 _ rfl
 rw [c0] at h0
 rw [c1] at h1
 rw [aA om] at h0 h1
 obtain⟨n,l,hll,e0,hn,hu⟩:=aLU h0
 obtain⟨a,len,cap,ys,e1,-,-,hrd,hyl,hG⟩:=aJw (G:=fun cs=>∃ p:Pg,cs=pgC p∧0≤p.ser∧p.ser<18446744073709551616) underlying80 c2 dc h1 (fun fuel cells z h=>aLT h)
 obtain⟨ps,hps,hss⟩:=aHi len ys hyl hG
 subst hps
 refine⟨n,l,a,len,cap,ps,?_,hll,hrd,⟨by omega,by omega⟩,hu,hss⟩
 rw [bH] at e0
 rw [← bY 17 cs,e0]
 have hd1:(cs.drop 17).length=1:=by rw [aK];omega
 rw [aB om] at e1
 rw [e1]
set_option maxRecDepth 100000 in
theorem aB1{b:Nat}{r:Reach}{v:Value}{d:DataW H}{ps:List MemPlace}(hval:Value.okWide prog w r b 82 v)(hd':DataW.Trod enc prog w 0 sp hd 82 v d ps) :
  ∃ (n:Int) (l:List Int) (a:Option Addr) (len cap:Nat) (ps:List Pg),v=.agg (bF n l (.slice a len cap)).toArray∧l.length=16∧Rd [] w 5 (.slice a len cap) (dK ps)∧(0≤n∧n<18446744073709551616)∧(∀ h∈l,0≤h∧h<18446744073709551616)∧∀ p∈ps,0≤p.ser∧p.ser<18446744073709551616:=by
 unfold Value.okWide at hval
 rw [underlying82] at hval
 obtain⟨cs,rfl,-⟩:=hval
 obtain⟨fuel,h⟩:=hd'
 obtain⟨n,l,a,len,cap,ps,h1,h2,h3⟩:=aIj h
 refine⟨n,l,a,len,cap,ps,?_,h2,h3⟩
 rw [← h1]
 simp [Value.cells]
end
end
end Go.Proofs.YtnigolgkkjidiaaGreat
