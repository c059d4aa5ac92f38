/- What a Commit does of a device that has power: the plain law. -/
import Derived.Test.YtnhnpjokpelkbaaGreatPp33
set_option linter.unusedVariables false
set_option linter.unusedSimpArgs false
set_option linter.unusedSectionVars false
set_option maxHeartbeats 1000000
namespace Go.Proofs.YtnhnpjokpelkbaaGreat
open Go
theorem aEA(x M b:List UInt8)(i:Nat):spl (x++M) (x.length+i) b=x++spl M i b:=by
 unfold spl
 rw [iG,gD,aK (l:=x) oQ,(cP oQ:List.drop (x.length+i+b.length) x=[]),show x.length+i-x.length=i by omega,show x.length+i+b.length-x.length=i+b.length by omega,List.nil_append]
 simp only [aM]
theorem aHS:∀ {B:List (List UInt8)} (R:List UInt8) {k:Nat} {b:List UInt8},(∀ x∈B,x.length=256)→k<B.length→b.length=256→spl (B.flatten++R) (256*k) b=(B.set k b).flatten++R
 | [],R,k,b,_,hk,_=>absurd hk (by simp)
 | x::r,R,0,b,h,_,hb=>by
  have hx:=h x (by simp)
  rw [fF,Nat.mul_zero,dK,dK,aM]
  unfold spl
  rw [cT,List.nil_append,show 0+b.length=x.length by omega,List.drop_left,aM]
 | x::r,R,k+1,b,h,hk,hb=>by
  have hx:=h x (by simp)
  rw [rP,dK,dK,aM,aM,show 256*(k+1)=x.length+256*k by omega,aEA,aHS R (fun y hy=>h y (by simp [hy])) (by simpa using hk) hb]
theorem aFo{B:List (List UInt8)}(h:∀ x∈B,x.length=256):B.flatten.length=256*B.length:=by
 induction B with
 | nil=>rfl
 | cons x r ih=>rw [dK,aB,h x (by simp),ih fun y hy=>h y (by simp [hy]),aX];omega
def uH(B:List (List UInt8))(rows:List (Nat×List UInt8)):List (List UInt8):=rows.foldl (fun B x=>B.set x.1 x.2) B
theorem aF3(rows:List (Nat×List UInt8)):∀ B,(uH B rows).length=B.length:=by
 unfold uH
 induction rows with
 | nil=>intro B;rfl
 | cons x r ih=>intro B;rw [dS,ih,bS]
theorem aF2(rows:List (Nat×List UInt8)):∀ {B:List (List UInt8)},(∀ x∈B,x.length=256)→(∀ x∈rows,x.2.length=256)→∀ x∈uH B rows,x.length=256:=by
 unfold uH
 induction rows with
 | nil=>intro B h _;exact h
 | cons y r ih=>
  intro B h hr
  rw [dS]
  exact ih (fun z hz=>by rcases eY hz with h1|rfl;exact h z h1;exact hr y (by simp)) fun z hz=>hr z (by simp [hz])
theorem aGU(rows:List (Nat×List UInt8)){k:Nat}:∀ (B:List (List UInt8)),(∀ x∈rows,x.1≠k)→(uH B rows)[k]?=B[k]?:=by
 unfold uH
 induction rows with
 | nil=>intro B _;rfl
 | cons y r ih=>intro B h;rw [dS,ih _ fun x hx=>h x (by simp [hx]),kM (h y (by simp))]
abbrev Acs:=List (Int×Int×Int)
def mU(A l:Acs):Acs:=l.foldl (fun A a=>if A.length<16384 then A++[a] else A) A
theorem oD(A x y:Acs):mU (mU A x) y=mU A (x++y):=gX.symm
theorem Dv.Live.acts{σ:Dv}(h:σ.Live)(a:Int×Int×Int):(σ.act a).acts=mU σ.acts [a]:=by
 have e:σ.act a=σ.push a:=by unfold Dv.act;rw [if_neg (by rw [h.f];decide)]
 rw [e]
 unfold Dv.push mU
 rw [dS,List.foldl_nil]
 split <;> rfl
def stA(x:Nat×List UInt8):Acs:=[(1,((256*x.1:Nat):Int),(x.2.length:Int)),(2,((256*x.1:Nat):Int),(x.2.length:Int))]
def qN(l:List (Nat×List UInt8)):Acs:=l.flatMap stA
def feA:Acs:=[(3,0,0)]
theorem Dv.Sta.putA{σ:Dv}{n:Nat}{M:List UInt8}(h:σ.Sta n M){k:Nat}{bs:List UInt8}(hl:256*k+bs.length≤8*n):(fH k bs σ).2.acts=mU σ.acts (stA (k,bs)):=by
 obtain⟨h1,h2⟩:=h.store (i:=256*k) hl
 obtain⟨h3,h4⟩:=h2.flush (i:=256*k) (m:=bs.length) hl
 have hr:σ.rdy ((256*k:Nat):Int) bs.length=0:=h.l.rdy oQ oQ (by have:=h.len;omega)
 have hr2:(σ.store ((256*k:Nat):Int) bs).rdy ((256*k:Nat):Int) bs.length=0:=h2.l.rdy oQ oQ (by have:=h2.len;omega)
 obtain⟨-,-,q1⟩:=h.l.act (1,((256*k:Nat):Int),(bs.length:Int))
 obtain⟨-,-,q2⟩:=h2.l.act (2,((256*k:Nat):Int),(bs.length:Int))
 have e1:(σ.store ((256*k:Nat):Int) bs).acts=mU σ.acts [(1,((256*k:Nat):Int),(bs.length:Int))]:=by
  rw [← h.l.acts]
  unfold Dv.store
  rw [if_pos hr,if_pos q1]
  rfl
 have e2:((σ.store ((256*k:Nat):Int) bs).flush ((256*k:Nat):Int) bs.length).acts=mU (σ.store ((256*k:Nat):Int) bs).acts [(2,((256*k:Nat):Int),(bs.length:Int))]:=by
  rw [← h2.l.acts]
  unfold Dv.flush
  rw [if_pos hr2,if_pos q2]
  rfl
 have e3:(fH k bs σ).2=(σ.store ((256*k:Nat):Int) bs).flush ((256*k:Nat):Int) bs.length:=by
  unfold fH DS.and
  rw [if_pos (show (stS (256*k) bs σ).1=0 from h1)]
  rfl
 rw [e3,e2,e1,oD]
 rfl
theorem Dv.Sta.fenceA{σ:Dv}{n:Nat}{M:List UInt8}(h:σ.Sta n M):(feS σ).2.acts=mU σ.acts feA:=by
 have hr:σ.rdy 0 0=0:=h.l.rdy oQ oQ oQ
 obtain⟨-,-,q1⟩:=h.l.act (3,0,0)
 show σ.fence.acts=_
 unfold feA
 rw [← h.l.acts]
 unfold Dv.fence
 rw [if_pos hr,if_pos q1]
 rfl
theorem Dv.Sta.dooA{σ:Dv}{n:Nat}{M:List UInt8}(h:σ.Sta n M):σ.doo.acts=mU σ.acts [(4,0,0)]:=by
 rw [← h.l.acts]
 unfold Dv.doo
 rw [if_neg (by rw [h.l.d];decide)]
structure Did(f:DS)(σ:Dv)(n:Nat)(M:List UInt8)(l:Acs):Prop where
 e:(f σ).1=0
 s:(f σ).2.Sta n M
 a:(f σ).2.acts=mU σ.acts l
theorem Did.and{f g:DS}{σ:Dv}{n:Nat}{M N:List UInt8}{l k:Acs}(h:Did f σ n M l)(hg:∀ τ:Dv,τ.Sta n M→Did g τ n N k):Did (f.and g) σ n N (l++k):=by
 have h2:=hg _ h.s
 have e:(f.and g) σ=g (f σ).2:=by unfold DS.and;rw [if_pos h.e]
 exact⟨by rw [e];exact h2.e,by rw [e];exact h2.s,by rw [e,h2.a,h.a,oD]⟩
theorem Did.put{σ:Dv}{n:Nat}{M:List UInt8}(h:σ.Sta n M){k:Nat}{bs:List UInt8}(hl:256*k+bs.length≤8*n):Did (fH k bs) σ n (spl M (256*k) bs) (stA (k,bs)):=⟨(h.put hl).1,(h.put hl).2,h.putA hl⟩
theorem Did.fe{σ:Dv}{n:Nat}{M:List UInt8}(h:σ.Sta n M):Did feS σ n M feA:=⟨h.fence.1,h.fence.2,h.fenceA⟩
theorem Did.putB:∀ (rows:List (Nat×List UInt8)) {σ:Dv} {n:Nat} {B:List (List UInt8)} {R:List UInt8},σ.Sta n (B.flatten++R)→(∀ x∈B,x.length=256)→(∀ x∈rows,x.1<B.length∧x.2.length=256)→256*B.length≤8*n→Did (putL rows) σ n ((uH B rows).flatten++R) (qN rows)
 | [],σ,n,B,R,h,_,_,_=>⟨rfl,h,rfl⟩
 | x::r,σ,n,B,R,h,hB,hr,hl=>by
  obtain⟨h1,h2⟩:=hr x (by simp)
  have hp:=Did.put h (k:=x.1) (bs:=x.2) oQ
  rw [aHS R hB h1 h2] at hp
  exact hp.and fun τ ht=>Did.putB r ht (fun y hy=>by rcases eY hy with h|rfl;exact hB y h;exact h2) (fun y hy=>by rw [bS];exact hr y (by simp [hy])) (by rw [bS];exact hl)
theorem Did.putR:∀ (rows:List (Nat×List UInt8)) {σ:Dv} {n:Nat} {F R:List UInt8},σ.Sta n (F++R)→(∀ x∈rows,F.length≤256*x.1∧256*x.1+x.2.length≤8*n)→∃ R',Did (putL rows) σ n (F++R') (qN rows)
 | [],σ,n,F,R,h,_=>⟨R,rfl,h,rfl⟩
 | x::r,σ,n,F,R,h,hr=>by
  obtain⟨h1,h2⟩:=hr x (by simp)
  have hp:=Did.put h (k:=x.1) (bs:=x.2) h2
  rw [show 256*x.1=F.length+(256*x.1-F.length) by omega,aEA] at hp
  obtain⟨R',hR⟩:=Did.putR r hp.s fun y hy=>hr y (by simp [hy])
  refine⟨R',?_⟩
  have e:(putL (x::r)) σ=putL r (fH x.1 x.2 σ).2:=by show (fH x.1 x.2).and (putL r) σ=_;unfold DS.and;rw [if_pos hp.e]
  exact⟨by rw [e];exact hR.e,by rw [e];exact hR.s,by rw [e,hR.a,hp.a,oD];rfl⟩
def aCc(p:Nat)(c:UInt64)(es:List UInt64)(l:List Ent):Acs:=
 qN (fR (Gm.leaves p) (pB c l))++feA++[(4,0,0)]++(qN (nN p es l)++feA)++(stA (Gm.leaves p,List.replicate (256*(1+l.length)) 0)++feA)
theorem aIV(B:List (List UInt8))(k:Nat)(b:List UInt8):eX (B.set k b)=(eX B).set k (Sha.sum (fJ k b)):=by
 unfold eX
 apply cB
 intro i
 rw [dC,dT,dT,dC,lL]
 by_cases h:k=i
 ·subst h
  by_cases hl:k<B.length
  ·simp [hl]
  ·simp [hl]
 ·simp [h]
theorem aDI:∀ (rows:List (Nat×List UInt8)) (B:List (List UInt8)),jE (eX B) (rows.map fun x=>((x.1:Int),Sha.sum (fJ x.1 x.2)))=eX (uH B rows)
 | [],B=>rfl
 | x::r,B=>by
  show jE ((eX B).set ((x.1:Int)).toNat (Sha.sum (fJ x.1 x.2))) _=eX (uH (B.set x.1 x.2) r)
  rw [aP,← aIV]
  exact aDI r _
theorem aIf(p:Nat)(es:List UInt64)(l:List Ent):oH p es l=(nN p es l).map fun x=>((x.1:Int),Sha.sum (fJ x.1 x.2)):=by
 unfold oH nN lP oR
 rw [aV,gQ,gQ]
 rfl
theorem aHr{p t:Nat}(h:Gm.Ok p t){l:List Ent}(hm:gH p t l=true)(es:List UInt64):∀ x∈nN p es l,x.1<Gm.leaves p∧x.2.length=256:=fun x hx=>by
 have hLe:Gm.leaves p=1+Gm.epochs p+Gm.sealed p:=rfl
 rcases bK.1 hx with h1|h1
 ·obtain⟨y,hy,rfl⟩:=bH.1 h1
  obtain⟨i,hi⟩:=cC.1 hy
  have hb:=rW hm i y hi
  unfold gH at hm
  rw [bM] at hm
  obtain⟨q1,q2,-⟩:=lX hm.2 i y hi
  refine⟨?_,hb⟩
  show 1+Gm.epochs p+y.1.toNat<_
  omega
 ·obtain⟨y,hy,rfl⟩:=bH.1 h1
  have:=rE hm y hy
  exact⟨by show 1+y<_;omega,nA y es⟩
theorem aJF{p t n:Nat}{σ:Dv}{r:Rg}{s:So}{B:List (List UInt8)}{R:List UInt8}{c:UInt64}{l:List Ent}(h:Gm.Ok p t)(hS:σ.Sta n (B.flatten++R))(hn:8*n=256*Gm.total p t)(hB:∀ b∈B,b.length=256)(hBl:B.length=Gm.leaves p)(hlv:s.lv=eX B)(hm:gH p t l=true)(hc:r.c<(c.toNat:Int)) :
  ∃ σ',kO p c l (σ,r,s)=(0,(σ',⟨(c.toNat:Int),fQ (uH B (nN p (dL c s.es l) l))⟩,⟨dL c s.es l,eX (uH B (nN p (dL c s.es l) l)),s.w,s.st⟩)) ∧
   (∃ R',σ'.Sta n ((uH B (nN p (dL c s.es l) l)).flatten++R'))∧σ'.acts=mU σ.acts (aCc p c (dL c s.es l) l):=by
 have htot:Gm.total p t=Gm.leaves p+(1+t):=rfl
 have hfl:=aFo hB
 have hlen:1≤l.length∧l.length≤t:=by unfold gH at hm;rw [bM,decide_eq_true_iff] at hm;exact hm.1
 have hlay:=aHr h hm (dL c s.es l)
 have hlvs:jE s.lv (oH p (dL c s.es l) l)=eX (uH B (nN p (dL c s.es l) l)):=by rw [hlv,aIf,aDI]
 have h256:∀ b∈pB c l,b.length=256:=fun b hb=>by
  rcases bZ.1 hb with rfl|hb
  ·exact rG c l
  ·obtain⟨y,hy,rfl⟩:=bH.1 hb
   obtain⟨i,hi⟩:=cC.1 hy
   exact rW hm i y hi
 have hlb:(pB c l).length=1+l.length:=by show (lJ c l::l.map Prod.snd).length=_;rw [aX,aD];omega
 obtain⟨R1,hp1⟩:=Did.putR (fR (Gm.leaves p) (pB c l)) hS fun x hx=>by
  obtain⟨i,hi,rfl⟩:=vL.1 hx
  have:=h256 _ (cE hi)
  refine⟨by rw [hfl];show _≤256*(Gm.leaves p+i);omega,?_⟩
  show 256*(Gm.leaves p+i)+_≤_
  rw [this]
  omega
 have hL:Did (nV p c l) σ n (B.flatten++R1) (qN (fR (Gm.leaves p) (pB c l))++feA):=hp1.and fun τ ht=>Did.fe ht
 generalize hA1:qN (fR (Gm.leaves p) (pB c l))++feA=A1 at hL ⊢
 have hA:aCc p c (dL c s.es l) l=A1++[(4,0,0)]++(qN (nN p (dL c s.es l) l)++feA)++(stA (Gm.leaves p,List.replicate (256*(1+l.length)) 0)++feA):=by rw [← hA1];rfl
 obtain⟨d1,d2⟩:=hL.s.doo
 have d3:=hL.s.dooA
 have hreg:∀ x:Rg,r.c<x.c→(kB x) ((nV p c l σ).2,r)=(0,((nV p c l σ).2.doo,x)):=fun x hx=>by
  unfold kB qO sE oI
  simp only [hL.s.l.d,iV,if_false,d1,if_true]
  rw [if_neg oQ,if_neg oQ,if_neg oQ]
 have hp2:=(Did.putB (nN p (dL c s.es l) l) d2 hB (fun x hx=>by rw [hBl];exact hlay x hx) oQ).and (g:=feS) fun τ ht=>Did.fe ht
 have hB2:=aF2 (nN p (dL c s.es l) l) hB fun x hx=>(hlay x hx).2
 have hBl2:=aF3 (nN p (dL c s.es l) l) B
 unfold kO
 dsimp only
 rw [hlvs]
 generalize hE:dL c s.es l=es at *
 have hlyD:uY p es l=(putL (nN p es l)).and feS:=rfl
 rw [← hlyD] at hp2
 generalize uH B (nN p es l)=B2 at *
 have hfl2:=aFo hB2
 obtain⟨R2,hp3⟩:∃ R2,Did ((uY p es l).and (gB (Gm.leaves p) (1+l.length))) (nV p c l σ).2.doo n (B2.flatten++R2) ((qN (nN p es l)++feA)++(stA (Gm.leaves p,List.replicate (256*(1+l.length)) 0)++feA)):=by
  refine⟨spl R1 0 (List.replicate (256*(1+l.length)) 0),hp2.and fun τ ht=>?_⟩
  have hq:=Did.put ht (k:=Gm.leaves p) (bs:=List.replicate (256*(1+l.length)) 0) (by rw [aS];omega)
  rw [show 256*Gm.leaves p=B2.flatten.length+0 by omega,aEA] at hq
  exact hq.and fun τ' ht'=>Did.fe ht'
 have ha:(((nV p c l).t.and (kB ⟨(c.toNat:Int),fU (eX B2)⟩)) (σ,r))=(0,((nV p c l σ).2.doo,⟨(c.toNat:Int),fQ B2⟩)):=by
  rw [TS.and_eq (y:=((nV p c l σ).2,r)) (by unfold DS.t;dsimp only;rw [hL.e])]
  exact hreg _ hc
 rw [ha]
 dsimp only
 rw [if_neg (fun hh=>hh rfl),if_neg (fun hh=>hh hp3.e)]
 refine⟨_,rfl,⟨R2,hp3.s⟩,?_⟩
 rw [hp3.a,d3,hL.a,oD,oD,hA]
 congr 1
 simp only [aM]
structure aAJ(p t n:Nat)(X:UInt64→Nat→List UInt8→List UInt8)(σ:Dv)(s:So)(now:Nat→List UInt8)(B:List (List UInt8))(R:List UInt8):Prop where
 sta:σ.Sta n (B.flatten++R)
 b256:∀ b∈B,b.length=256
 bl:B.length=Gm.leaves p
 lv:s.lv=eX B
 w:s.w=true
 st:s.st=0
 es:s.es.length=Gm.sealed p
 rd:∀ j<Gm.sealed p,X (s.es.getD j 0) j (B.getD (Ks p j) [])=now j
theorem aAJ.read{p t n:Nat}{X:UInt64→Nat→List UInt8→List UInt8}{σ:Dv}{s:So}{now:Nat→List UInt8}{B:List (List UInt8)}{R:List UInt8}(hK:aAJ p t n X σ s now B R)(hn:8*n=256*Gm.total p t){j:Nat}(hj:j<Gm.sealed p):rdS p X (j:Int) σ s=(0,now j,s):=by
 have htot:Gm.total p t=Gm.leaves p+(1+t):=rfl
 have hLe:Gm.leaves p=1+Gm.epochs p+Gm.sealed p:=rfl
 have hKs:Ks p j=1+Gm.epochs p+j:=rfl
 have hlt:Ks p j<B.length:=by rw [hK.bl];omega
 obtain⟨b,hb⟩:∃ b,B[Ks p j]?=some b:=⟨_,aA hlt⟩
 have hbk:σ.blk (Ks p j)=b:=hK.sta.blk hK.b256 hb oQ
 have hlv:lW s.lv ((Ks p j:Nat):Int)=Sha.sum (fJ (Ks p j) b):=by
  rw [hK.lv]
  unfold lW
  rw [if_pos ⟨by omega,by rw [jL];exact_mod_cast hlt⟩,aP]
  unfold eX
  rw [aC,dC,hb]
  rfl
 have hrd:=hK.rd j hj
 rw [aC (l:=B),hb] at hrd
 unfold rdS
 rw [if_neg (fun hh=>hh hK.st),if_neg (fun hh=>hh ⟨by omega,by exact_mod_cast hj⟩),if_neg (by rw [hK.sta.l.d];decide),aP,hbk,if_neg (fun hh=>hh hlv.symm)]
 exact congrArg (fun z=>(0,z,s)) hrd
def aLO(now:Nat→List UInt8)(l:List Ent):Nat→List UInt8:=l.foldl (fun f x=>fun j=>if j=x.1.toNat then x.2 else f j) now
theorem aFF{p:Nat}{X:UInt64→Nat→List UInt8→List UInt8}(hX:∀ e k b,X e k (X e k b)=b)(c:UInt64):∀ (l:List Ent) (B:List (List UInt8)) (es:List UInt64) (now:Nat→List UInt8),(∀ x∈l,x.1.toNat<Gm.sealed p)→es.length=Gm.sealed p→B.length=Gm.leaves p→(∀ j<Gm.sealed p,X (es.getD j 0) j (B.getD (Ks p j) [])=now j) →
  ∀ j<Gm.sealed p,X ((dL c es (dH X c l)).getD j 0) j ((uH B ((dH X c l).map fun x=>(Ks p x.1.toNat,x.2))).getD (Ks p j) [])=aLO now l j
 | [],B,es,now,_,_,_,h=>h
 | x::r,B,es,now,hl,he,hb,h=>by
  have hx:=hl x (by simp)
  have hLe:Gm.leaves p=1+Gm.epochs p+Gm.sealed p:=rfl
  refine aFF hX c r (B.set (Ks p x.1.toNat) (X c x.1.toNat x.2)) (es.set x.1.toNat c) _ (fun y hy=>hl y (by simp [hy])) (by rw [bS];exact he) (by rw [bS];exact hb) fun j hj=>?_
  dsimp only
  have hK:∀ k,Ks p k=1+Gm.epochs p+k:=fun k=>rfl
  by_cases hjx:j=x.1.toNat
  ·rw [if_pos hjx]
   subst hjx
   rw [aC,aC,jP (by rw [he];exact hx),jP (by rw [hb,hK];omega)]
   exact hX _ _ _
  ·rw [if_neg hjx,← h j hj,aC,aC,kM (fun e=>hjx e.symm),kM (fun e=>hjx (by rw [hK,hK] at e;omega)),← aC,← aC]
theorem wX{p t:Nat}{X:UInt64→Nat→List UInt8→List UInt8}(hX:∀ e k b,(X e k b).length=b.length)(c:UInt64)(l:List Ent):gH p t (dH X c l)=gH p t l:=by
 have key:∀ (l:List Ent) (a:Int),mR p a (dH X c l)=mR p a l:=fun l=>by
  induction l with
  | nil=>intro a;rfl
  | cons x r ih=>
   intro a
   show (decide (a<x.1∧x.1<(Gm.sealed p:Nat)∧(X c x.1.toNat x.2).length=256)&&mR p x.1 (dH X c r))=(decide (a<x.1∧x.1<(Gm.sealed p:Nat)∧x.2.length=256)&&mR p x.1 r)
   rw [ih,hX]
 unfold gH
 rw [key,oE]
theorem aLK{p t:Nat}{l:List Ent}(hm:gH p t l=true):∀ x∈l,x.1.toNat<Gm.sealed p:=fun x hx=>by
 obtain⟨i,hi⟩:=cC.1 hx
 unfold gH at hm
 rw [bM] at hm
 obtain⟨h1,h2,-⟩:=lX hm.2 i x hi
 omega
theorem aNJ{p t:Nat}{r:Rg}{s:So}{l:List Ent}(h0:s.st=0)(hw:s.w=true)(hc:r.c≠18446744073709551615)(hm:gH p t l=true):lQ p t r s l=0:=by
 unfold gH at hm
 rw [bM,decide_eq_true_iff] at hm
 unfold lQ
 rw [if_neg (fun hh=>hh h0),if_neg (by rw [hw];decide),if_neg hc,if_neg oQ,if_neg (fun hh=>by rw [hm.2] at hh;cases hh.2)]
theorem aLL{p t:Nat}{r:Rg}{s:So}{l:List Ent}(h0:s.st=0)(hw:s.w=true)(hc:r.c≠18446744073709551615)(hne:l≠[])(hm:gH p t l=false):lQ p t r s l≠0:=by
 unfold lQ
 rw [if_neg (fun hh=>hh h0),if_neg (by rw [hw];decide),if_neg hc]
 by_cases ht:t<l.length
 ·rw [if_pos ht];decide
 ·rw [if_neg ht]
  have hl:1≤l.length:=by
   rcases l with _|⟨x,r⟩
   ·exact absurd rfl hne
   ·simp
  have hf:mR p (-1) l=false:=by
   unfold gH at hm
   rw [decide_eq_true (show 1≤l.length∧l.length≤t by omega),iY] at hm
   exact hm
  rw [if_pos ⟨hne,hf⟩]
  decide
theorem aAJ.commit{p t n:Nat}{X:UInt64→Nat→List UInt8→List UInt8}(hX:∀ e k b,X e k (X e k b)=b)(hXl:∀ e k b,(X e k b).length=b.length){σ:Dv}{r:Rg}{s:So}{now:Nat→List UInt8}{B:List (List UInt8)}{R:List UInt8}{l:List Ent}(h:Gm.Ok p t)(hn:8*n=256*Gm.total p t)(hK:aAJ p t n X σ s now B R)(h0:0≤r.c)(hc:r.c<18446744073709551615)(hm:gH p t l=true) :
  ∃ σ' s' B' R',cmS p t X l (σ,r,s)=(0,(σ',⟨r.c+1,fQ B'⟩,s'))∧aAJ p t n X σ' s' (aLO now l) B' R'∧σ'.acts=mU σ.acts (aCc p (UInt64.ofNat (r.c+1).toNat) (dL (UInt64.ofNat (r.c+1).toNat) s.es (dH X (UInt64.ofNat (r.c+1).toNat) l)) (dH X (UInt64.ofNat (r.c+1).toNat) l)):=by
 have hcu:((UInt64.ofNat (r.c+1).toNat).toNat:Int)=r.c+1:=by rw [aW];omega
 have hms:gH p t (dH X (UInt64.ofNat (r.c+1).toNat) l)=true:=by rw [wX hXl];exact hm
 have hcm:cmS p t X l (σ,r,s)=kO p (UInt64.ofNat (r.c+1).toNat) (dH X (UInt64.ofNat (r.c+1).toNat) l) (σ,r,s):=by
  unfold cmS
  dsimp only
  rw [if_neg (fun hh=>hh (aNJ hK.st hK.w oQ hm)),if_neg (fun e=>by subst e;unfold gH at hm;simp at hm)]
 rw [hcm]
 have hat:=aLK hm
 have hfold:=aFF hX (UInt64.ofNat (r.c+1).toNat) l B s.es now hat hK.es hK.bl hK.rd
 generalize UInt64.ofNat (r.c+1).toNat=c at *
 obtain⟨σ',hd,⟨R',hS⟩,hA⟩:=aJF (r:=r) (c:=c) h hK.sta hn hK.b256 hK.bl hK.lv hms oQ
 have hlay:=aHr h hms (dL c s.es (dH X c l))
 rw [hcu] at hd
 refine⟨σ',_,uH B (nN p (dL c s.es (dH X c l)) (dH X c l)),R',hd,⟨hS,aF2 _ hK.b256 fun x hx=>(hlay x hx).2,by rw [aF3];exact hK.bl,rfl,hK.w,hK.st,by show (dL _ _ _).length=_;rw [lG];exact hK.es,fun j hj=>?_⟩,hA⟩
 rw [← hfold j hj]
 dsimp only
 congr 1
 have e:uH B (nN p (dL c s.es (dH X c l)) (dH X c l))=uH (uH B ((dH X c l).map fun x=>(Ks p x.1.toNat,x.2))) ((cZ (dH X c l)).map fun q=>(1+q,epB q (dL c s.es (dH X c l)))):=by
  unfold nN uH
  rw [gX]
 rw [e,aC,aC,aGU]
 intro x hx
 obtain⟨q,hq,rfl⟩:=bH.1 hx
 have:=rE hms q hq
 show 1+q≠1+Gm.epochs p+j
 omega
end Go.Proofs.YtnhnpjokpelkbaaGreat
