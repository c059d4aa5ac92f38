/- What a Commit does of a device that has power: the plain law. -/
import Derived.Test.YtnhnpjokpelkbaaGreatPs24
import Derived.Test.YtnhnpjokpelkbaaGreatPs28
import Derived.Test.YtnhnpjokpelkbaaGreatPs32
set_option linter.unusedVariables false
set_option linter.unusedSimpArgs false
set_option linter.unusedSectionVars false
set_option maxHeartbeats 1000000
namespace Go.Proofs.YtnhnpjokpelkbaaGreat
open Go
theorem aEx(x M b:List UInt8)(i:Nat):spl (x++M) (x.length+i) b=x++spl M i b:=by
 unfold spl
 rw [iG,gD,aJ (l:=x) oQ,(cZ oQ:List.drop (x.length+i+b.length) x=[]),show x.length+i-x.length=i by omega,show x.length+i+b.length-x.length=i+b.length by omega,List.nil_append]
 simp only [aV]
theorem aHZ:∀ {B:List (List UInt8)} (R:List UInt8) {k:Nat} {b:List UInt8},(∀ x∈B,x.length=256)→k<B.length→b.length=256→spl (B.flatten++R) (256*k) b=(B.set k b).flatten++R
 | [],R,k,b,_,hk,_=>absurd hk (by simp)
 | x::r,R,0,b,h,_,hb=>by
  have hx:=h x (by simp)
  rw [fJ,aAd,cQ,cQ,aV]
  unfold spl
  rw [cU,List.nil_append,show 0+b.length=x.length by omega,List.drop_left,aV]
 | x::r,R,k+1,b,h,hk,hb=>by
  have hx:=h x (by simp)
  rw [nR,cQ,cQ,aV,aV,show 256*(k+1)=x.length+256*k by omega,aEx,aHZ R (fun y hy=>h y (by simp [hy])) (by simpa using hk) hb]
theorem aFg{B:List (List UInt8)}(h:∀ x∈B,x.length=256):B.flatten.length=256*B.length:=by
 induction B with
 | nil=>rfl
 | cons x r ih=>rw [cQ,aB,h x (by simp),ih fun y hy=>h y (by simp [hy]),aW];omega
def uT(B:List (List UInt8))(rows:List (Nat×List UInt8)):List (List UInt8):=rows.foldl (fun B x=>B.set x.1 x.2) B
theorem aFV(rows:List (Nat×List UInt8)):∀ B,(uT B rows).length=B.length:=by
 unfold uT
 induction rows with
 | nil=>intro B;rfl
 | cons x r ih=>intro B;rw [dS,ih,bQ]
theorem aFU(rows:List (Nat×List UInt8)):∀ {B:List (List UInt8)},(∀ x∈B,x.length=256)→(∀ x∈rows,x.2.length=256)→∀ x∈uT B rows,x.length=256:=by
 unfold uT
 induction rows with
 | nil=>intro B h _;exact h
 | cons y r ih=>
  intro B h hr
  rw [dS]
  exact ih (fun z hz=>by rcases eJ hz with h1|rfl;exact h z h1;exact hr y (by simp)) fun z hz=>hr z (by simp [hz])
theorem aGX(rows:List (Nat×List UInt8)){k:Nat}:∀ (B:List (List UInt8)),(∀ x∈rows,x.1≠k)→(uT B rows)[k]?=B[k]?:=by
 unfold uT
 induction rows with
 | nil=>intro B _;rfl
 | cons y r ih=>intro B h;rw [dS,ih _ fun x hx=>h x (by simp [hx]),kH (h y (by simp))]
abbrev Acs:=List (Int×Int×Int)
def mG(A l:Acs):Acs:=l.foldl (fun A a=>if A.length<16384 then A++[a] else A) A
theorem oG(A x y:Acs):mG (mG A x) y=mG A (x++y):=gX.symm
theorem Dv.Live.acts{σ:Dv}(h:σ.Live)(a:Int×Int×Int):(σ.act a).acts=mG σ.acts [a]:=by
 have e:σ.act a=σ.push a:=by unfold Dv.act;rw [if_neg (by rw [h.f];decide)]
 rw [e]
 unfold Dv.push mG
 rw [dS,List.foldl_nil]
 split <;> rfl
def stA(x:Nat×List UInt8):Acs:=[(1,((256*x.1:Nat):Int),(x.2.length:Int)),(2,((256*x.1:Nat):Int),(x.2.length:Int))]
def qW(l:List (Nat×List UInt8)):Acs:=l.flatMap stA
def feA:Acs:=[(3,0,0)]
theorem Dv.Sta.putA{σ:Dv}{n:Nat}{M:List UInt8}(h:σ.Sta n M){k:Nat}{bs:List UInt8}(hl:256*k+bs.length≤8*n):(eY k bs σ).2.acts=mG σ.acts (stA (k,bs)):=by
 obtain⟨h1,h2⟩:=h.store (i:=256*k) hl
 obtain⟨h3,h4⟩:=h2.flush (i:=256*k) (m:=bs.length) hl
 have hr:σ.rdy ((256*k:Nat):Int) bs.length=0:=h.l.rdy oQ oQ (by have:=h.len;omega)
 have hr2:(σ.store ((256*k:Nat):Int) bs).rdy ((256*k:Nat):Int) bs.length=0:=h2.l.rdy oQ oQ (by have:=h2.len;omega)
 obtain⟨-,-,q1⟩:=h.l.act (1,((256*k:Nat):Int),(bs.length:Int))
 obtain⟨-,-,q2⟩:=h2.l.act (2,((256*k:Nat):Int),(bs.length:Int))
 have e1:(σ.store ((256*k:Nat):Int) bs).acts=mG σ.acts [(1,((256*k:Nat):Int),(bs.length:Int))]:=by
  rw [← h.l.acts]
  unfold Dv.store
  rw [if_pos hr,if_pos q1]
  rfl
 have e2:((σ.store ((256*k:Nat):Int) bs).flush ((256*k:Nat):Int) bs.length).acts=mG (σ.store ((256*k:Nat):Int) bs).acts [(2,((256*k:Nat):Int),(bs.length:Int))]:=by
  rw [← h2.l.acts]
  unfold Dv.flush
  rw [if_pos hr2,if_pos q2]
  rfl
 have e3:(eY k bs σ).2=(σ.store ((256*k:Nat):Int) bs).flush ((256*k:Nat):Int) bs.length:=by
  unfold eY DS.and
  rw [if_pos (show (stS (256*k) bs σ).1=0 from h1)]
  rfl
 rw [e3,e2,e1,oG]
 rfl
theorem Dv.Sta.fenceA{σ:Dv}{n:Nat}{M:List UInt8}(h:σ.Sta n M):(feS σ).2.acts=mG σ.acts feA:=by
 have hr:σ.rdy 0 0=0:=h.l.rdy oQ oQ oQ
 obtain⟨-,-,q1⟩:=h.l.act (3,0,0)
 show σ.fence.acts=_
 unfold feA
 rw [← h.l.acts]
 unfold Dv.fence
 rw [if_pos hr,if_pos q1]
 rfl
theorem Dv.Sta.dooA{σ:Dv}{n:Nat}{M:List UInt8}(h:σ.Sta n M):σ.doo.acts=mG σ.acts [(4,0,0)]:=by
 rw [← h.l.acts]
 unfold Dv.doo
 rw [if_neg (by rw [h.l.d];decide)]
structure Did(f:DS)(σ:Dv)(n:Nat)(M:List UInt8)(l:Acs):Prop where
 e:(f σ).1=0
 s:(f σ).2.Sta n M
 a:(f σ).2.acts=mG σ.acts l
theorem Did.and{f g:DS}{σ:Dv}{n:Nat}{M N:List UInt8}{l k:Acs}(h:Did f σ n M l)(hg:∀ τ:Dv,τ.Sta n M→Did g τ n N k):Did (f.and g) σ n N (l++k):=by
 have h2:=hg _ h.s
 have e:(f.and g) σ=g (f σ).2:=by unfold DS.and;rw [if_pos h.e]
 exact⟨by rw [e];exact h2.e,by rw [e];exact h2.s,by rw [e,h2.a,h.a,oG]⟩
theorem Did.put{σ:Dv}{n:Nat}{M:List UInt8}(h:σ.Sta n M){k:Nat}{bs:List UInt8}(hl:256*k+bs.length≤8*n):Did (eY k bs) σ n (spl M (256*k) bs) (stA (k,bs)):=⟨(h.put hl).1,(h.put hl).2,h.putA hl⟩
theorem Did.fe{σ:Dv}{n:Nat}{M:List UInt8}(h:σ.Sta n M):Did feS σ n M feA:=⟨h.fence.1,h.fence.2,h.fenceA⟩
theorem Did.putB:∀ (rows:List (Nat×List UInt8)) {σ:Dv} {n:Nat} {B:List (List UInt8)} {R:List UInt8},σ.Sta n (B.flatten++R)→(∀ x∈B,x.length=256)→(∀ x∈rows,x.1<B.length∧x.2.length=256)→256*B.length≤8*n→Did (putL rows) σ n ((uT B rows).flatten++R) (qW rows)
 | [],σ,n,B,R,h,_,_,_=>⟨rfl,h,rfl⟩
 | x::r,σ,n,B,R,h,hB,hr,hl=>by
  obtain⟨h1,h2⟩:=hr x (by simp)
  have hp:=Did.put h (k:=x.1) (bs:=x.2) oQ
  rw [aHZ R hB h1 h2] at hp
  exact hp.and fun τ ht=>Did.putB r ht (fun y hy=>by rcases eJ hy with h|rfl;exact hB y h;exact h2) (fun y hy=>by rw [bQ];exact hr y (by simp [hy])) (by rw [bQ];exact hl)
theorem Did.putR:∀ (rows:List (Nat×List UInt8)) {σ:Dv} {n:Nat} {F R:List UInt8},σ.Sta n (F++R)→(∀ x∈rows,F.length≤256*x.1∧256*x.1+x.2.length≤8*n)→∃ R',Did (putL rows) σ n (F++R') (qW rows)
 | [],σ,n,F,R,h,_=>⟨R,rfl,h,rfl⟩
 | x::r,σ,n,F,R,h,hr=>by
  obtain⟨h1,h2⟩:=hr x (by simp)
  have hp:=Did.put h (k:=x.1) (bs:=x.2) h2
  rw [show 256*x.1=F.length+(256*x.1-F.length) by omega,aEx] at hp
  obtain⟨R',hR⟩:=Did.putR r hp.s fun y hy=>hr y (by simp [hy])
  refine⟨R',?_⟩
  have e:(putL (x::r)) σ=putL r (eY x.1 x.2 σ).2:=by show (eY x.1 x.2).and (putL r) σ=_;unfold DS.and;rw [if_pos hp.e]
  exact⟨by rw [e];exact hR.e,by rw [e];exact hR.s,by rw [e,hR.a,hp.a,oG];rfl⟩
def aCn(p:Nat)(c:UInt64)(es:List UInt64)(l:List Ent):Acs:=
 qW (fM (Gm.leaves p) (uD c l))++feA++[(4,0,0)]++(qW (oK p es l)++feA)++(stA (Gm.leaves p,List.replicate (256*(1+l.length)) 0)++feA)
theorem aJa(B:List (List UInt8))(k:Nat)(b:List UInt8):eG (B.set k b)=(eG B).set k (Sha.sum (fC k b)):=by
 unfold eG
 apply cC
 intro i
 rw [dB,cN,cN,dB,nO]
 by_cases h:k=i
 ·subst h
  by_cases hl:k<B.length
  ·simp [hl]
  ·simp [hl]
 ·simp [h]
theorem aDM:∀ (rows:List (Nat×List UInt8)) (B:List (List UInt8)),pP (eG B) (rows.map fun x=>((x.1:Int),Sha.sum (fC x.1 x.2)))=eG (uT B rows)
 | [],B=>rfl
 | x::r,B=>by
  show pP ((eG B).set ((x.1:Int)).toNat (Sha.sum (fC x.1 x.2))) _=eG (uT (B.set x.1 x.2) r)
  rw [aU,← aJa]
  exact aDM r _
theorem aIm(p:Nat)(es:List UInt64)(l:List Ent):tK p es l=(oK p es l).map fun x=>((x.1:Int),Sha.sum (fC x.1 x.2)):=by
 unfold tK oK qF tV
 rw [aL,gS,gS]
 rfl
theorem aHy{p t:Nat}(h:Gm.Ok p t){l:List Ent}(hm:gV p t l=true)(es:List UInt64):∀ x∈oK p es l,x.1<Gm.leaves p∧x.2.length=256:=fun x hx=>by
 have hLe:Gm.leaves p=1+Gm.epochs p+Gm.sealed p:=rfl
 rcases bG.1 hx with h1|h1
 ·obtain⟨y,hy,rfl⟩:=bJ.1 h1
  obtain⟨i,hi⟩:=cT.1 hy
  have hb:=uF hm i y hi
  unfold gV at hm
  rw [bX] at hm
  obtain⟨q1,q2,-⟩:=mP hm.2 i y hi
  refine⟨?_,hb⟩
  show 1+Gm.epochs p+y.1.toNat<_
  omega
 ·obtain⟨y,hy,rfl⟩:=bJ.1 h1
  have:=vQ hm y hy
  exact⟨by show 1+y<_;omega,oU y es⟩
theorem aJK{p t n:Nat}{σ:Dv}{r:Rg}{s:So}{B:List (List UInt8)}{R:List UInt8}{c:UInt64}{l:List Ent}(h:Gm.Ok p t)(hS:σ.Sta n (B.flatten++R))(hn:8*n=256*Gm.total p t)(hB:∀ b∈B,b.length=256)(hBl:B.length=Gm.leaves p)(hlv:s.lv=eG B)(hm:gV p t l=true)(hc:r.c<(c.toNat:Int)) :
  ∃ σ',rZ p c l (σ,r,s)=(0,(σ',⟨(c.toNat:Int),fW (uT B (oK p (eE c s.es l) l))⟩,⟨eE c s.es l,eG (uT B (oK p (eE c s.es l) l)),s.w,s.st⟩)) ∧
   (∃ R',σ'.Sta n ((uT B (oK p (eE c s.es l) l)).flatten++R'))∧σ'.acts=mG σ.acts (aCn p c (eE c s.es l) l):=by
 have htot:Gm.total p t=Gm.leaves p+(1+t):=rfl
 have hfl:=aFg hB
 have hlen:1≤l.length∧l.length≤t:=by unfold gV at hm;rw [bX,decide_eq_true_iff] at hm;exact hm.1
 have hlay:=aHy h hm (eE c s.es l)
 have hlvs:pP s.lv (tK p (eE c s.es l) l)=eG (uT B (oK p (eE c s.es l) l)):=by rw [hlv,aIm,aDM]
 have h256:∀ b∈uD c l,b.length=256:=fun b hb=>by
  rcases cI.1 hb with rfl|hb
  ·exact uB c l
  ·obtain⟨y,hy,rfl⟩:=bJ.1 hb
   obtain⟨i,hi⟩:=cT.1 hy
   exact uF hm i y hi
 have hlb:(uD c l).length=1+l.length:=by show (lJ c l::l.map Prod.snd).length=_;rw [aW,aD];omega
 obtain⟨R1,hp1⟩:=Did.putR (fM (Gm.leaves p) (uD c l)) hS fun x hx=>by
  obtain⟨i,hi,rfl⟩:=qZ.1 hx
  have:=h256 _ (cP hi)
  refine⟨by rw [hfl];show _≤256*(Gm.leaves p+i);omega,?_⟩
  show 256*(Gm.leaves p+i)+_≤_
  rw [this]
  omega
 have hL:Did (vL p c l) σ n (B.flatten++R1) (qW (fM (Gm.leaves p) (uD c l))++feA):=hp1.and fun τ ht=>Did.fe ht
 generalize hA1:qW (fM (Gm.leaves p) (uD c l))++feA=A1 at hL ⊢
 have hA:aCn p c (eE c s.es l) l=A1++[(4,0,0)]++(qW (oK p (eE c s.es l) l)++feA)++(stA (Gm.leaves p,List.replicate (256*(1+l.length)) 0)++feA):=by rw [← hA1];rfl
 obtain⟨d1,d2⟩:=hL.s.doo
 have d3:=hL.s.dooA
 have hreg:∀ x:Rg,r.c<x.c→(mT x) ((vL p c l σ).2,r)=(0,((vL p c l σ).2.doo,x)):=fun x hx=>by
  unfold mT sS sQ qX
  simp only [hL.s.l.d,iW,if_false,d1,if_true]
  rw [if_neg oQ,if_neg oQ,if_neg oQ]
 have hp2:=(Did.putB (oK p (eE c s.es l) l) d2 hB (fun x hx=>by rw [hBl];exact hlay x hx) oQ).and (g:=feS) fun τ ht=>Did.fe ht
 have hB2:=aFU (oK p (eE c s.es l) l) hB fun x hx=>(hlay x hx).2
 have hBl2:=aFV (oK p (eE c s.es l) l) B
 unfold rZ
 dsimp only
 rw [hlvs]
 generalize hE:eE c s.es l=es at *
 have hlyD:aBf p es l=(putL (oK p es l)).and feS:=rfl
 rw [← hlyD] at hp2
 generalize uT B (oK p es l)=B2 at *
 have hfl2:=aFg hB2
 obtain⟨R2,hp3⟩:∃ R2,Did ((aBf p es l).and (gH (Gm.leaves p) (1+l.length))) (vL p c l σ).2.doo n (B2.flatten++R2) ((qW (oK p es l)++feA)++(stA (Gm.leaves p,List.replicate (256*(1+l.length)) 0)++feA)):=by
  refine⟨spl R1 0 (List.replicate (256*(1+l.length)) 0),hp2.and fun τ ht=>?_⟩
  have hq:=Did.put ht (k:=Gm.leaves p) (bs:=List.replicate (256*(1+l.length)) 0) (by rw [aP];omega)
  rw [show 256*Gm.leaves p=B2.flatten.length+0 by omega,aEx] at hq
  exact hq.and fun τ' ht'=>Did.fe ht'
 have ha:(((vL p c l).t.and (mT ⟨(c.toNat:Int),iU (eG B2)⟩)) (σ,r))=(0,((vL p c l σ).2.doo,⟨(c.toNat:Int),fW B2⟩)):=by
  rw [TS.and_eq (y:=((vL p c l σ).2,r)) (by unfold DS.t;dsimp only;rw [hL.e])]
  exact hreg _ hc
 rw [ha]
 dsimp only
 rw [if_neg (fun hh=>hh rfl),if_neg (fun hh=>hh hp3.e)]
 refine⟨_,rfl,⟨R2,hp3.s⟩,?_⟩
 rw [hp3.a,d3,hL.a,oG,oG,hA]
 congr 1
 simp only [aV]
structure aAb(p t n:Nat)(X:UInt64→Nat→List UInt8→List UInt8)(σ:Dv)(s:So)(now:Nat→List UInt8)(B:List (List UInt8))(R:List UInt8):Prop where
 sta:σ.Sta n (B.flatten++R)
 b256:∀ b∈B,b.length=256
 bl:B.length=Gm.leaves p
 lv:s.lv=eG B
 w:s.w=true
 st:s.st=0
 es:s.es.length=Gm.sealed p
 rd:∀ j<Gm.sealed p,X (s.es.getD j 0) j (B.getD (Ks p j) [])=now j
theorem aAb.read{p t n:Nat}{X:UInt64→Nat→List UInt8→List UInt8}{σ:Dv}{s:So}{now:Nat→List UInt8}{B:List (List UInt8)}{R:List UInt8}(hK:aAb p t n X σ s now B R)(hn:8*n=256*Gm.total p t){j:Nat}(hj:j<Gm.sealed p):rdS p X (j:Int) σ s=(0,now j,s):=by
 have htot:Gm.total p t=Gm.leaves p+(1+t):=rfl
 have hLe:Gm.leaves p=1+Gm.epochs p+Gm.sealed p:=rfl
 have hKs:Ks p j=1+Gm.epochs p+j:=rfl
 have hlt:Ks p j<B.length:=by rw [hK.bl];omega
 obtain⟨b,hb⟩:∃ b,B[Ks p j]?=some b:=⟨_,aA hlt⟩
 have hbk:σ.blk (Ks p j)=b:=hK.sta.blk hK.b256 hb oQ
 have hlv:qK s.lv ((Ks p j:Nat):Int)=Sha.sum (fC (Ks p j) b):=by
  rw [hK.lv]
  unfold qK
  rw [if_pos ⟨by omega,by rw [iZ];exact_mod_cast hlt⟩,aU]
  unfold eG
  rw [aC,dB,hb]
  rfl
 have hrd:=hK.rd j hj
 rw [aC (l:=B),hb] at hrd
 unfold rdS
 rw [if_neg (fun hh=>hh hK.st),if_neg (fun hh=>hh ⟨by omega,by exact_mod_cast hj⟩),if_neg (by rw [hK.sta.l.d];decide),aU,hbk,if_neg (fun hh=>hh hlv.symm)]
 exact congrArg (fun z=>(0,z,s)) hrd
def yJ(now:Nat→List UInt8)(l:List Ent):Nat→List UInt8:=l.foldl (fun f x=>fun j=>if j=x.1.toNat then x.2 else f j) now
theorem aFu{p:Nat}{X:UInt64→Nat→List UInt8→List UInt8}(hX:∀ e k b,X e k (X e k b)=b)(c:UInt64):∀ (l:List Ent) (B:List (List UInt8)) (es:List UInt64) (now:Nat→List UInt8),(∀ x∈l,x.1.toNat<Gm.sealed p)→es.length=Gm.sealed p→B.length=Gm.leaves p→(∀ j<Gm.sealed p,X (es.getD j 0) j (B.getD (Ks p j) [])=now j) →
  ∀ j<Gm.sealed p,X ((eE c es (fL X c l)).getD j 0) j ((uT B ((fL X c l).map fun x=>(Ks p x.1.toNat,x.2))).getD (Ks p j) [])=yJ now l j
 | [],B,es,now,_,_,_,h=>h
 | x::r,B,es,now,hl,he,hb,h=>by
  have hx:=hl x (by simp)
  have hLe:Gm.leaves p=1+Gm.epochs p+Gm.sealed p:=rfl
  refine aFu hX c r (B.set (Ks p x.1.toNat) (X c x.1.toNat x.2)) (es.set x.1.toNat c) _ (fun y hy=>hl y (by simp [hy])) (by rw [bQ];exact he) (by rw [bQ];exact hb) fun j hj=>?_
  dsimp only
  have hK:∀ k,Ks p k=1+Gm.epochs p+k:=fun k=>rfl
  by_cases hjx:j=x.1.toNat
  ·rw [if_pos hjx]
   subst hjx
   rw [aC,aC,jO (by rw [he];exact hx),jO (by rw [hb,hK];omega)]
   exact hX _ _ _
  ·rw [if_neg hjx,← h j hj,aC,aC,kH (fun e=>hjx e.symm),kH (fun e=>hjx (by rw [hK,hK] at e;omega)),← aC,← aC]
theorem aCU{p t:Nat}{X:UInt64→Nat→List UInt8→List UInt8}(hX:∀ e k b,(X e k b).length=b.length)(c:UInt64)(l:List Ent):gV p t (fL X c l)=gV p t l:=by
 have key:∀ (l:List Ent) (a:Int),oM p a (fL X c l)=oM p a l:=fun l=>by
  induction l with
  | nil=>intro a;rfl
  | cons x r ih=>
   intro a
   show (decide (a<x.1∧x.1<(Gm.sealed p:Nat)∧(X c x.1.toNat x.2).length=256)&&oM p x.1 (fL X c r))=(decide (a<x.1∧x.1<(Gm.sealed p:Nat)∧x.2.length=256)&&oM p x.1 r)
   rw [ih,hX]
 unfold gV
 rw [key,rO]
theorem aLZ{p t:Nat}{l:List Ent}(hm:gV p t l=true):∀ x∈l,x.1.toNat<Gm.sealed p:=fun x hx=>by
 obtain⟨i,hi⟩:=cT.1 hx
 unfold gV at hm
 rw [bX] at hm
 obtain⟨h1,h2,-⟩:=mP hm.2 i x hi
 omega
theorem aN4{p t:Nat}{r:Rg}{s:So}{l:List Ent}(h0:s.st=0)(hw:s.w=true)(hc:r.c≠18446744073709551615)(hm:gV p t l=true):nI p t r s l=0:=by
 unfold gV at hm
 rw [bX,decide_eq_true_iff] at hm
 unfold nI
 rw [if_neg (fun hh=>hh h0),if_neg (by rw [hw];decide),if_neg hc,if_neg oQ,if_neg (fun hh=>by rw [hm.2] at hh;cases hh.2)]
theorem aL0{p t:Nat}{r:Rg}{s:So}{l:List Ent}(h0:s.st=0)(hw:s.w=true)(hc:r.c≠18446744073709551615)(hne:l≠[])(hm:gV p t l=false):nI p t r s l≠0:=by
 unfold nI
 rw [if_neg (fun hh=>hh h0),if_neg (by rw [hw];decide),if_neg hc]
 by_cases ht:t<l.length
 ·rw [if_pos ht];decide
 ·rw [if_neg ht]
  have hl:1≤l.length:=by
   rcases l with _|⟨x,r⟩
   ·exact absurd rfl hne
   ·simp
  have hf:oM p (-1) l=false:=by
   unfold gV at hm
   rw [decide_eq_true (show 1≤l.length∧l.length≤t by omega),jA] at hm
   exact hm
  rw [if_pos ⟨hne,hf⟩]
  decide
theorem aAb.commit{p t n:Nat}{X:UInt64→Nat→List UInt8→List UInt8}(hX:∀ e k b,X e k (X e k b)=b)(hXl:∀ e k b,(X e k b).length=b.length){σ:Dv}{r:Rg}{s:So}{now:Nat→List UInt8}{B:List (List UInt8)}{R:List UInt8}{l:List Ent}(h:Gm.Ok p t)(hn:8*n=256*Gm.total p t)(hK:aAb p t n X σ s now B R)(h0:0≤r.c)(hc:r.c<18446744073709551615)(hm:gV p t l=true) :
  ∃ σ' s' B' R',cmS p t X l (σ,r,s)=(0,(σ',⟨r.c+1,fW B'⟩,s'))∧aAb p t n X σ' s' (yJ now l) B' R'∧σ'.acts=mG σ.acts (aCn p (UInt64.ofNat (r.c+1).toNat) (eE (UInt64.ofNat (r.c+1).toNat) s.es (fL X (UInt64.ofNat (r.c+1).toNat) l)) (fL X (UInt64.ofNat (r.c+1).toNat) l)):=by
 have hcu:((UInt64.ofNat (r.c+1).toNat).toNat:Int)=r.c+1:=by rw [bC];omega
 have hms:gV p t (fL X (UInt64.ofNat (r.c+1).toNat) l)=true:=by rw [aCU hXl];exact hm
 have hcm:cmS p t X l (σ,r,s)=rZ p (UInt64.ofNat (r.c+1).toNat) (fL X (UInt64.ofNat (r.c+1).toNat) l) (σ,r,s):=by
  unfold cmS
  dsimp only
  rw [if_neg (fun hh=>hh (aN4 hK.st hK.w oQ hm)),if_neg (fun e=>by subst e;unfold gV at hm;simp at hm)]
 rw [hcm]
 have hat:=aLZ hm
 have hfold:=aFu hX (UInt64.ofNat (r.c+1).toNat) l B s.es now hat hK.es hK.bl hK.rd
 generalize UInt64.ofNat (r.c+1).toNat=c at *
 obtain⟨σ',hd,⟨R',hS⟩,hA⟩:=aJK (r:=r) (c:=c) h hK.sta hn hK.b256 hK.bl hK.lv hms oQ
 have hlay:=aHy h hms (eE c s.es (fL X c l))
 rw [hcu] at hd
 refine⟨σ',_,uT B (oK p (eE c s.es (fL X c l)) (fL X c l)),R',hd,⟨hS,aFU _ hK.b256 fun x hx=>(hlay x hx).2,by rw [aFV];exact hK.bl,rfl,hK.w,hK.st,by show (eE _ _ _).length=_;rw [oH];exact hK.es,fun j hj=>?_⟩,hA⟩
 rw [← hfold j hj]
 dsimp only
 congr 1
 have e:uT B (oK p (eE c s.es (fL X c l)) (fL X c l))=uT (uT B ((fL X c l).map fun x=>(Ks p x.1.toNat,x.2))) ((dW (fL X c l)).map fun q=>(1+q,epB q (eE c s.es (fL X c l)))):=by
  unfold oK uT
  rw [gX]
 rw [e,aC,aC,aGX]
 intro x hx
 obtain⟨q,hq,rfl⟩:=bJ.1 hx
 have:=vQ hms q hq
 show 1+q≠1+Gm.epochs p+j
 omega
def sX(ws:List Wd):Prop:=∀ w∈ws,w.Q∧w.mark=w.pend
theorem aJ5(f:Nat→UInt8→Wd→Wd)(ws:List Wd)(i m:Nat)(c:UInt8):(qL f ws i c)[m]?=if i/8=m then (ws[m]?).map (f (i%8) c) else ws[m]?:=by
 unfold qL
 rw [kG]
 by_cases e:i/8=m
 ·simp [e]
 ·simp [e]
theorem aDC(f:Nat→UInt8→Wd→Wd):∀ (bs:List UInt8) (ws:List Wd) (i m:Nat),(∀ k,k<bs.length→(i+k)/8≠m)→(gG f ws i bs)[m]?=ws[m]?
 | [],ws,i,m,_=>rfl
 | c::t,ws,i,m,h=>by
  show (gG f (qL f ws i c) (i+1) t)[m]?=_
  rw [aDC f t _ _ _ (fun k hk=>by have:=h (k+1) (by simp;omega);rw [show i+1+k=i+(k+1) by omega];exact this)]
  rw [aJ5,if_neg (by have:=h 0 (by simp);simpa using this)]
theorem aKv{σ:Dv}{n:Nat}{M:List UInt8}(h:σ.Sta n M)(hJ:sX σ.ws){k:Nat}{bs:List UInt8}(hl:256*k+bs.length≤8*n):sX (eY k bs σ).2.ws:=by
 obtain⟨-,h2,-⟩:=h.l.store (i:=256*k) (bs:=bs) (by rw [h.len];exact hl)
 have h4:=h.store (i:=256*k) (bs:=bs) hl
 obtain⟨-,g2,-⟩:=h4.2.l.flush (i:=256*k) (n:=bs.length) (by rw [h4.2.len];exact hl)
 have e:(eY k bs σ).2=(σ.store ((256*k:Nat):Int) bs).flush ((256*k:Nat):Int) (bs.length:Int):=by
  unfold eY DS.and
  rw [if_pos (show (stS (256*k) bs σ).1=0 from h4.1)]
  rfl
 rw [e,g2,h2]
 unfold kO
 split
 ·rename_i h0
  have:bs=[]:=bL h0
  subst this
  exact hJ
 ·rename_i h0
  intro w hw
  obtain⟨m,hm⟩:=cT.1 hw
  unfold iY at hm
  rw [dB] at hm
  have hQ:∀ w∈gG Wd.ps σ.ws (256*k) bs,w.Q:=xZ (J:=Wd.Q) (fun j c w _=>fun hp=>by cases hp) bs _ _ (fun w hw=>(hJ w hw).1)
  cases hu:(gG Wd.ps σ.ws (256*k) bs)[m]? with
  | none=>rw [hu] at hm;cases hm
  | some u=>
   rw [hu] at hm
   simp only [Option.map_some,dF] at hm
   by_cases hr:256*k/64*8≤m∧m<((256*k+bs.length-1)/64+1)*8
   ·rw [if_pos hr] at hm
    subst hm
    exact⟨fun hp=>hQ u (aS hu) hp,rfl⟩
   ·rw [if_neg hr] at hm
    subst hm
    rw [aDC _ _ _ _ _ (fun j hj=>by omega)] at hu
    exact hJ _ (aS hu)
theorem aMU{σ:Dv}{n:Nat}{M:List UInt8}(h:σ.Sta n M)(hJ:sX σ.ws):sX (feS σ).2.ws∧lC (feS σ).2.ws=kV (feS σ).2.ws:=by
 obtain⟨-,h2,-⟩:=h.l.fence
 have e:(feS σ).2.ws=σ.ws.map Wd.fenced:=h2
 obtain⟨a,b⟩:=aGr hJ
 rw [e]
 refine⟨fun w hw=>?_,by rw [a,b]⟩
 obtain⟨u,hu,rfl⟩:=bJ.1 hw
 obtain⟨q1,q2⟩:=hJ u hu
 unfold Wd.fenced
 cases hp:u.mark
 ·exact⟨q1,q2⟩
 ·exact⟨fun _=>rfl,rfl⟩
theorem aHL:∀ (rows:List (Nat×List UInt8)) {σ:Dv} {n:Nat} {M:List UInt8},σ.Sta n M→sX σ.ws→(∀ x∈rows,256*x.1+x.2.length≤8*n)→(putL rows σ).1=0∧(∃ M',(putL rows σ).2.Sta n M')∧sX (putL rows σ).2.ws
 | [],σ,n,M,h,hJ,_=>⟨rfl,⟨M,h⟩,hJ⟩
 | x::r,σ,n,M,h,hJ,hr=>by
  have h1:=hr x (by simp)
  have hp:=h.put h1
  have hq:=aKv h hJ h1
  have e:putL (x::r) σ=putL r (eY x.1 x.2 σ).2:=by
   show ((eY x.1 x.2).and (putL r)) σ=_
   unfold DS.and
   rw [if_pos hp.1]
  rw [e]
  exact aHL r hp.2 hq fun y hy=>hr y (by simp [hy])
theorem aF5{p t n:Nat}{σ:Dv}{M:List UInt8}{B:List (List UInt8)}(h:σ.Sta n M)(hJ:sX σ.ws)(hn:8*n=256*Gm.total p t)(h256:∀ b∈B,b.length=256)(hbl:B.length=Gm.leaves p):sX (dG p t B σ).2.ws∧lC (dG p t B σ).2.ws=kV (dG p t B σ).2.ws:=by
 have htot:Gm.total p t=Gm.leaves p+(1+t):=rfl
 obtain⟨e1,⟨M1,s1⟩,j1⟩:=aHL (fM 0 B) h hJ fun x hx=>by
  obtain⟨i,hi,rfl⟩:=qZ.1 hx
  have:=h256 _ (cP hi)
  show 256*(0+i)+_≤_
  rw [this]
  omega
 have f1:=s1.fence
 have k1:=(aMU s1 j1).1
 have hl:256*Gm.leaves p+(List.replicate (256*(1+t)) (0:UInt8)).length≤8*n:=by rw [aP];omega
 have p2:=f1.2.put hl
 have j2:=aKv f1.2 k1 hl
 have r2:=aMU p2.2 j2
 have e:(dG p t B σ)=feS (eY (Gm.leaves p) (List.replicate (256*(1+t)) 0) (feS (putL (fM 0 B) σ).2).2).2:=by
  show ((((putL (fM 0 B)).and feS)).and ((eY (Gm.leaves p) (List.replicate (256*(1+t)) 0)).and feS)) σ=_
  unfold DS.and
  rw [if_pos e1,if_pos f1.1,if_pos p2.1]
 rw [e]
 exact r2
end Go.Proofs.YtnhnpjokpelkbaaGreat
