/- What befalls a pair leaves it standing: the register, the device's length, what was hidden. -/
import Derived.Test.YtnhnpjokpelkbaaGreatPs45
import Derived.Test.YtnhnpjokpelkbaaGreatPo0
set_option linter.unusedVariables false
set_option linter.unusedSimpArgs false
set_option linter.unusedSectionVars false
set_option maxHeartbeats 16000000
namespace Go.Proofs.YtnhnpjokpelkbaaGreat
open Go Go.Proofs.Tryz
theorem aQZ(σ:Dv)(r r':Rg):(sS σ r r'=0∧qX σ r r'=r'∧r.c<r'.c)∨(sS σ r r'≠0∧qX σ r r'=r):=by
 unfold sS qX
 by_cases h1:σ.down=true
 ·rw [if_pos h1,if_pos h1];exact .inr ⟨by decide,rfl⟩
 ·rw [if_neg h1,if_neg h1]
  by_cases h2:r'.c≤r.c
  ·rw [if_pos h2,if_pos h2];exact .inr ⟨by decide,rfl⟩
  ·rw [if_neg h2,if_neg h2]
   by_cases h3:σ.dooE=0
   ·rw [if_pos h3];exact .inl ⟨h3,rfl,by omega⟩
   ·rw [if_neg h3];exact .inr ⟨h3,rfl⟩
theorem eP(g:Rg)(y:Dv×Rg):((mT g y).1=0∧(mT g y).2.2=g∧y.2.c<g.c)∨((mT g y).1≠0∧(mT g y).2.2=y.2):=aQZ y.1 y.2 g
theorem oA(y:Dv×Rg):((gY y).1=0∧(gY y).2.2={ y.2 with c:=y.2.c+1 })∨((gY y).1≠0∧(gY y).2.2=y.2):=by
 rcases eP { y.2 with c:=y.2.c+1 } y with ⟨h1,h2,-⟩|h
 ·exact .inl ⟨h1,h2⟩
 ·exact .inr h
theorem aQ2{y:Dv×Rg}(hr:y.2.Ok)(hc:y.2.c<18446744073709551615):(gY y).2.2.Ok:=by
 rcases oA y with ⟨-,h⟩|⟨-,h⟩
 ·rw [h]
  have:=hr.c0
  exact⟨hr.len,by show 0≤y.2.c+1;omega,by show y.2.c+1≤_;omega⟩
 ·rw [h];exact hr
theorem aQU(p:Nat)(c:UInt64)(l:List Ent)(σ:Dv)(r g:Rg):(((vL p c l).t.and (mT g)) (σ,r)).2.1.ws.length=σ.ws.length∧((((vL p c l).t.and (mT g)) (σ,r)).1=0∧(((vL p c l).t.and (mT g)) (σ,r)).2.2=g∧r.c<g.c∨(((vL p c l).t.and (mT g)) (σ,r)).1≠0∧(((vL p c l).t.and (mT g)) (σ,r)).2.2=r):=by
 have hw:=aEb p c l σ
 obtain⟨e,σ1,hz⟩:∃ e σ1,vL p c l σ=(e,σ1):=⟨_,_,rfl⟩
 rw [hz] at hw
 have ht:=aK1 (r:=r) hz
 by_cases h0:e=0
 ·subst h0
  rw [TS.and_eq ht]
  refine⟨by rw [aHQ];exact hw,?_⟩
  rcases eP g (σ1,r) with h|h
  ·exact .inl h
  ·exact .inr h
 ·rw [TS.and_ne (by rw [ht];exact h0),ht]
  exact⟨hw,.inr ⟨h0,rfl⟩⟩
theorem aQA(p:Nat)(c:UInt64)(l:List Ent)(σ:Dv)(r:Rg)(x:So):∃ e σ' r' s',rZ p c l (σ,r,x)=(e,σ',r',s')∧σ'.ws.length=σ.ws.length ∧
  ((r'=r∧s'={ x with st:=8 })∨(r'=⟨(c.toNat:Int),iU (pP x.lv (tK p (eE c x.es l) l))⟩∧r.c<(c.toNat:Int)∧∃ st,s'=⟨eE c x.es l,pP x.lv (tK p (eE c x.es l) l),x.w,st⟩)):=by
 generalize hes:eE c x.es l=es
 generalize hlv:pP x.lv (tK p es l)=lv
 have hk:=aQU p c l σ r ⟨(c.toNat:Int),iU lv⟩
 obtain⟨e,σ1,r2,ha⟩:∃ e σ1 r2,((vL p c l).t.and (mT ⟨(c.toNat:Int),iU lv⟩)) (σ,r)=(e,σ1,r2):=⟨_,_,_,rfl⟩
 rw [ha] at hk
 dsimp only at hk
 obtain⟨hw,⟨rfl,h2,h3⟩|⟨h1,h2⟩⟩:=hk
 ·obtain⟨e2,σ2,hb⟩:∃ e2 σ2,((aBf p es l).and (gH (Gm.leaves p) (1+l.length))) σ1=(e2,σ2):=⟨_,_,rfl⟩
  have hw2:=((aLX p es l).and (aI6 (Gm.leaves p) (1+l.length))) σ1
  rw [hb] at hw2
  exact⟨_,_,_,_,aDu hes hlv ha hb,hw2.trans hw,.inr ⟨h2,h3,_,rfl⟩⟩
 ·exact⟨_,_,_,_,aFa hes hlv ha h1,hw,.inl ⟨h2,rfl⟩⟩
theorem aQV{p t:Nat}{r:Rg}{x:So}{l:List Ent}(h:nI p t r x l=0):x.w=true:=by
 unfold nI at h
 split at h
 ·contradiction
 ·split at h
  ·cases h
  ·rename_i h2
   simpa using h2
theorem aQT{p t:Nat}{X:UInt64→Nat→List UInt8→List UInt8}{l:List Ent}{σ:Dv}{r:Rg}{x:So}(h:nI p t r x l≠0∨l=[]):∃ e,cmS p t X l (σ,r,x)=(e,(σ,r,x)):=by
 unfold cmS
 dsimp only
 by_cases h0:nI p t r x l≠0
 ·exact⟨_,if_pos h0⟩
 ·rw [if_neg h0,if_pos (h.resolve_left h0)]
  exact⟨_,rfl⟩
theorem aQq{p t:Nat}{X:UInt64→Nat→List UInt8→List UInt8}{l:List Ent}{σ:Dv}{r:Rg}{x:So}(h:nI p t r x l=0)(hl:l≠[]):cmS p t X l (σ,r,x)=rZ p (UInt64.ofNat (r.c+1).toNat) (fL X (UInt64.ofNat (r.c+1).toNat) l) (σ,r,x):=by
 unfold cmS
 dsimp only
 rw [if_neg (fun hh=>hh h),if_neg hl]
structure Inv(p t:Nat)(σ:Dv)(r:Rg)(o:Option So):Prop where
 len:σ.len=256*Gm.total p t
 r:r.Ok
 o:∀ x,o=some x→x.Ok p
theorem sA{σ σ':Dv}(h:σ'.ws.length=σ.ws.length):σ'.len=σ.len:=by unfold Dv.len;rw [h]
theorem Inv.w8{p t:Nat}{σ:Dv}{r:Rg}{o:Option So}(h:Inv p t σ r o):σ.ws.length%8=0:=by
 have:=h.len
 unfold Dv.len at this
 omega
structure nP(r:Rg)(s:Sr)(o:Option So):Prop where
 one:s.twice=none
 le:∀ y∈s.used,(y.1.1.toNat:Int)≤r.c+1
 lt:∀ x,o=some x→x.st=0→x.w=true→∀ y∈s.used,(y.1.1.toNat:Int)≤r.c
theorem Sr.at_none{s:Sr}{x:No}(h:∀ y∈s.used,y.1≠x):s.at x=none:=by
 unfold Sr.at
 rw [List.find?_eq_none.2 fun y hy=>by simpa using fun e=>h y hy e.symm]
 rfl
theorem Sr.hid_new{s:Sr}{x:No}{b:List UInt8}(h:∀ y∈s.used,y.1≠x):s.hid x b=⟨s.used++[(x,b)],s.twice⟩:=by
 unfold Sr.hid
 rw [Sr.at_none h]
theorem aQc(c:UInt64):∀ (l:List (Nat×List UInt8)) (s:Sr),(l.map Prod.fst).Nodup→(∀ x∈l,∀ y∈s.used,y.1≠(c,x.1)) →
  (l.foldl (fun s x=>s.hid (c,x.1) x.2) s).twice=s.twice∧∀ y∈(l.foldl (fun s x=>s.hid (c,x.1) x.2) s).used,y∈s.used∨y.1.1=c
 | [],s,_,_=>⟨rfl,fun y hy=>.inl hy⟩
 | x::l,s,hn,h=>by
  rw [dK,nN] at hn
  have e:s.hid (c,x.1) x.2=⟨s.used++[((c,x.1),x.2)],s.twice⟩:=Sr.hid_new (h x (by simp))
  have ih:=aQc c l ⟨s.used++[((c,x.1),x.2)],s.twice⟩ hn.2 (fun z hz y hy=>by
   rcases bG.1 hy with hy|hy
   ·exact h z (by simp [hz]) y hy
   ·rw [bO] at hy
    subst hy
    intro e
    exact hn.1 (by rw [show x.1=z.1 from congrArg Prod.snd e];exact List.mem_map_of_mem hz))
  rw [dS,e]
  refine⟨ih.1,fun y hy=>?_⟩
  rcases ih.2 y hy with h1|h1
  ·rcases bG.1 h1 with h1|h1
   ·exact .inl h1
   ·rw [bO] at h1
    subst h1
    exact .inr rfl
  ·exact .inr h1
theorem aQt(c:UInt64)(l:List Ent)(s:Sr):aD9 c l s=(l.map fun x=>(x.1.toNat,x.2)).foldl (fun s x=>s.hid (c,x.1) x.2) s:=by
 unfold aD9
 rw [List.foldl_map]
theorem aQi(s:Sr)(e:UInt64)(n:Nat):mX s e n=((List.range n).map fun k=>(k,List.replicate 256 (0:UInt8))).foldl (fun s x=>s.hid (e,x.1) x.2) s:=by
 unfold mX
 rw [List.foldl_map]
theorem aQd{p:Nat}:∀ {l:List Ent} {a:Int},-1≤a→oM p a l=true→(l.map fun x=>x.1.toNat).Nodup∧∀ x∈l,a<x.1
 | [],_,_,_=>⟨rT,by simp⟩
 | x::l,a,ha,h=>by
  unfold oM at h
  rw [bX,decide_eq_true_iff] at h
  obtain⟨h1,h2⟩:=aQd (p:=p) (l:=l) (a:=x.1) oQ h.2
  refine⟨?_,fun y hy=>?_⟩
  ·rw [dK,nN]
   refine⟨fun hm=>?_,h1⟩
   obtain⟨y,hy,e⟩:=bJ.1 hm
   have:=h2 y hy
   omega
  ·rcases cI.1 hy with rfl|hy
   ·exact h.1.1
   ·have:=h2 y hy
    omega
theorem Inv.commit{p t:Nat}{X:UInt64→Nat→List UInt8→List UInt8}(hX:∀ e k b,(X e k b).length=b.length)(h:Gm.Ok p t){σ:Dv}{r:Rg}{x:So}(hI:Inv p t σ r (some x)){l:List Ent} :
  ∃ e σ' r' x',cmS p t X l (σ,r,x)=(e,(σ',r',x'))∧Inv p t σ' r' (some x')∧∀ s,nP r s (some x)→nP r' (aPl p t r x l s) (some x'):=by
 have hx:=hI.o x rfl
 by_cases hno:nI p t r x l≠0∨l=[]
 ·obtain⟨e,he⟩:=aQT (σ:=σ) (X:=X) hno
  refine⟨e,σ,r,x,he,hI,fun s hs=>?_⟩
  have:aPl p t r x l s=s:=by
   unfold aPl
   rcases hno with h0|h0
   ·rw [if_pos h0]
   ·by_cases h1:nI p t r x l≠0
    ·rw [if_pos h1]
    ·rw [if_neg h1,if_pos h0]
  rw [this]
  exact hs
 ·have h0:nI p t r x l=0:=Decidable.not_not.1 fun hh=>hno (.inl hh)
  have hl:l≠[]:=fun hh=>hno (.inr hh)
  obtain⟨hst,hrc,hm⟩:=aJ4 h0 hl
  have hw:=aQV h0
  have hc0:=hI.r.c0
  have hc1:=hI.r.c1
  have hcc:((UInt64.ofNat (r.c+1).toNat).toNat:Int)=r.c+1:=by rw [bC];omega
  have hhs:∀ s,aPl p t r x l s=aD9 (UInt64.ofNat (r.c+1).toNat) l s:=fun s=>by unfold aPl;rw [if_neg (fun hh=>hh h0),if_neg hl]
  rw [aQq h0 hl]
  generalize UInt64.ofNat (r.c+1).toNat=c at *
  obtain⟨e,σ',r',s',he,hwl,hcase⟩:=aQA p c (fL X c l) σ r x
  refine⟨e,σ',r',s',he,?_,fun s hs=>?_⟩
  ·rcases hcase with ⟨rfl,rfl⟩|⟨rfl,-,st,rfl⟩
   ·exact⟨by rw [sA hwl];exact hI.len,hI.r,fun y hy=>by cases hy;exact⟨hx.es,hx.lv,hx.d⟩⟩
   ·have hm2:gV p t (fL X c l)=true:=by rw [aCU hX];exact hm
    refine⟨by rw [sA hwl];exact hI.len,⟨Sha.sum_len _,by show 0≤(c.toNat:Int);omega,by show (c.toNat:Int)≤_;omega⟩,fun y hy=>?_⟩
    cases hy
    exact⟨by show (eE _ _ _).length=_;rw [oH];exact hx.es,by show (pP _ _).length=_;rw [aCW];exact hx.lv,aEv hx.d _ (aHl h _ hm2).1⟩
  ·rw [hhs,aQt]
   have hold:=hs.lt x rfl hst hw
   have hmL:oM p (-1) l=true:=by unfold gV at hm;rw [bX] at hm;exact hm.2
   have hnd:((l.map fun x=>(x.1.toNat,x.2)).map Prod.fst).Nodup:=by
    rw [gS]
    exact (aQd oQ hmL).1
   obtain⟨h1,h2⟩:=aQc c _ s hnd (fun z hz y hy e=>by
    have:=hold y hy
    rw [show y.1.1=c from congrArg Prod.fst e] at this
    omega)
   refine⟨h1.trans hs.one,fun y hy=>?_,fun y hy hy0 hyw z hz=>?_⟩
   ·have h3:(y.1.1.toNat:Int)≤r.c+1:=by
     rcases h2 y hy with h3|h3
     ·have:=hold y h3;omega
     ·rw [h3];omega
    rcases hcase with ⟨rfl,-⟩|⟨rfl,-,-⟩
    ·exact h3
    ·show _≤(c.toNat:Int)+1
     omega
   ·have h3:(z.1.1.toNat:Int)≤r.c+1:=by
     rcases h2 z hz with h3|h3
     ·have:=hold z h3;omega
     ·rw [h3];omega
    rcases hcase with ⟨rfl,rfl⟩|⟨rfl,-,-⟩
    ·cases hy
     exact absurd (show (8:Int)=0 from hy0) dQ
    ·show _≤(c.toNat:Int)
     omega
theorem Inv.read{p t:Nat}{X:UInt64→Nat→List UInt8→List UInt8}{σ:Dv}{r:Rg}{x:So}(hI:Inv p t σ r (some x))(k:Int):Inv p t σ r (some (rdS p X k σ x).2.2)∧∀ s,nP r s (some x)→nP r s (some (rdS p X k σ x).2.2):=by
 have hx:=hI.o x rfl
 have h:(rdS p X k σ x).2.2=x∨∃ e,e≠0∧(rdS p X k σ x).2.2={ x with st:=e }:=by
  unfold rdS
  split
  ·exact .inl rfl
  ·split
   ·exact .inl rfl
   ·split
    ·exact .inr ⟨8,by decide,rfl⟩
    ·split
     ·exact .inr ⟨20,by decide,rfl⟩
     ·exact .inl rfl
 rcases h with h|⟨e,he,h⟩
 ·rw [h];exact⟨hI,fun s hs=>hs⟩
 ·rw [h]
  refine⟨⟨hI.len,hI.r,fun y hy=>by cases hy;exact⟨hx.es,hx.lv,hx.d⟩⟩,fun s hs=>⟨hs.one,hs.le,fun y hy hy0=>?_⟩⟩
  cases hy
  exact absurd hy0 he
theorem Inv.open{p t:Nat}{σ:Dv}{r:Rg}{o:Option So}(hI:Inv p t σ r o)(w:Bool) :
  Inv p t (iS p t w (σ,r)).2.1 (iS p t w (σ,r)).2.2 (jJ p t w σ r)∧∀ s,nP r s o→nP (iS p t w (σ,r)).2.2 s (jJ p t w σ r):=by
 have h:∃ e σ' r',iS p t w (σ,r)=(e,σ',r')∧σ'.ws.length=σ.ws.length∧(r'=r∧(e≠0∨w=false)∨r'={ r with c:=r.c+1 }∧r.c<18446744073709551615):=by
  by_cases h1:w=true∧r.c=18446744073709551615
  ·exact⟨21,σ,r,by unfold iS;rw [if_pos h1],rfl,.inl ⟨rfl,.inl dQ⟩⟩
  by_cases h2:σ.down=true
  ·exact⟨8,σ,r,by unfold iS;rw [if_neg h1,if_pos h2],rfl,.inl ⟨rfl,.inl dQ⟩⟩
  by_cases h3:(gK p t σ r).1=3
  ·exact⟨20,σ,r,by unfold iS;rw [if_neg h1,if_neg h2,if_pos h3],rfl,.inl ⟨rfl,.inl dQ⟩⟩
  have ho:=pO h1 (by simpa using h2) h3
  have hw:=aKf p t w (gK p t σ r).2 (σ,r)
  rw [ho]
  generalize (gK p t σ r).2=B at *
  have hwt:(dG p t B).t (σ,r)=((dG p t B σ).1,(dG p t B σ).2,r):=rfl
  obtain⟨e,σ',r',hz⟩:∃ e σ' r',rC p t w B (σ,r)=(e,σ',r'):=⟨_,_,_,rfl⟩
  rw [hz] at hw ⊢
  refine⟨e,σ',r',rfl,hw,?_⟩
  by_cases h0:(dG p t B σ).1=0
  ·have e1:rC p t w B (σ,r)=(if w=true then gY else fun σ=>(0,σ)) ((dG p t B σ).2,r):=by
    unfold rC
    rw [TS.and_eq (y:=((dG p t B σ).2,r)) (by rw [hwt,h0])]
   rw [hz] at e1
   cases w with
   | false=>exact .inl ⟨congrArg (fun z=>z.2.2) e1,.inr rfl⟩
   | true=>
    rw [if_pos rfl] at e1
    have q1:=congrArg (fun z=>z.1) e1
    have q2:=congrArg (fun z=>z.2.2) e1
    dsimp only at q1 q2
    have hc1:=hI.r.c1
    have:r.c≠18446744073709551615:=fun e=>h1 ⟨rfl,e⟩
    rcases oA ((dG p t B σ).2,r) with ⟨e0,e2⟩|⟨e0,e2⟩
    ·exact .inr ⟨q2.trans e2,by omega⟩
    ·exact .inl ⟨q2.trans e2,.inl (by rw [q1];exact e0)⟩
  ·have e1:rC p t w B (σ,r)=((dG p t B σ).1,(dG p t B σ).2,r):=by
    unfold rC
    rw [TS.and_ne (by rw [hwt];exact h0),hwt]
   rw [hz] at e1
   have q1:=congrArg (fun z=>z.1) e1
   dsimp only at q1
   exact .inl ⟨congrArg (fun z=>z.2.2) e1,.inl (by rw [q1];exact h0)⟩
 have hO:∀ x,jJ p t w σ r=some x→(iS p t w (σ,r)).1=0∧x.w=w∧x.es=nD p (gK p t σ r).2∧x.lv=eG (gK p t σ r).2:=fun x hx=>by
  unfold jJ at hx
  split at hx
  ·rename_i h0
   cases hx
   exact⟨h0,rfl,rfl,rfl⟩
  ·cases hx
 have hB:((gK p t σ r).2).length=Gm.leaves p:=by
  have h2:=σ.blks_len 0 (Gm.leaves p)
  unfold gK
  generalize σ.blks 0 (Gm.leaves p)=l at *
  generalize σ.blks (Gm.leaves p) (1+t)=logs
  by_cases hf:lU p t r.root l=true
  ·rw [vI hf];exact h2
  ·cases hlr:wY p t r logs with
   | none=>rw [tB hf hlr];exact h2
   | some x=>
    rw [wT hf hlr]
    split
    ·show (sL _ _ _ _).length=_
     rw [aBu];exact h2
    ·exact h2
 obtain⟨e,σ',r',ho,hw,hr⟩:=h
 rw [ho] at hO ⊢
 dsimp only at hO ⊢
 have hr':r'.Ok:=by
  rcases hr with ⟨rfl,-⟩|⟨rfl,hc⟩
  ·exact hI.r
  ·have:=hI.r.c0
   exact⟨hI.r.len,by show 0≤r.c+1;omega,by show r.c+1≤_;omega⟩
 have hle:r.c≤r'.c:=by
  rcases hr with ⟨rfl,-⟩|⟨rfl,hc⟩
  ·exact Int.le_refl _
  ·show r.c≤r.c+1;omega
 refine⟨⟨by rw [sA hw];exact hI.len,hr',fun x hx=>?_⟩,fun s hs=>⟨hs.one,fun y hy=>?_,fun x hx h0 hxw y hy=>?_⟩⟩
 ·obtain⟨-,-,h2,h3⟩:=hO x hx
  exact⟨by rw [h2];unfold nD;simp,by rw [h3,iZ];exact hB,by rw [h3];exact pC _⟩
 ·have:=hs.le y hy
  omega
 ·obtain⟨h1,h2,-,-⟩:=hO x hx
  rcases hr with ⟨-,h3|h3⟩|⟨rfl,-⟩
  ·exact absurd h1 h3
  ·rw [← h2,hxw] at h3;cases h3
  ·exact hs.le y hy
theorem Inv.format{p t:Nat}{X:UInt64→Nat→List UInt8→List UInt8}{σ:Dv}{r:Rg}{o:Option So}(hI:Inv p t σ r o) :
  Inv p t (nF p t X (σ,r)).2.1 (nF p t X (σ,r)).2.2 none∧∀ s,nP r s o→nP (nF p t X (σ,r)).2.2 (wA p σ r s) none:=by
 have hc0:=hI.r.c0
 by_cases h0:18446744073709551613<r.c
 ·have e1:nF p t X (σ,r)=(21,(σ,r)):=by unfold nF;rw [if_pos h0]
  rw [e1]
  refine⟨⟨hI.len,hI.r,fun _ h=>nomatch h⟩,fun s hs=>?_⟩
  unfold wA
  rw [if_pos h0]
  exact⟨hs.one,hs.le,fun _ h=>nomatch h⟩
 have e1:nF p t X (σ,r)=gY.and ((dG p t (fK p t X (UInt64.ofNat (r.c+2).toNat))).t.and (aLK (fK p t X (UInt64.ofNat (r.c+2).toNat)))) (σ,r):=by unfold nF;rw [if_neg h0]
 have hcc:((lH r).toNat:Int)=r.c+2:=by unfold lH;rw [bC];omega
 have hfs:∀ s,wA p σ r s=if (gY (σ,r)).1=0 then mX s (lH r) (Gm.sealed p) else s:=fun s=>by unfold wA;rw [if_neg h0]
 rw [e1]
 clear e1
 generalize fK p t X (UInt64.ofNat (r.c+2).toNat)=B
 generalize lH r=c at *
 have hbw:=aBV (σ,r)
 have hbc:=oA (σ,r)
 generalize hbb:gY (σ,r)=bb at *
 obtain⟨e,σ1,r1⟩:=bb
 dsimp only at hbw hbc hfs
 rcases hbc with ⟨rfl,hr1⟩|⟨he,hr1⟩
 ·rw [TS.and_eq hbb]
  have hr1c:r1.c=r.c+1:=by rw [hr1]
  have hr1k:r1.Ok:=by rw [hr1];exact⟨hI.r.len,by show 0≤r.c+1;omega,by show r.c+1≤_;omega⟩
  have hwt:(dG p t B).t (σ1,r1)=((dG p t B σ1).1,(dG p t B σ1).2,r1):=rfl
  have hww:(dG p t B σ1).2.ws.length=σ1.ws.length:=(((kL (fM 0 B)).and aBa).and (aI6 _ _)) σ1
  have key:(((dG p t B).t.and (aLK B)) (σ1,r1)).2.1.ws.length=σ1.ws.length∧(((dG p t B).t.and (aLK B)) (σ1,r1)).2.2.Ok∧r1.c≤(((dG p t B).t.and (aLK B)) (σ1,r1)).2.2.c:=by
   by_cases h1:(dG p t B σ1).1=0
   ·rw [TS.and_eq (y:=((dG p t B σ1).2,r1)) (by rw [hwt,h1])]
    show (mT ⟨r1.c+1,fW B⟩ ((dG p t B σ1).2,r1)).2.1.ws.length=_∧(mT ⟨r1.c+1,fW B⟩ ((dG p t B σ1).2,r1)).2.2.Ok∧r1.c≤(mT ⟨r1.c+1,fW B⟩ ((dG p t B σ1).2,r1)).2.2.c
    refine⟨by rw [aHQ];exact hww,?_,?_⟩
    ·rcases eP ⟨r1.c+1,fW B⟩ ((dG p t B σ1).2,r1) with ⟨-,h2,-⟩|⟨-,h2⟩
     ·rw [h2];exact⟨Sha.sum_len _,by show 0≤r1.c+1;omega,by show r1.c+1≤_;omega⟩
     ·rw [h2];exact hr1k
    ·rcases eP ⟨r1.c+1,fW B⟩ ((dG p t B σ1).2,r1) with ⟨-,h2,h3⟩|⟨-,h2⟩
     ·rw [h2];show r1.c≤r1.c+1;omega
     ·rw [h2];exact Int.le_refl _
   ·rw [TS.and_ne (by rw [hwt];exact h1),hwt]
    exact⟨hww,hr1k,Int.le_refl _⟩
  generalize ((dG p t B).t.and (aLK B)) (σ1,r1)=FF at *
  obtain⟨k1,k2,k3⟩:=key
  refine⟨⟨by rw [sA (k1.trans hbw)];exact hI.len,k2,fun _ h=>nomatch h⟩,fun s hs=>?_⟩
  rw [hfs,if_pos rfl,aQi]
  obtain⟨h1,h2⟩:=aQc c ((List.range (Gm.sealed p)).map fun k=>(k,List.replicate 256 (0:UInt8))) s (by rw [gS,show (List.range (Gm.sealed p)).map (Prod.fst∘fun k=>(k,List.replicate 256 (0:UInt8)))=List.range (Gm.sealed p) from List.map_id _];exact List.nodup_range) (fun z hz y hy e=>by
   have:=hs.le y hy
   rw [show y.1.1=c from congrArg Prod.fst e] at this
   omega)
  refine⟨h1.trans hs.one,fun y hy=>?_,fun _ h=>nomatch h⟩
  rcases h2 y hy with h3|h3
  ·have:=hs.le y h3;omega
  ·rw [h3];omega
 ·rw [TS.and_ne (by rw [hbb];exact he),hbb]
  refine⟨⟨by rw [sA hbw];exact hI.len,by rw [hr1];exact hI.r,fun _ h=>nomatch h⟩,fun s hs=>?_⟩
  rw [hfs,if_neg he,hr1]
  exact⟨hs.one,hs.le,fun _ h=>nomatch h⟩
structure Clo(p t:Nat)(X:UInt64→Nat→List UInt8→List UInt8)(Q Q':Dv→Rg→Sr→Option So→Prop):Prop where
 no:∀ {σ r s o},Q σ r s o→Q' σ r s o
 cm:∀ {σ r s x} (l:List Ent),Inv p t σ r (some x)→Q σ r s (some x)→Q' (cmS p t X l (σ,r,x)).2.1 (cmS p t X l (σ,r,x)).2.2.1 (aPl p t r x l s) (some (cmS p t X l (σ,r,x)).2.2.2)
 rd:∀ {σ r s x} (k:Int),Inv p t σ r (some x)→Q σ r s (some x)→Q' σ r s (some (rdS p X k σ x).2.2)
 op:∀ {σ r s o} (w:Bool),Inv p t σ r o→Q σ r s o→Q' (iS p t w (σ,r)).2.1 (iS p t w (σ,r)).2.2 s (jJ p t w σ r)
 fm:∀ {σ r s o},Inv p t σ r o→Q σ r s o→Q' (nF p t X (σ,r)).2.1 (nF p t X (σ,r)).2.2 (wA p σ r s) none
 cr:∀ {σ r s o} (q:List UInt8),Q σ r s o→Q' (σ.crash q).on r s o
 on:∀ {σ r s o},Q σ r s o→Q' σ.on r s o
 ar:∀ {σ r s o} (n:Int) (q:List UInt8),Q σ r s o→Q' (σ.arm n q) r s o
 ta:∀ {σ r s o} (a:Int) (b:List UInt8),Q σ r s o→Q' (σ.tam a b) r s o
theorem aQH{p t:Nat}{X:UInt64→Nat→List UInt8→List UInt8}(hX:∀ e k b,(X e k b).length=b.length)(h:Gm.Ok p t):Clo p t X (fun _ r s o=>nP r s o) (fun _ r s o=>nP r s o) where
 no hq:=hq
 cm l hI hq:=by
  obtain⟨e,σ',r',x',he,-,hh⟩:=hI.commit hX h (l:=l)
  rw [he]
  exact hh _ hq
 rd k hI hq:=(hI.read k).2 _ hq
 op w hI hq:=(hI.open w).2 _ hq
 fm hI hq:=hI.format.2 _ hq
 cr _ hq:=hq
 on hq:=hq
 ar _ _ hq:=hq
 ta _ _ hq:=hq
theorem Inv.dev{p t:Nat}{σ σ':Dv}{r:Rg}{o:Option So}(hI:Inv p t σ r o)(h:σ'.ws.length=σ.ws.length):Inv p t σ' r o:=⟨by rw [sA h];exact hI.len,hI.r,hI.o⟩
section
attribute [local irreducible] SW SL SQ SH SA SS Pu Fin bZ aQ
theorem aQG(p:Nat)(c:UInt64)(l:List Ent)(σ:Dv)(r:Rg)(x:So):(rZ p c l (σ,r,x)).2.2.2.st=if (rZ p c l (σ,r,x)).1=0 then x.st else 8:=by
 obtain⟨e,σ1,r2,ha⟩:∃ e σ1 r2,((vL p c l).t.and (mT ⟨(c.toNat:Int),iU (pP x.lv (tK p (eE c x.es l) l))⟩)) (σ,r)=(e,σ1,r2):=⟨_,_,_,rfl⟩
 by_cases he:e=0
 ·subst he
  obtain⟨e2,σ2,hb⟩:∃ e2 σ2,((aBf p (eE c x.es l) l).and (gH (Gm.leaves p) (1+l.length))) σ1=(e2,σ2):=⟨_,_,rfl⟩
  rw [aDu rfl rfl ha hb]
 ·rw [aFa rfl rfl ha he]
  dsimp only
  rw [if_neg he]
theorem aQw{sp d tr s p t rc n N:Nat}{ws:List (List UInt8)}(h:Gm.Ok p t){σ:Dv}{x:So}(hx:x.Ok p){r:Rg}(hr:r.Ok){Hd HT HR:Hp}(hD:lS d σ Hd)(h8:σ.ws.length%8=0)(hS:aLj sp d tr s p t x HT)(hSe:rV s rc n ws N HR)(hKo:qB n ws)(hN:N≤100000000){lv:Value}{us:List Value}{l:List Ent}(hn:l.length≤1000){X:UInt64→Nat→List UInt8→List UInt8}(hXX:dT (Rg.enc ws n)=X) :
  Tri prog 73 [ptv sp,lv] (aQr d tr r HT Hd HR) (fun w=>aT ((aQr d tr r HT Hd HR).map Prod.fst) w lv us l)
  (fun v H=>∃ Hd' HT' HR',v=.int .i64 (cmS p t X l (σ,r,x)).1∧lS d (cmS p t X l (σ,r,x)).2.1 Hd'∧aLj sp d tr s p t (cmS p t X l (σ,r,x)).2.2.2 HT'∧rV s rc n ws (N+1000) HR' ∧
   H=(tr,cl (rtc d (cmS p t X l (σ,r,x)).2.2.1) 120)::(HT'++(Hd'++HR'))):=by
 have hS0:=hS
 obtain⟨ev,lfv,He,Hl,rfl,hE,hLf⟩:=hS
 have oe:=hE.isOne
 have ol:=hLf.isOne
 have hdo:=fun (c:UInt64) (hm:gV p t l=true)=>aQJ (tr:=tr) h hx hr hD h8 hS0 hSe hKo hN (lv:=lv) (us:=us) hm (c:=c) hXX
 have hSN:∀ {N':Nat} {H:Hp},N'≤N+1000→rV s rc n ws N' H→rV s rc n ws (N+1000) H:=fun hle ⟨lv,tw,te,tb,tp,L,Hc,HL,Ht,e,h1,h2,h3,h4⟩=>⟨lv,tw,te,tb,tp,L,Hc,HL,Ht,e,h1,h2,fA h3 hle,h4⟩
 have hSe1:=hSN oQ hSe
 refine Tri.mk func73 rfl ntmps73 rfl fun w hw=>?_
 have hw0:=hw
 obtain⟨hw1,hul,hws⟩:=hw
 have hle:=aT.le hw0
 obtain⟨la,ll,lc,rfl,hlen,-⟩:=hw1.get
 rw [gE us l hul] at hlen
 obtain rfl:ll=l.length:=by omega
 obtain⟨f1,f2,f3⟩:=aFM d hr
 have hc0:=hr.c0
 have hc1:=hr.c1
 have hend:∀ (e:Int),cmS p t X l (σ,r,x)=(e,(σ,r,x))→∃ Hd' HT' HR',(Value.int .i64 e:Value)=.int .i64 (cmS p t X l (σ,r,x)).1∧lS d (cmS p t X l (σ,r,x)).2.1 Hd'∧aLj sp d tr s p t (cmS p t X l (σ,r,x)).2.2.2 HT'∧rV s rc n ws (N+1000) HR' ∧
   ((tr,cl (rtc d r) 120)::(((sp,cl (lP d tr s p t ev lfv x.w x.st) 160)::(He++Hl))++(Hd++HR)):Hp)=(tr,cl (rtc d (cmS p t X l (σ,r,x)).2.2.1) 120)::(HT'++(Hd'++HR')):=fun e he=>by
  rw [he]
  exact⟨Hd,_,HR,rfl,hD,⟨ev,lfv,He,Hl,rfl,hE,hLf⟩,hSe1,rfl⟩
 have hmS:nI p t r x l=if x.st≠0 then x.st else if x.w=false then 29 else if r.c=18446744073709551615 then 21 else if t<l.length then 28 else if l≠[]∧oM p (-1) l=false then 1 else 0:=rfl
 have hcno:∀ e,nI p t r x l=e→e≠0→cmS p t X l (σ,r,x)=(e,(σ,r,x)):=fun e h1 h2=>by
  unfold cmS
  dsimp only
  rw [if_pos (by rw [h1];exact h2),h1]
 by_cases h0:x.st≠0
 ·have h0':¬ x.st=0:=h0
  have he:=hend x.st (hcno _ (by rw [hmS,if_pos h0]) h0)
  generalize cmS p t X l (σ,r,x)=CC at *
  refine W.k ?_
  refine Fin.to (bT d tr sp s p t r ev lfv x.w x.st He Hl Hd HR) ?_
  exact F.f1 he
 rw [if_neg h0] at hmS
 have h0':x.st=0:=Decidable.not_not.1 h0
 cases hxw:x.w with
 | false=>
  have he:=hend 29 (hcno _ (by rw [hmS,if_pos hxw]) dQ)
  rw [hxw] at he
  generalize cmS p t X l (σ,r,x)=CC at *
  refine W.k ?_
  refine Fin.to (bT d tr sp s p t r ev lfv false x.st He Hl Hd HR) ?_
  exact F.f1 he
 | true=>
  rw [if_neg (by rw [hxw];decide)] at hmS
  rw [hxw] at hend
  haveI i1:U64 r.c (UInt64.ofNat r.c.toNat):=⟨by rw [bC];omega⟩
  by_cases hcl:r.c=18446744073709551615
  ·have he:=hend 21 (hcno _ (by rw [hmS,if_pos hcl]) dQ)
   have e1:(((UInt64.ofNat r.c.toNat+1).toNat:Nat):Int)=0:=by
    rw [iX,bC,show (1:UInt64).toNat=1 from rfl];omega
   generalize cmS p t X l (σ,r,x)=CC at *
   refine W.k ?_
   refine Fin.to (bT d tr sp s p t r ev lfv true x.st He Hl Hd HR) ?_
   exact F.f1 he
  rw [if_neg hcl] at hmS
  have e1:(((UInt64.ofNat r.c.toNat+1).toNat:Nat):Int)=r.c+1:=by
   rw [iX,bC,show (1:UInt64).toNat=1 from rfl];omega
  have e2:UInt64.ofNat r.c.toNat+1=UInt64.ofNat (r.c+1).toNat:=UInt64.toNat_inj.1 (by rw [bC];omega)
  by_cases hl0:l.length=0
  ·have hl00:l=[]:=bL hl0
   have he:=hend 0 (by
    unfold cmS
    dsimp only
    rw [if_neg (by rw [hmS,if_neg oQ,if_neg (fun hh=>hh.1 hl00)];simp),if_pos hl00])
   generalize cmS p t X l (σ,r,x)=CC at *
   refine W.k ?_
   refine Fin.to (bT d tr sp s p t r ev lfv true x.st He Hl Hd HR) ?_
   exact F.f1 he
  have hl00:l≠[]:=fun e=>hl0 (by rw [e];rfl)
  by_cases htl:t<l.length
  ·have he:=hend 28 (hcno _ (by rw [hmS,if_pos htl]) dQ)
   generalize cmS p t X l (σ,r,x)=CC at *
   refine W.k ?_
   refine Fin.to (bT d tr sp s p t r ev lfv true x.st He Hl Hd HR) ?_
   exact F.f1 he
  rw [if_neg htl] at hmS
  have hmy:=aHR h 0 (.slice la l.length lc) us l hle oQ
  have hmB:gV p t l=oM p (-1) l:=by unfold gV;rw [decide_eq_true (show 1≤l.length∧l.length≤t by omega),jA]
  cases hm:gV p t l with
  | false=>
   rw [hm] at hmy
   have he:=hend 1 (hcno _ (by rw [hmS,if_pos ⟨hl00,by rw [← hmB];exact hm⟩]) dQ)
   generalize cmS p t X l (σ,r,x)=CC at *
   refine W.k ?_
   refine eU hmy rfl ?_ (hpre:=fun w2 hs=>hw1.ro (Hc:=[]) hs)
   rintro _ _ ⟨rfl,rfl⟩
   refine W.k ?_
   refine Fin.to (bT d tr sp s p t r ev lfv true x.st He Hl Hd HR) ?_
   exact F.f1 he
  | true=>
   rw [hm] at hmy
   have h00:nI p t r x l=0:=by rw [hmS,if_neg (fun hh=>by rw [hmB,hh.2] at hm;cases hm)]
   have hd:=hdo (UInt64.ofNat (r.c+1).toNat) hm
   have hst:=aQG p (UInt64.ofNat (r.c+1).toNat) (fL X (UInt64.ofNat (r.c+1).toNat) l) σ r x
   rw [aQq h00 hl00]
   rw [← e2] at hd hst ⊢
   clear hdo hend hcno
   generalize rZ p (UInt64.ofNat r.c.toNat+1) (fL X (UInt64.ofNat r.c.toNat+1) l) (σ,r,x)=DD at *
   obtain⟨e,σ',r',x'⟩:=DD
   obtain⟨xe,xl,xw,xs⟩:=x'
   have hst':xs=if e=0 then x.st else 8:=hst
   clear hst
   dsimp only at hd ⊢
   subst hst'
   rw [hxw] at hd
   refine W.k ?_
   refine eU hmy rfl ?_ (hpre:=fun w2 hs=>hw1.ro (Hc:=[]) hs)
   rintro _ _ ⟨rfl,rfl⟩
   refine W.k ?_
   refine aG hd ?_ (hpre:=fun w2 hs=>hw0.ro hs)
   rintro _ _ ⟨Hd',HT',HR',rfl,hD',⟨ev',lv',He',Hl',rfl,hE',hL'⟩,hS',rfl⟩
   have oe':=hE'.isOne
   have ol':=hL'.isOne
   dsimp only at hE' hL'
   have hS2:=hSN oQ hS'
   by_cases he:e=0
   ·rw [if_pos he]
    refine W.k ?_
    refine Fin.to (bT d tr sp s p t r' ev' lv' xw x.st He' Hl' Hd' HR') ?_
    exact F.f1 ⟨Hd',_,HR',rfl,hD',⟨ev',lv',He',Hl',rfl,hE',hL'⟩,hS2,rfl⟩
   ·rw [if_neg he]
    refine W.k ?_
    rw [show (lP d tr s p t ev' lv' xw x.st).set 8 (.int .i64 8)=lP d tr s p t ev' lv' xw 8 from rfl]
    refine Fin.to (bT d tr sp s p t r' ev' lv' xw 8 He' Hl' Hd' HR') ?_
    exact F.f1 ⟨Hd',_,HR',rfl,hD',⟨ev',lv',He',Hl',rfl,hE',hL'⟩,hS2,rfl⟩
theorem rV.up{rs rc n:Nat}{ws:List (List UInt8)}{N N':Nat}{H:Hp}(h:rV rs rc n ws N H)(hle:N≤N'):rV rs rc n ws N' H:=by
 obtain⟨lv,tw,te,tb,tp,L,Hc,HL,Ht,e,h1,h2,h3,h4⟩:=h
 exact⟨lv,tw,te,tb,tp,L,Hc,HL,Ht,e,h1,h2,fA h3 hle,h4⟩
theorem aAe.up{pp p t n N N':Nat}{ws ws':List (List UInt8)}{σ:Dv}{r:Rg}{sr:Sr}{β:Bk}{o:Option So}{H:Hp}(h:aAe pp p t n N ws ws' σ r sr β o H)(hle:N≤N'):aAe pp p t n N' ws ws' σ r sr β o H:=by
 obtain⟨i,sv,rv,Hd,Hs,Hk,HD,HR,HS,HT,hD,hS,hB,hDR,hSR,hO,hOR,rfl⟩:=h
 exact⟨i,sv,rv,Hd,Hs,Hk,HD,HR,HS,HT,hD,hS,hB,hDR,hSR.up hle,hO,hOR,rfl⟩
abbrev nQ(i:Pid)(p t pp:Nat)(sv rv:Value)(r:Rg)(Hd Hs Hk HD HR HS HT:Hp):Hp:=(pp,cl (yU i p t sv rv) 47)::(i.tr,cl (trc i.d r) 201)::(i.rtr,cl (rtc i.rd r) 120)::(Hd++(Hs++(Hk++(HD++(HR++(HS++HT))))))
def aQP(pp p t n N:Nat)(ws ws':List (List UInt8))(σ:Dv)(r:Rg)(sr:Sr)(o:Option So)(H:Hp):Prop:=
 ∃ (σ':Dv) (r':Rg) (sr':Sr) (β':Bk) (o':Option So),aAe pp p t n (N+1000) ws ws' σ' r' sr' β' o' H∧Inv p t σ' r' o'∧∀ Q Q',Clo p t (dT (Aes.enc ws n)) Q Q'→Q σ r sr o→Q' σ' r' sr' o'
def aQa(K:List Nat)(w:World)(a:lX)(us:List Value)(l:List Ent):Prop:=aT K w a.lv us l∧(∃ b,Rd K w 1 a.bv (cbs b))∧∃ q,Rd K w 1 a.pv (cbs q)
theorem aQg{K:List Nat}{w:World}{v:Value}(m:Nat)(h:∃ b,Rd K w 1 v (cbs b)):∃ b:List UInt8,b.length≤m∧Rd K w 1 (ctV m v) (cbs b)∧One (ctV m v):=by
 obtain⟨b,hb⟩:=h
 have h2:=aQz hb m
 exact⟨b.take m,by rw [aK];omega,h2,h2.isOne⟩
theorem aQa.one{K:List Nat}{w:World}{a:lX}{us:List Value}{l:List Ent}(h:aQa K w a us l):OC a.c:=by
 have o1:One a.lv:=h.1.1.isOne
 have o2:One a.bv:=h.2.1.elim fun b hb=>hb.isOne
 have o3:One a.pv:=h.2.2.elim fun b hb=>hb.isOne
 infer_instance
theorem aQa.all{K:List Nat}{w:World}{a:lX}{us:List Value}{l:List Ent}(h:aQa K w a us l):OC a.c∧a.c.length=9∧(∃ b:List UInt8,b.length≤300∧Rd K w 1 (ctV 300 a.bv) (cbs b)∧One (ctV 300 a.bv))∧∃ b:List UInt8,b.length≤12∧Rd K w 1 (ctV 12 a.pv) (cbs b)∧One (ctV 12 a.pv):=
 ⟨h.one,rfl,aQg 300 h.2.1,aQg 12 h.2.2⟩
theorem aQa.cut{K:List Nat}{w0 w:World}{H r:Hp}{a:lX}{us:List Value}{l:List Ent}(h:aQa K w0 a us l)(hs:St K w0 H w) [hp:fT H [] r]:aG8 w a.lv us l∧(∃ b,Rd [] w 1 a.bv (cbs b))∧∃ q,Rd [] w 1 a.pv (cbs q):=
 ⟨h.1.ro (Hc:=[]) hs,h.2.1.elim fun b hb=>⟨b,hb.ro (Hc:=[]) hs⟩,h.2.2.elim fun b hb=>⟨b,hb.ro (Hc:=[]) hs⟩⟩
abbrev aQn(pp p t n N:Nat)(ws ws':List (List UInt8))(σ:Dv)(r:Rg)(sr:Sr)(o:Option So)(H:Hp)(a:lX)(us:List Value)(l:List Ent):Prop:=Tri prog 30 [ptv pp,.agg a.c.toArray] H (fun w=>aQa (H.map Prod.fst) w a us l) (fun v H'=>v=.bool true∧aQP pp p t n N ws ws' σ r sr o H')
structure XoS where
 k:Nat
 HA:Hp
 HB:Hp
section
variable {pp p t n N:Nat}{ws ws':List (List UInt8)}{σ:Dv}{r:Rg}{sr:Sr}{β:Bk}{o:Option So}{H:Hp}
theorem aQM(h:Gm.Ok p t)(hP:aAe pp p t n N ws ws' σ r sr β o H)(hI:Inv p t σ r o)(a:lX)(us:List Value)(l:List Ent)(hl:l.length≤maxLen)(ha : -9223372036854775808≤a.at'∧a.at'≤9223372036854775807)(hk:¬ (a.kind=0∨a.kind=1∨a.kind=2∨a.kind=3∨a.kind=6∨a.kind=7)) :
  aQn pp p t n N ws ws' σ r sr o H a us l:=by
 obtain⟨i,sv,rv,Hd,Hs,Hk,HD,HR,HS,HT,hD,hS,hB,hDR,hSR,hO,hOR,rfl⟩:=hP
 refine Tri.mk func30 rfl ntmps30 rfl fun w hw=>?_
 obtain⟨oc,hol,⟨bb,hb300,hbR,ob⟩,qq,hq12,hqR,oq⟩:=hw.all
 have hcu:=aQp a us l hl
 have os:=hO.one
 have ot:=hOR.one
 have w8:=hI.w8
 have key:∀ (σ':Dv) (Hd' HD':Hp),σ'.ws.length=σ.ws.length→fS i.d σ' Hd'→lS i.rd σ' HD'→(∀ Q Q',Clo p t (dT (Aes.enc ws n)) Q Q'→Q σ r sr o→Q' σ' r sr o)→aQP pp p t n N ws ws' σ r sr o (nQ i p t pp sv rv r Hd' Hs Hk HD' HR HS HT):=fun σ' Hd' HD' hwl h1 h2 hq=>
  ⟨σ',r,sr,β,o,⟨i,sv,rv,Hd',Hs,Hk,HD',HR,HS,HT,h1,hS,hB,h2,hSR.up oQ,hO,hOR,rfl⟩,hI.dev hwl,hq⟩
 obtain⟨kind,lv,full,kk,n0,at',bv,wr,pv⟩:=a
 dsimp only [lX.c] at hol oc ha hk hcu hbR hqR ob oq ⊢
 generalize ctV 300 bv=bv2 at *
 generalize ctV 12 pv=pv2 at *
 refine W.k fun b_=>?_
 refine aG hcu ?_ (hpre:=fun w2 hs=>hw.cut hs)
 rintro _ _ ⟨lv2,r0,us2,l2,HO,HQ,rfl,hr0,hO2,-,rfl⟩
 have oO:=hO2.isOne
 by_cases k4:kind=4
 ·subst k4
  have h1:=aQF hD pv2 qq
  have h2:=aQD hDR pv2 qq
  refine W.k ?_
  (refine SW.l [7] [0,1,2,3,4,5,6] ?_;refine bV 7 ?_)
  refine aG h1 ?_ (hpre:=fun w2 hs=>hqR.ro (Hc:=Hd) hs)
  rintro _ Hd2 ⟨rfl,hD2⟩
  (refine bK [] ?_;refine SS.dn ?_)
  refine W.k ?_
  (refine SW.l [7] [0,1,2,3,4,5,6] ?_;refine bV 7 ?_)
  refine aG h2 ?_ (hpre:=fun w2 hs=>hqR.ro (Hc:=HD) hs)
  rintro _ HD2 ⟨rfl,hDR2⟩
  (refine bK [] ?_;refine SS.dn ?_)
  have h3:=aQ3 hD2
  have h4:=aQR hDR2
  refine W.k ?_
  refine aG h3 ?_
  rintro _ Hd3 ⟨rfl,hD3⟩
  refine W.k ?_
  refine aG h4 ?_
  rintro _ HD3 ⟨rfl,hDR3⟩
  refine W.k ?_
  refine Fin.to (nQ i p t pp sv rv r Hd3 Hs Hk HD3 HR HS HT) ?_
  exact F.f1 ⟨rfl,key (σ.crash qq).on Hd3 HD3 (aJH qq σ) hD3 hDR3 fun Q Q' hQ hq=>hQ.cr qq hq⟩
 by_cases k5:kind=5
 ·subst k5
  have h1:=aQ1 hD (r0:Int) oQ pv2 qq oQ
  have h2:=aQX hDR (r0:Int) oQ pv2 qq oQ
  refine W.k ?_
  (refine SW.l [9] [0,1,2,3,4,5,6,7,8] ?_;refine bV 9 ?_)
  refine aG h1 ?_ (hpre:=fun w2 hs=>hqR.ro (Hc:=Hd) hs)
  rintro _ Hd2 ⟨rfl,hD2⟩
  (refine bK [] ?_;refine SS.dn ?_)
  refine W.k ?_
  (refine SW.l [9] [0,1,2,3,4,5,6,7,8] ?_;refine bV 9 ?_)
  refine aG h2 ?_ (hpre:=fun w2 hs=>hqR.ro (Hc:=HD) hs)
  rintro _ HD2 ⟨rfl,hDR2⟩
  (refine bK [] ?_;refine SS.dn ?_)
  refine W.k ?_
  refine Fin.to (nQ i p t pp sv rv r Hd2 Hs Hk HD2 HR HS HT) ?_
  exact F.f1 ⟨rfl,key (σ.arm (r0:Int) qq) Hd2 HD2 rfl hD2 hDR2 fun Q Q' hQ hq=>hQ.ar _ _ hq⟩
 by_cases k8:kind=8
 ·subst k8
  have h1:=aPM hD at' bv2 bb oQ ha
  have h2:=aQY hDR at' bv2 bb oQ ha
  have hwl:=aQ0 σ at' bb
  have hta:∀ Q Q',Clo p t (dT (Aes.enc ws n)) Q Q'→Q σ r sr o→Q' (σ.tam at' bb) r sr o:=fun Q Q' hQ hq=>hQ.ta _ _ hq
  generalize σ.tamB at' bb.length=tb at *
  generalize σ.tam at' bb=σ2 at *
  refine W.k ?_
  (refine SW.l [19] [0,1,2,3,4,5,6,7,8,10,11,12,13,14,15,16,17,18] ?_;refine aX 9 ?_)
  refine aG h1 ?_ (hpre:=fun w2 hs=>hbR.ro (Hc:=Hd) hs)
  rintro _ Hd2 ⟨rfl,hD2⟩
  (refine bK [] ?_;refine bV 19 ?_)
  refine aG h2 ?_ (hpre:=fun w2 hs=>hbR.ro (Hc:=HD) hs)
  rintro _ HD2 ⟨rfl,hDR2⟩
  cases tb
  all_goals
   (refine bK [] ?_;refine dN 20 rfl (aPu rfl rfl rfl) ?_;refine SG.l [21,22] ?_)
   refine W.k ?_
   refine Fin.to (nQ i p t pp sv rv r Hd2 Hs Hk HD2 HR HS HT) ?_
   exact F.f1 ⟨rfl,key _ Hd2 HD2 hwl hD2 hDR2 hta⟩
 have h3:=aQ3 hD
 have h4:=aQR hDR
 refine W.k ?_
 refine aG h3 ?_
 rintro _ Hd3 ⟨rfl,hD3⟩
 refine W.k ?_
 refine aG h4 ?_
 rintro _ HD3 ⟨rfl,hDR3⟩
 refine W.k ?_
 refine Fin.to (nQ i p t pp sv rv r Hd3 Hs Hk HD3 HR HS HT) ?_
 exact F.f1 ⟨rfl,key σ.on Hd3 HD3 rfl hD3 hDR3 fun Q Q' hQ hq=>hQ.on hq⟩
theorem aQN(h:Gm.Ok p t)(hP:aAe pp p t n N ws ws' σ r sr β o H)(hI:Inv p t σ r o)(hK:qB n ws)(hK':qB n ws')(hN:N≤1000000)(hX:Rg.enc ws' n=Aes.enc ws n)(a:lX)(us:List Value)(l:List Ent)(hl:l.length≤maxLen)(hk:a.kind=6∨a.kind=7) :
  aQn pp p t n N ws ws' σ r sr o H a us l:=by
 have hop:=fun wr=>aL5 h hP hI.len hI.r wr
 have hio:=fun w=>hI.open w
 obtain⟨i,sv,rv,Hd,Hs,Hk,HD,HR,HS,HT,hD,hS,hB,hDR,hSR,hO,hOR,rfl⟩:=hP
 have hfm:=aIJ (pp:=pp) (o:=none) (H:=(pp,cl (yU i p t (.pointer none) (.pointer none)) 47)::(i.tr,cl (trc i.d r) 201)::(i.rtr,cl (rtc i.rd r) 120)::(Hd++(Hs++(Hk++(HD++(HR++([]++[]))))))) h ⟨i,.pointer none,.pointer none,Hd,Hs,Hk,HD,HR,[],[],hD,hS,hB,hDR,hSR,⟨rfl,rfl⟩,⟨rfl,rfl⟩,rfl⟩ hI.len hI.r hK hK' hN hX
 have hif:=hI.format (X:=dT (Aes.enc ws n))
 refine Tri.mk func30 rfl ntmps30 rfl fun w hw=>?_
 obtain⟨oc,hol,⟨bb,hb300,hbR,ob⟩,qq,hq12,hqR,oq⟩:=hw.all
 have hcu:=aQp a us l hl
 have os:=hO.one
 have ot:=hOR.one
 obtain⟨kind,lv,full,kk,n0,at',bv,wr,pv⟩:=a
 dsimp only [lX.c] at hol oc hk hcu hbR hqR ob oq ⊢
 generalize ctV 300 bv=bv2 at *
 generalize ctV 12 pv=pv2 at *
 rcases hk with rfl|rfl
 ·refine W.k fun b_=>?_
  refine aG hcu ?_ (hpre:=fun w2 hs=>hw.cut hs)
  rintro _ _ ⟨lv2,r0,us2,l2,HO,HQ,rfl,hr0,hO2,-,rfl⟩
  have oO:=hO2.isOne
  refine W.k ?_
  refine aG (hop wr) ?_
  rintro _ H2 ⟨rfl,hP2⟩
  refine W.k ?_
  refine Fin.to H2 ?_
  exact F.f1 ⟨rfl,_,_,_,_,_,hP2.up oQ,(hio wr).1,fun Q Q' hQ hq=>hQ.op wr hI hq⟩
 ·refine W.k fun b_=>?_
  refine aG hcu ?_ (hpre:=fun w2 hs=>hw.cut hs)
  rintro _ _ ⟨lv2,r0,us2,l2,HO,HQ,rfl,hr0,hO2,-,rfl⟩
  have oO:=hO2.isOne
  refine W.k ?_
  rw [show ((yU i p t sv rv).set 6 (.pointer none)).set 12 (.pointer none)=yU i p t (.pointer none) (.pointer none) from rfl]
  refine aG hfm ?_
  rintro _ H2 ⟨rfl,hP2⟩
  refine W.k ?_
  refine Fin.to H2 ?_
  exact F.f1 ⟨rfl,_,_,_,_,_,hP2.up oQ,hif.1,fun Q Q' hQ hq=>hQ.fm hI hq⟩
theorem aQO(h:Gm.Ok p t)(hP:aAe pp p t n N ws ws' σ r sr β o H)(hI:Inv p t σ r o)(hK:qB n ws)(hK':qB n ws')(hX:Rg.enc ws' n=Aes.enc ws n)(a:lX)(us:List Value)(l:List Ent)(hl:l.length≤maxLen)(hk:a.kind=3) :
  aQn pp p t n N ws ws' σ r sr o H a us l:=by
 have hP0:=hP
 obtain⟨i,sv,rv,Hd,Hs,Hk,HD,HR,HS,HT,hD,hS,hB,hDR,hSR,hO,hOR,rfl⟩:=hP
 refine Tri.mk func30 rfl ntmps30 rfl fun w hw=>?_
 obtain⟨oc,hol,⟨bb,hb300,hbR,ob⟩,qq,hq12,hqR,oq⟩:=hw.all
 have hcu:=aQp a us l hl
 have os:=hO.one
 have ot:=hOR.one
 obtain⟨kind,lv,full,kk,n0,at',bv,wr,pv⟩:=a
 dsimp only [lX.c] at hol oc hk hcu hbR hqR ob oq ⊢
 generalize ctV 300 bv=bv2 at *
 generalize ctV 12 pv=pv2 at *
 subst hk
 cases o with
 | none=>
  obtain⟨rfl,rfl⟩:=hO
  obtain⟨rfl,rfl⟩:=hOR
  refine W.k fun b_=>?_
  refine aG hcu ?_ (hpre:=fun w2 hs=>hw.cut hs)
  rintro _ _ ⟨lv2,r0,us2,l2,HO,HQ,rfl,hr0,hO2,-,rfl⟩
  have oO:=hO2.isOne
  refine W.k ?_
  refine Fin.to (nQ i p t pp (.pointer none) (.pointer none) r Hd Hs Hk HD HR [] []) ?_
  exact F.f1 ⟨rfl,σ,r,sr,β,none,hP0.up oQ,hI,fun Q Q' hQ hq=>hQ.no hq⟩
 | some x=>
  obtain⟨sp,rfl,hSt⟩:=hO
  obtain⟨rsp,rfl,hRt⟩:=hOR
  have hx:=hI.o x rfl
  have h1:=aAO (tr:=i.tr) h hx hD hI.len hSt hB hS hK kk
  have h2:=aQI (tr:=i.rtr) h hx hDR hI.len hRt hSR hK' kk
  rw [hX] at h2
  have hi:=hI.read (X:=dT (Aes.enc ws n)) kk
  have hqr:∀ Q Q',Clo p t (dT (Aes.enc ws n)) Q Q'→Q σ r sr (some x)→Q' σ r sr (some (rdS p (dT (Aes.enc ws n)) kk σ x).2.2):=fun Q Q' hQ hq=>hQ.rd kk hI hq
  generalize rdS p (dT (Aes.enc ws n)) kk σ x=RR at *
  generalize rdK p kk σ x β=β2 at *
  obtain⟨e,bs,x2⟩:=RR
  dsimp only at h1 h2 hi hqr
  refine W.k fun b_=>?_
  refine aG hcu ?_ (hpre:=fun w2 hs=>hw.cut hs)
  rintro _ _ ⟨lv2,r0,us2,l2,HO,HQ,rfl,hr0,hO2,-,rfl⟩
  have oO:=hO2.isOne
  refine W.k ?_
  (refine SW.l [6] [0,1,2,3,4,5] ?_;refine bV 6 ?_)
  refine aG h1 ?_
  rintro _ _ ⟨v1,Hr1,HS2,Hk2,rfl,hr1,hSt2,hB2,rfl⟩
  have o1:=hr1.isOne
  (refine SL.l [7,8,9,10,11,12] ?_)
  refine W.k ?_
  (refine SW.l [6] [0,1,2,3,4,5] ?_;refine bV 6 ?_)
  refine aG h2 ?_
  rintro _ _ ⟨v2,Hr2,HT2,rfl,hr2,hRt2,rfl⟩
  have o2:=hr2.isOne
  (refine SL.l [7,8,9,10,11,12] ?_)
  refine W.k ?_
  refine aJt (bs:=bs) hr1 ?_
  refine W.k ?_
  refine aJt (bs:=bs) hr2 ?_
  refine W.k ?_
  refine Fin.to (nQ i p t pp (ptv sp) (ptv rsp) r Hd Hs Hk2 HD HR HS2 HT2) ?_
  refine F.f1 ?_
  exact⟨by simp,σ,r,sr,β2,some x2,⟨i,ptv sp,ptv rsp,Hd,Hs,Hk2,HD,HR,HS2,HT2,hD,hS,hB2,hDR,hSR.up oQ,⟨sp,rfl,hSt2⟩,⟨rsp,rfl,hRt2⟩,rfl⟩,hi.1,hqr⟩
theorem aQL(h:Gm.Ok p t)(hP:aAe pp p t n N ws ws' σ r sr β o H)(hI:Inv p t σ r o)(hK:qB n ws)(hK':qB n ws')(hN:N≤1000000)(hX:Rg.enc ws' n=Aes.enc ws n)(a:lX)(us:List Value)(l:List Ent)(hl:l.length≤maxLen)(hk:a.kind=0∨a.kind=1∨a.kind=2) :
  aQn pp p t n N ws ws' σ r sr o H a us l:=by
 have hP0:=hP
 obtain⟨i,sv,rv,Hd,Hs,Hk,HD,HR,HS,HT,hD,hS,hB,hDR,hSR,hO,hOR,rfl⟩:=hP
 refine Tri.mk func30 rfl ntmps30 rfl fun w hw=>?_
 obtain⟨oc,hol,⟨bb,hb300,hbR,ob⟩,qq,hq12,hqR,oq⟩:=hw.all
 have hcu:=aQp a us l hl
 have os:=hO.one
 have ot:=hOR.one
 have hwE:=hw.1
 obtain⟨kind,lv,full,kk,n0,at',bv,wr,pv⟩:=a
 dsimp only [lX.c] at hol oc hk hcu hbR hqR ob oq hwE ⊢
 generalize ctV 300 bv=bv2 at *
 generalize ctV 12 pv=pv2 at *
 cases o with
 | none=>
  obtain⟨rfl,rfl⟩:=hO
  obtain⟨rfl,rfl⟩:=hOR
  rcases hk with rfl|rfl|rfl
  all_goals
   refine W.k fun b_=>?_
   refine aG hcu ?_ (hpre:=fun w2 hs=>hw.cut hs)
   rintro _ _ ⟨lv2,r0,us2,l2,HO,HQ,rfl,hr0,hO2,-,rfl⟩
   have oO:=hO2.isOne
   refine W.k ?_
   refine Fin.to (nQ i p t pp (.pointer none) (.pointer none) r Hd Hs Hk HD HR [] []) ?_
   exact F.f1 ⟨rfl,σ,r,sr,β,none,hP0.up oQ,hI,fun Q Q' hQ hq=>hQ.no hq⟩
 | some x=>
  obtain⟨sp,rfl,hSt⟩:=hO
  obtain⟨rsp,rfl,hRt⟩:=hOR
  have hx:=hI.o x rfl
  have hXl:∀ e j b,(dT (Aes.enc ws n) e j b).length=b.length:=fun e j b=>oS (E:=Aes.enc ws n) (fun y=>Aes.enc_len ..) e j b
  have hio:=fun l=>hI.commit hXl h (l:=l)
  rcases hk with rfl|rfl|rfl
  all_goals
   refine W.k fun b_=>?_
   refine aG hcu ?_ (hpre:=fun w2 hs=>hw.cut hs)
   rintro _ _ ⟨lv2,r0,us2,l2,HO,HQ,rfl,hr0,hO2,hC,rfl⟩
   have hln:l2.length≤26:=by have:=hC.n;omega
   have hul2:=hC.ul
   have h260:∀ x∈l2,x.2.length≤1000000:=fun y hy=>by
    obtain⟨j,hj⟩:=cT.1 hy
    obtain⟨-,-,-,h3,-⟩:=hC.ent j y hj
    omega
   obtain⟨oa,oln,ocp,rfl,hol2⟩:=hO2.form
   rw [gE us2 l2 hul2] at hol2
   obtain rfl:oln=l2.length:=by omega
   have hen:=aQo (.slice oa l2.length ocp) us2 l2 oQ h260
   have h2:=aQw (tr:=i.rtr) h hx hI.r hDR hI.w8 hRt hSR hK' oQ (lv:=.slice oa l2.length ocp) (us:=us2) (l:=l2) oQ rfl
   rw [hX] at h2
   obtain⟨e,σ2,r2,x2,hcm,hI2,hH2⟩:=hio l2
   rw [hcm] at h2
   dsimp only at h2
   refine W.k ?_
   refine aG hen ?_ (hpre:=fun w2 hs=>hC.ents [] hwE hO2 hs)
   rintro ev _ ⟨us3,HE,HQ3,hL3,hR3,rfl⟩
   have oL3:=hL3.isOne
   have h1:=aBx (tr:=i.tr) h hx hI.r hD hI.w8 hSt hB hS hK hL3 hR3.rb oQ rfl
   rw [hcm] at h1
   dsimp only at h1
   have hul3:us3.length=l2.length:=by rw [hR3.rb.1,aD]
   have hec3:=gE us3 l2 hul3
   obtain⟨ea,eln,ecp,rfl,hel3⟩:=hL3.form
   rw [hec3] at hel3
   obtain rfl:eln=l2.length:=by omega
   refine W.k ?_
   refine aG h1 ?_
   rintro _ _ ⟨Hd2,HS2,Hs2,Hk2,β2,rfl,hD2,hSt2,hB2,hS2,rfl⟩
   refine W.j ?_
   refine bW [0,3,6] HQ3 (fun _:Hp=>[]) (fun y=>y) (fun _=>True) ?_ ?_
   ·refine W.k ?_
    refine bF [0,3,6,36,37] (fun y:XoS=>[(38,.int .i64 (y.k:Int))]) (fun y=>y.HA++y.HB) (fun y=>l2.length-y.k) (fun y=>y.k≤l2.length∧eQ (us3.drop y.k) ((l2.map Prod.snd).drop y.k) y.HB) ⟨0,[],HQ3⟩ ⟨Nat.zero_le _,hR3⟩ ?_
    rintro⟨k,HA,HB⟩ ⟨hk,hOw⟩
    dsimp only at hk hOw ⊢
    by_cases hkn:k<l2.length
    ·rcases hL3 with ⟨hz,hz2,-⟩|⟨eb,elen,ecap,ejunk,hz,hexl,hej,hec,rfl⟩
     ·rw [hz2] at hec3;simp at hec3;omega
     simp only [Value.slice.injEq] at hz
     obtain⟨rfl,rfl,rfl⟩:=hz
     have huk:=aA (show k<us3.length by omega)
     have hx0:=aA hkn
     have hrow:=xQ (junk:=ejunk) hul3 huk hx0
     obtain⟨b,H1,H2,rfl,hbk,hb1,hb2⟩:=hOw.drop huk
     have hb6:b.length≤1000000:=by
      rw [aH,hx0] at hbk
      simp only [Option.map_some,dF] at hbk
      rw [← hbk]
      exact h260 _ (aS hx0)
     generalize us3[k]=u at *
     generalize l2[k]=z at *
     obtain⟨ua,ul,uc,rfl,hbl⟩:=hb1.form
     rw [aI,Nat.mul_one] at hbl
     rcases hb1 with ⟨hz,hz2,rfl⟩|⟨ub,ulen,ucap,ujunk,hz,huxl,huj,huc,rfl⟩
     ·simp only [Value.slice.injEq] at hz
      obtain⟨rfl,rfl,rfl⟩:=hz
      refine W.k fun b_=>?_
      refine bF [0,3,6,8,36,37,38,44] (fun y:Unit=>[(45,.int .i64 0)]) (fun _=>[]) (fun _=>0) (fun _=>True) () trivial ?_
      rintro⟨⟩ -
      refine W.k ?_
      refine aQ.mk ⟨k+1,HA++[],H2⟩ ?_
      exact⟨hkn,hb2⟩
     ·simp only [Value.slice.injEq] at hz
      obtain⟨rfl,rfl,rfl⟩:=hz
      refine W.k fun b_=>?_
      refine bF [0,3,6,8,36,37,38,44] (fun y:Nat×List UInt8=>[(45,.int .i64 (y.1:Int))]) (fun y=>[(ub,cl (cbs y.2++ujunk) 5)]) (fun y=>ul-y.1) (fun y=>y.1≤ul∧y.2.length=ul) (0,b) ⟨Nat.zero_le _,hbl⟩ ?_
      rintro⟨j,b2⟩ ⟨hj,hb2l⟩
      dsimp only at hj hb2l ⊢
      by_cases hjl:j<ul
      ·have hjb:=aA (show j<b2.length by omega)
       have hlv:(cbs b2++ujunk)[j]?=some (.int .u8 (b2[j].toNat:Int)):=by
        rw [aO (by rw [aI];omega),aH,hjb];rfl
       have hst:=aJB (xs:=b2) (i:=j) oQ (b2[j] ^^^ 5) ujunk
       have hfit:j<(cbs b2++ujunk).length:=by rw [aB,aI];omega
       haveI:U8 (5:Int) 5:=⟨rfl⟩
       generalize b2[j]=y0 at *
       refine W.k ?_
       rw [hst]
       refine aQ.mk (j+1,b2.set j (y0 ^^^ 5)) ?_
       exact⟨hjl,by dsimp only;rw [bQ];exact hb2l⟩
      ·obtain rfl:j=ul:=by omega
       refine W.k ?_
       refine aQ.mk ⟨k+1,HA++[(ub,cl (cbs b2++ujunk) 5)],H2⟩ ?_
       exact⟨hkn,hb2⟩
    ·refine W.k ?_
     refine bZ.mk (HA++HB) ?_
     exact trivial
   rintro H3 -
   refine W.k ?_
   (refine SW.l [7] [0,1,2,3,4,5,6] ?_;refine bV 7 ?_)
   refine aG h2 ?_ (hpre:=fun w2 hs=>hC.ents ((i.rtr,cl (rtc i.rd r) 120)::(HT++(HD++HR))) hwE hO2 hs)
   rintro _ _ ⟨HD2,HT2,HR2,rfl,hDR2,hRt2,hSR2,rfl⟩
   (refine SL.l [8,9,10] ?_)
   refine W.k ?_
   refine Fin.to (nQ i p t pp (ptv sp) (ptv rsp) r2 Hd2 Hs2 Hk2 HD2 HR2 HS2 HT2) ?_
   exact F.f1 ⟨rfl,σ2,r2,_,β2,some x2,⟨i,ptv sp,ptv rsp,Hd2,Hs2,Hk2,HD2,HR2,HS2,HT2,hD2,hS2,hB2,hDR2,hSR2,⟨sp,rfl,hSt2⟩,⟨rsp,rfl,hRt2⟩,rfl⟩,hI2,fun Q Q' hQ hq=>by have:=hQ.cm l2 hI hq;rw [hcm] at this;exact this⟩
theorem aQS(h:Gm.Ok p t)(hP:aAe pp p t n N ws ws' σ r sr β o H)(hI:Inv p t σ r o)(hK:qB n ws)(hK':qB n ws')(hN:N≤1000000)(hX:Rg.enc ws' n=Aes.enc ws n)(a:lX)(us:List Value)(l:List Ent)(hl:l.length≤maxLen)(ha : -9223372036854775808≤a.at'∧a.at'≤9223372036854775807) :
  aQn pp p t n N ws ws' σ r sr o H a us l:=by
 by_cases h1:a.kind=0∨a.kind=1∨a.kind=2
 ·exact aQL h hP hI hK hK' hN hX a us l hl h1
 by_cases h2:a.kind=3
 ·exact aQO h hP hI hK hK' hX a us l hl h2
 by_cases h3:a.kind=6∨a.kind=7
 ·exact aQN h hP hI hK hK' hN hX a us l hl h3
 exact aQM h hP hI a us l hl ha oQ
end
def i64(x:Int):Prop := -9223372036854775808≤x∧x≤9223372036854775807
abbrev P34(k:List UInt8)(pp N:Nat)(σ:Dv)(r:Rg)(sr:Sr)(β:Bk)(o:Option So)(H:Hp):Prop:=aAe pp 3 4 10 N (Aes.sched k) (Rg.sched k) σ r sr β o H
theorem aQy(k:List UInt8)(hk:k.length=16){cnt:Int}(h0:0≤cnt)(h1:cnt≤18446744073709551615):Tri prog 21 [.agg (cbs k).toArray,.int .u64 cnt] [] (fun _=>True)
  (fun v H=>∃ pp σ r sr β o,v=.tuple #[ptv pp,.bool true]∧P34 k pp 200 σ r sr β o H∧Inv 3 4 σ r o∧nP r sr o):=by
 have hbeg:=aCh yK k hk (cnt:=cnt) h0 h1
 have hX:=aNw k hk
 have hK:=xK k hk
 have hK':=aIY k hk
 have hI0:Inv 3 4 (Dv.new (4*Gm.total 3 4:Nat)) (rg0 cnt) none:=⟨by have:=(aB3 (4*Gm.total 3 4) dQ).len;omega,aKE h0 h1,by simp⟩
 have hH0:nP (rg0 cnt) Sr.new none:=⟨rfl,by simp [Sr.new],by simp⟩
 have hif:=hI0.format (X:=dT (Aes.enc (Aes.sched k) 10))
 have hpf:=fun pp H hP=>aIJ (pp:=pp) (H:=H) (o:=none) (N:=0) (sr:=Sr.new) (β:=Bk.new) (σ:=Dv.new (4*Gm.total 3 4:Nat)) (r:=rg0 cnt) yK hP hI0.len hI0.r hK hK' oQ hX
 have hh1:=hif.2 Sr.new hH0
 have hi1:=hif.1
 clear hif
 generalize wA 3 (Dv.new (4*Gm.total 3 4:Nat)) (rg0 cnt) Sr.new=sr1 at *
 generalize zJ 3 4 10 (Aes.sched k) (Dv.new (4*Gm.total 3 4:Nat)) (rg0 cnt) Bk.new=β1 at *
 generalize nF 3 4 (dT (Aes.enc (Aes.sched k) 10)) (Dv.new (4*Gm.total 3 4:Nat),rg0 cnt)=FF at *
 obtain⟨e1,σ1,r1⟩:=FF
 dsimp only at hpf hi1 hh1
 have hpo:=fun pp H hP=>aL5 (pp:=pp) (H:=H) (n:=10) (N:=0+200) (ws:=Aes.sched k) (ws':=Rg.sched k) (sr:=sr1) (β:=β1) (o:=none) (σ:=σ1) (r:=r1) yK hP hi1.len hi1.r true
 have hio:=hi1.open true
 have hh2:=hio.2 sr1 hh1
 have hi2:=hio.1
 clear hio
 generalize jJ 3 4 true σ1 r1=o2 at *
 generalize qM 3 4 true σ1 r1 β1=β2 at *
 generalize iS 3 4 true (σ1,r1)=F2 at *
 obtain⟨e2,σ2,r2⟩:=F2
 dsimp only at hpo hi2 hh2
 clear hI0 hH0 hi1 hh1 hX hK hK'
 refine Tri.mk func21 rfl ntmps21 rfl fun w hw=>?_
 have hk0:(cbs k).length=16:=by rw [aI];exact hk
 (refine W.k ?_;repeat intro b_)
 (refine SW.l [3] [1,2] ?_;refine aX 0 ?_)
 refine W.cq uU ?_
 (refine bK [] ?_;refine bV 3 ?_)
 refine aG hbeg ?_
 rintro _ H1 ⟨pp,rfl,hP⟩
 (refine SL.l [4,5] ?_)
 (refine W.k ?_;repeat intro b_)
 refine aG (hpf pp H1 hP) ?_
 rintro _ H2 ⟨rfl,hP2⟩
 (refine W.k ?_;repeat intro b_)
 refine aG (hpo pp H2 hP2) ?_
 rintro _ H3 ⟨rfl,hP3⟩
 (refine W.k ?_;repeat intro b_)
 refine Fin.to H3 ?_
 exact F.f2 ⟨pp,σ2,r2,sr1,β2,o2,rfl,hP3,hi2,hh2⟩
theorem aM9.k{w:World}{a:lX}(h:aM9 w a):∃ us l,aQa [] w a us l∧l.length≤maxLen:=by
 obtain⟨us,l,h1,h2,-⟩:=h.l
 exact⟨us,l,⟨h1,h.b,h.p⟩,h2⟩
theorem aQa.ro{K:List Nat}{w0 w:World}{H Hc r:Hp}{a:lX}{us:List Value}{l:List Ent}(h:aQa K w0 a us l)(hs:St K w0 H w) [hp:fT H Hc r]:aQa (Hc.map Prod.fst) w a us l:=
 ⟨h.1.ro hs,h.2.1.elim fun b hb=>⟨b,hb.ro hs⟩,h.2.2.elim fun b hb=>⟨b,hb.ro hs⟩⟩
structure PlS where
 i:Nat
 N:Nat
 σ:Dv
 r:Rg
 sr:Sr
 β:Bk
 o:Option So
 H:Hp
theorem aQK{l ys:List Value}{ob len i:Nat}(h:(l.drop ob).take (len*9)=ys)(hi:i<len):(l.drop (ob+i*9)).take 9=(ys.drop (i*9)).take 9:=by
 rw [← h,jU,fR,cM,dA oQ]
theorem aQx{sp c b n:Nat}{ws:List (List UInt8)}{s:Sr}{H:Hp}(hS:lI sp c b n ws s H)(htw:s.twice=none) :
  Tri prog 31 [ptv sp] H (fun _=>True) (fun r H'=>r=.tuple #[.agg [(.int .u64 0:Value),.int .i64 0].toArray,.bool false]∧H'=H):=by
 obtain⟨m,tv,us,Hc,Hw,Ht,rfl,hC,hT,hus,hall⟩:=hS
 refine Tri.mk func31 rfl ntmps31 rfl fun w hw=>?_
 rw [htw] at hT
 obtain⟨ta,tl,tc,rfl,htl⟩:=hT.form
 have htl0:tl=0:=by simp [twC] at htl;omega
 subst htl0
 (refine W.k ?_;repeat intro b_)
 refine rP ((sp,cl [ptv c,.map (some m),.slice ta 0 tc] 170)::(m,moS noC (usM us))::((Hc++[(b,gU)])++(Hw++Ht))) [.int .u64 0,.int .i64 0] ?_
 exact⟨rfl,rfl⟩
theorem aQf(k:List UInt8)(hk:k.length=16)(a:Option Addr)(len cap:Nat)(ys:List Value)(hml0:len≤maxLen) :
  Tri prog 8 [.agg (cbs k).toArray,.slice a len cap] [] (fun w=>aMH w a len cap ys) (fun v H=>v=.bool true):=by
 have hX:=aNw k hk
 have hK:=xK k hk
 have hK':=aIY k hk
 have hbg:=aQy k hk (cnt:=0) dQ dQ
 have hclo:=aQH (p:=3) (t:=4) (X:=dT (Aes.enc (Aes.sched k) 10)) (fun e j b=>oS (E:=Aes.enc (Aes.sched k) 10) (fun y=>Aes.enc_len ..) e j b) yK
 have hstep:=fun (pp N:Nat) (σ:Dv) (r:Rg) (sr:Sr) (β:Bk) (o:Option So) (H:Hp) (hN:N≤1000000) (hP:P34 k pp N σ r sr β o H) (hI:Inv 3 4 σ r o) (a:lX) us l hl ha=>aQS (pp:=pp) (N:=N) yK hP hI hK hK' hN hX a us l hl ha
 refine Tri.mk func8 rfl ntmps8 rfl fun w hw=>?_
 obtain⟨hrd0,hops⟩:=hw
 obtain⟨a',len',cap',he,hyl,hcap,hrd⟩:=hrd0.get
 cases he
 have hml:len≤9223372036854775807:=fA hml0 dQ
 have hk0:(cbs k).length=16:=by rw [aI];exact hk
 (refine W.k ?_;repeat intro b_)
 refine aG hbg ?_
 rintro _ H1 ⟨pp,σ,r,sr,β,o,rfl,hP1,hI,hH⟩
 clear hbg
 (refine W.j ?_;repeat intro b_)
 refine bW [5] H1 (fun _:PlS=>[]) (fun y=>y.H) (fun y=>P34 k pp y.N y.σ y.r y.sr y.β y.o y.H∧nP y.r y.sr y.o) ?_ ?_
 ·(refine W.k ?_;repeat intro b_)
  refine bF [5,18,19] (fun y:PlS=>[(20,.int .i64 (y.i:Int))]) (fun y=>y.H) (fun y=>len-y.i) (fun y=>y.i≤len∧y.i≤25∧y.N=200+1000*y.i∧P34 k pp y.N y.σ y.r y.sr y.β y.o y.H∧Inv 3 4 y.σ y.r y.o∧nP y.r y.sr y.o) ⟨0,200,σ,r,sr,β,o,H1⟩ ⟨Nat.zero_le _,Nat.zero_le _,rfl,hP1,hI,hH⟩ ?_
  clear hP1 hI hH
  rintro⟨ii,N,σ,r,sr,β,o,H⟩ ⟨hi,hi25,hN,hP,hI,hH⟩
  dsimp only at hi hi25 hN hP hI hH ⊢
  by_cases hil:ii<len
  ·obtain⟨ad,ho,hrow⟩:=hops ii hil
   obtain⟨blk0,ob,lr,T,fz,rfl,hb,hbk,hys⟩:=hrd oQ
   have hrow2:=(aQK hys hil).trans hrow
   have hol:ad.c.length=9:=rfl
   obtain⟨us,l,hA,hl⟩:=ho.k
   have hoc:OC ad.c:=hA.one
   by_cases c25:25≤ii
   ·(refine W.k ?_;repeat intro b_)
    refine bZ.mk ⟨ii,N,σ,r,sr,β,o,H⟩ ?_
    exact⟨hP,hH⟩
   ·have hst:=hstep pp N σ r sr β o H oQ hP hI ad us l hl (by have:=ho.i;exact⟨this.1,this.2⟩)
    (refine W.k ?_;repeat intro b_)
    refine aG hst ?_ (hpre:=fun w2 hs=>hA.ro (Hc:=H) hs)
    rintro _ H2 ⟨rfl,σ2,r2,sr2,β2,o2,hP2,hI2,hH2⟩
    (refine W.k ?_;repeat intro b_)
    refine aQ.mk ⟨ii+1,N+1000,σ2,r2,sr2,β2,o2,H2⟩ ?_
    exact⟨hil,by dsimp only;omega,by dsimp only;omega,hP2,hI2,hH2 _ _ hclo hH⟩
  ·(refine W.k ?_;repeat intro b_)
   refine bZ.mk ⟨ii,N,σ,r,sr,β,o,H⟩ ?_
   exact⟨hP,hH⟩
 rintro⟨ii,N,σ,r,sr,β,o,H⟩ ⟨hP,hH⟩
 dsimp only at hP hH ⊢
 obtain⟨i,sv,rv,Hd,Hs,Hk,HD,HR,HS,HT,hD,hS,hB,hDR,hSR,hO,hOR,rfl⟩:=hP
 have os:=hO.one
 have ot:=hOR.one
 have htw:=aQx hS hH.one
 (refine W.k ?_;repeat intro b_)
 refine W.cw htw ?_;repeat intro b_
 refine W.cw pJ ?_;repeat intro b_
 refine Fin.to [] ?_
 exact F.f1 rfl
end
end Go.Proofs.YtnhnpjokpelkbaaGreat
